/- Rows.CompactBoundsSaid -/
import Derived.Test.YtaopfagclnocdaaGreatCU19
import Derived.Test.YtaopfagclnocdaaGreatCU11
import Derived.Laws.StructEq
namespace Go.Proofs.YtaopfagclnocdaaGreat
open Go.RowKit
set_option linter.unusedVariables false
set_option maxHeartbeats 64000000
set_option maxRecDepth 100000
theorem tup_ext {s t:Tup}:s=t↔s.src=t.src∧s.dst=t.dst∧s.proto=t.proto∧s.sport=t.sport∧s.dport=t.dport:=by
 obtain⟨a1,a2,a3,a4,a5⟩:=s
 obtain⟨b1,b2,b3,b4,b5⟩:=t
 simp
theorem tup_eq (s t:Tup) (w:World):(binOp .eql 41 (.agg (encT s)) (.agg (encT t))).run Tryz.prog w=.ok (.bool (decide (s=t))) w:=by
 rw [run_eql_struct,run_equalIn_agg]
 ·go_simp
  rw [show decide (s=t)=decide (s.src=t.src∧s.dst=t.dst∧s.proto=t.proto∧s.sport=t.sport∧s.dport=t.dport) from decide_eq_decide.2 tup_ext]
  repeat' split
  all_goals simp_all
 ·kernel_rfl
 ·kernel_rfl
attribute [-go_sem] run_eql_struct
theorem flatF_at:∀ {L:List Fl} {j:Nat} {x:Fl},L[j]?=some x→∀ (c:Nat) (u:Value),(encF x)[c]?=some u→(flatF L)[j * 8+c]?=some u
 | [],j,x,h,c,u,hu=>by simp at h
 | y::r,0,x,h,c,u,hu=>by
  simp at h;subst h
  have e:flatF (y::r)=(encF y).toList++flatF r:=rfl
  have hc:c < 8:=by have:=(Array.getElem?_eq_some_iff.1 hu).1;simpa using this
  rw [e,Nat.zero_mul,Nat.zero_add,List.getElem?_append_left (by simpa using hc),Array.getElem?_toList];exact hu
 | y::r,j+1,x,h,c,u,hu=>by
  have e:flatF (y::r)=(encF y).toList++flatF r:=rfl
  have ih:=flatF_at (L:=r) (j:=j) (by simpa using h) c u hu
  rw [e,List.getElem?_append_right (by simp;omega)]
  rw [show (j+1) * 8+c - (encF y).toList.length=j * 8+c by simp;omega]
  exact ih
def FlAt (w:World) (b o:Nat) (x:Fl):Prop:=w.cell? ⟨b,o,none⟩=some (.int .u32 x.t.src)∧w.cell? ⟨b,o+1,none⟩=some (.int .u32 x.t.dst)∧w.cell? ⟨b,o+2,none⟩=some (.int .i64 x.t.proto)∧w.cell? ⟨b,o+3,none⟩=some (.int .i64 x.t.sport)∧w.cell? ⟨b,o+4,none⟩=some (.int .i64 x.t.dport)∧w.cell? ⟨b,o+5,none⟩=some (.int .i64 x.bk)∧w.cell? ⟨b,o+6,none⟩=some (.int .i64 x.gen)∧w.cell? ⟨b,o+7,none⟩=some (.int .i64 x.seen)
theorem view_flow {a:Option Addr} {n cap:Nat} {L:List Fl} {w:World} {F:List Nat} (h:ViewA 8 (.slice a n cap) L.length (flatF L) w F) (h0:0 < L.length):∃ g o,a=some ⟨g,o,none⟩∧∀ (j:Nat) (x:Fl),L[j]?=some x→FlAt w g (o+j * 8) x:=by
 obtain⟨g,o,rfl,hc⟩:=h.at h0 (by omega)
 refine⟨g,o,rfl,fun j x hx=>?_⟩
 have key:∀ c u,(encF x)[c]?=some u→w.cell? ⟨g,o+j * 8+c,none⟩=some u:=fun c u hu=>by rw [Nat.add_assoc];exact hc _ u (flatF_at hx c u hu)
 exact⟨key 0 _ rfl,key 1 _ rfl,key 2 _ rfl,key 3 _ rfl,key 4 _ rfl,key 5 _ rfl,key 6 _ rfl,key 7 _ rfl⟩
theorem o_fl0 {F0:List Nat} {w0 w:World} {R:List Asrt} {fb:Nat} {f:Fl} (h:In F0 w0 w R) (i:Nat) (hA:R[i]?=some (Cells fb (encF f) 43)):w.cell? ⟨fb,0,none⟩=some (.int .u32 f.t.src)∧w.cell? ⟨fb,1,none⟩=some (.int .u32 f.t.dst)∧w.cell? ⟨fb,2,none⟩=some (.int .i64 f.t.proto)∧w.cell? ⟨fb,3,none⟩=some (.int .i64 f.t.sport)∧w.cell? ⟨fb,4,none⟩=some (.int .i64 f.t.dport)∧w.cell? ⟨fb,5,none⟩=some (.int .i64 f.bk)∧w.cell? ⟨fb,6,none⟩=some (.int .i64 f.gen)∧w.cell? ⟨fb,7,none⟩=some (.int .i64 f.seen):=
 ⟨cell_of (h.block i hA) rfl,cell_of (h.block i hA) rfl,cell_of (h.block i hA) rfl,cell_of (h.block i hA) rfl,cell_of (h.block i hA) rfl,cell_of (h.block i hA) rfl,cell_of (h.block i hA) rfl,cell_of (h.block i hA) rfl⟩
theorem ltT_cases (a b:Tup):(a.src≠b.src∧ltT a b=decide (a.src < b.src))∨(a.src=b.src∧a.dst≠b.dst∧ltT a b=decide (a.dst < b.dst))∨(a.src=b.src∧a.dst=b.dst∧a.proto≠b.proto∧ltT a b=decide (a.proto < b.proto))∨(a.src=b.src∧a.dst=b.dst∧a.proto=b.proto∧a.sport≠b.sport∧ltT a b=decide (a.sport < b.sport))∨(a.src=b.src∧a.dst=b.dst∧a.proto=b.proto∧a.sport=b.sport∧ltT a b=decide (a.dport < b.dport)):=by
 unfold ltT
 by_cases h1:a.src=b.src
 ·by_cases h2:a.dst=b.dst
  ·by_cases h3:a.proto=b.proto
   ·by_cases h4:a.sport=b.sport
    ·simp [h1,h2,h3,h4]
    ·simp [h1,h2,h3,h4]
   ·simp [h1,h2,h3]
  ·simp [h1,h2]
 ·simp [h1]
theorem r4less (a b:Tup) (w:World):Calls Tryz.prog 189 #[.agg (encT a),.agg (encT b)] w fun e w'=>e=.returned (.bool (ltT a b))∧∃ o o',w'=(w.alloc o).alloc o':=by
 have HP:Hid (∀ C D:Array Value,∃ o o',(w.alloc (.cells C 41)).alloc (.cells D 41)=(w.alloc o).alloc o'):=Lib.hid fun C D=>⟨_,_,rfl⟩
 rcases ltT_cases a b with ⟨h1,e⟩|⟨h1,h2,e⟩|⟨h1,h2,h3,e⟩|⟨h1,h2,h3,h4,e⟩|⟨h1,h2,h3,h4,e⟩
 all_goals
  rw [e]
  clear e
  obtain⟨a1,a2,a3,a4,a5⟩:=a
  obtain⟨b1,b2,b3,b4,b5⟩:=b
  simp only at *
  go_enter Tryz.func189,Tryz.ntmps189
  go_wp2
  go_ret
  exact⟨rfl,HP.out _ _⟩
def atIx (L:List Fl) (t:Tup):Int:=match L.findIdx? (fun x=>decide (x.t=t)) with
 | some i=>i
 | none=>-1
theorem atIx_cases (L:List Fl) (t:Tup):(atIx L t=-1∧∀ x∈L,x.t≠t)∨(∃ (i:Nat) (x:Fl),atIx L t=i∧L[i]?=some x∧x.t=t∧∀ y∈L.take i,y.t≠t):=by
 unfold atIx
 cases h:L.findIdx? (fun x=>decide (x.t=t)) with
 | none=>
  left
  refine⟨rfl,fun x hx=>?_⟩
  have:=List.findIdx?_eq_none_iff.1 h x hx
  simpa using this
 | some i=>
  right
  obtain⟨hi,h1,h2⟩:=List.findIdx?_eq_some_iff_getElem.1 h
  refine⟨i,L[i],rfl,List.getElem?_eq_getElem hi,by simpa using h1,fun y hy=>?_⟩
  obtain⟨j,hj,rfl⟩:=List.mem_iff_getElem.1 hy
  rw [List.length_take] at hj
  rw [List.getElem_take]
  have:=h2 j (by omega)
  simpa using this
theorem atIx_hit {L:List Fl} {t:Tup} {j:Nat} {x:Fl} (hx:L[j]?=some x) (he:x.t=t) (hno:∀ y∈L.take j,y.t≠t):atIx L t=j:=by
 rcases atIx_cases L t with ⟨_,h⟩|⟨i,y,e,hy,hyt,hn⟩
 ·exact absurd he (h x (List.mem_of_getElem? hx))
 ·rw [e]
  congr 1
  rcases Nat.lt_trichotomy i j with h | h | h
  ·have:y∈L.take j:=List.mem_of_getElem? (i:=i) (by rw [List.getElem?_take,if_pos h];exact hy)
   exact absurd hyt (hno y this)
  ·exact h
  ·have:x∈L.take i:=List.mem_of_getElem? (i:=j) (by rw [List.getElem?_take,if_pos h];exact hx)
   exact absurd he (hn x this)
theorem atIx_none {L:List Fl} {t:Tup} (h:∀ x∈L,x.t≠t):atIx L t=-1:=by
 rcases atIx_cases L t with ⟨e,_⟩|⟨i,y,e,hy,hyt,hn⟩
 ·exact e
 ·exact absurd hyt (h y (List.mem_of_getElem? hy))
theorem infoFlow:(Tryz.prog.info? 43).map (fun i=>(i.zero.map (fun z=>z.cells.size),i.size,i.bytes))=some (some 8,8,56):=by kernel_rfl
end Go.Proofs.YtaopfagclnocdaaGreat
