/- Rows.CompactBoundsSaid -/
import Derived.Test.YtaopfagclnocdaaGreatCU21
import Derived.Test.YtaopfagclnocdaaGreatCU17
namespace Go.Proofs.YtaopfagclnocdaaGreat
open Go.RowKit
set_option linter.unusedVariables false
set_option maxHeartbeats 64000000
set_option maxRecDepth 100000
attribute [-go_sem] run_eql_struct
variable {F0:List Nat} {w0 w:World} {R:List Asrt}
abbrev QF (b:Nat) (v:Value):Asrt:=Cells b #[v,.int .i64 256,.int .i64 0] 92
abbrev QD (b:Nat) (v:Value):Asrt:=Cells b #[v] 102
def VF (F0:List Nat) (w0:World) (R:List Asrt) (v:Value) (L:List Fl):Prop:=∀ W,In F0 w0 W R→∃ F,ViewA 8 v L.length (flatF L) W F
theorem VF.more {v:Value} {L:List Fl} (h:VF F0 w0 R v L) (A:Asrt):VF F0 w0 (A::R) v L:=fun W hW=>h W hW.drop
theorem VF.row {v:Value} {L:List Fl}:VF F0 w0 (RowA 43 8 v L.length (flatF L)::R) v L:=fun W hW=>by
 obtain⟨F,hF⟩:=hW.get 0 rfl
 exact⟨F,hF.view⟩
theorem q_rtime (t:Int) (w:World):Calls Tryz.prog 124 #[.int .i64 t] w fun e w'=>e=.returned (.bool (inB t 1099511627776))∧w'=w:=by
 by_cases h0:0≤t
 ·by_cases h1:t≤1099511627776
  ·have e:inB t 1099511627776=true:=decide_eq_true ⟨h0,h1⟩
   rw [e];clear e
   go_enter Tryz.func124,Tryz.ntmps124
   go_wp2_with fail
   go_ret
   exact⟨rfl,rfl⟩
  ·have e:inB t 1099511627776=false:=decide_eq_false (fun h=>h1 h.2)
   have h1:decide (t≤1099511627776)=false:=by simp;omega
   rw [e];clear e
   go_enter Tryz.func124,Tryz.ntmps124
   go_wp2_with fail
   go_ret
   exact⟨rfl,rfl⟩
 ·have e:inB t 1099511627776=false:=decide_eq_false (fun h=>h0 h.1)
  have h1:decide (0≤t)=false:=by simp;omega
  rw [e];clear e h0
  go_enter Tryz.func124,Tryz.ntmps124
  go_wp2_with fail
  go_ret
  exact⟨rfl,rfl⟩
theorem o_qmayf (h:In F0 w0 w R) {f:Fl} (hf:MayF f):Calls Tryz.prog 121 #[.agg (encF f)] w fun e w'=>e=.returned (.bool true)∧In F0 w0 w' R:=by
 obtain⟨ht,b0,b1,g0,g1,t0,t1⟩:=hf
 have H1:Hid (Calls Tryz.prog 116 #[.agg (encT f.t)] (w.alloc (.cells (encF f) 43)) fun e w'=>e=.returned (.bool true)∧In F0 w0 w' (Cells w.heap.size (encF f) 43::R)):=by
  have:=o_qmayt f.t (h.cells (encF f) 43)
  rw [decide_eq_true ht] at this
  exact Lib.hid this
 have H2:Hid (∀ w',Calls Tryz.prog 124 #[.int .i64 f.seen] w' fun e w''=>e=.returned (.bool true)∧w''=w'):=Lib.hid fun w'=>by
  have:=q_rtime f.seen w'
  rwa [show inB f.seen 1099511627776=true from decide_eq_true ⟨t0,t1⟩] at this
 clear h ht
 go_enter Tryz.func121,Tryz.ntmps121
 go_wp2_with fail
 refine H1.out.mono ?_
 rintro e w1 ⟨rfl,ho⟩
 generalize w.heap.size=fb at *
 obtain⟨f0,f1,f2,f3,f4,f5,f6,f7⟩:=o_fl0 ho 0 rfl
 have HO:=Lib.hid ho.drop
 clear ho H1
 go_wp2_with fail
 refine (H2.out _).mono ?_
 rintro e w2 ⟨rfl,rfl⟩
 go_wp2_with fail
 go_ret
 exact⟨rfl,HO.out⟩
/-! ### where one stands -/
def QAtRel (fb:Nat) (v:Value) (L:List Fl) (tb:Nat) (t:Tup) (F0:List Nat) (w0:World) (R:List Asrt) (k:Value) (wr:World):Prop:=
 ∃ j:Nat,k=.int .i64 j∧j≤L.length∧(∀ y∈L.take j,y.t≠t)∧In F0 w0 wr (Cells tb (encT t) 41::QF fb v::R)
def QAtPost (fb:Nat) (v:Value) (L:List Fl) (t:Tup) (F0:List Nat) (w0:World) (R:List Asrt) (e:Ending) (w':World):Prop:=
 e=.returned (.int .i64 (atIx L t))∧In F0 w0 w' (QF fb v::R)
theorem o_qat {fb:Nat} {v:Value} {L:List Fl} (h:In F0 w0 w (QF fb v::R)) (hl:L.length≤1000000) (hV:VF F0 w0 R v L) (t:Tup) :
  Calls Tryz.prog 122 #[.pointer (some ⟨fb,0,none⟩),.agg (encT t)] w (QAtPost fb v L t F0 w0 R):=by
 obtain⟨F1,hv1⟩:=hV w h.drop
 obtain⟨a,cap,rfl,l1,l2⟩:=hv1.shape
 have HAT:Hid (∀ W,In F0 w0 W R→0 < L.length→∃ g o,a=some ⟨g,o,none⟩∧∀ (j:Nat) (x:Fl),L[j]?=some x→FlAt W g (o+j * 8) x):=Lib.hid fun W hW h0=>by
  obtain⟨F,hF⟩:=hV W hW
  exact view_flow hF h0
 have hB:=h.cells (encT t) 41
 have c0:(w.alloc (.cells (encT t) 41)).cell? ⟨fb,0,none⟩=some (.slice a L.length cap):=cell_of (hB.block 1 rfl) rfl
 have HS:Hid (QAtRel fb (.slice a L.length cap) L w.heap.size t F0 w0 R (.int .i64 0) (w.alloc (.cells (encT t) 41))):=Lib.hid ⟨0,rfl,Nat.zero_le _,by simp,hB⟩
 have hm:Tryz.prog.eqGuardType Tryz.prog.depth 41=false:=by kernel_rfl
 clear h hV hv1 hB l1 l2
 go_enter Tryz.func122,Tryz.ntmps122
 go_wp2_with fail
 clear c0
 generalize w.heap.size=tb at *
 go_loopw [5,6,12] (fun _ _ k wr=>QAtRel fb (.slice a L.length cap) L tb t F0 w0 R k wr) (fun _ _ k _=>L.length - (intOf k).toNat)
 case atStart=>exact HS.out
 case round=>
  obtain⟨j,rfl,hj,hno,ho⟩:=hrel
  clear HS
  by_cases hlt:j < L.length
  ·obtain⟨x,hx⟩:∃ x,L[j]?=some x:=⟨L[j],List.getElem?_eq_getElem hlt⟩
   obtain⟨g,o,rfl,hc⟩:=HAT.out wr ho.drop.drop (by omega)
   obtain⟨x0,x1,x2,x3,x4,x5,x6,x7⟩:=hc j x hx
   have hB:=(ho.alloc (.cells (encF x) 43)).block 0 rfl
   have t0:=cell_of (o:=0) hB rfl
   have t1:=cell_of (o:=1) hB rfl
   have t2:=cell_of (o:=2) hB rfl
   have t3:=cell_of (o:=3) hB rfl
   have t4:=cell_of (o:=4) hB rfl
   have i1:(j:Int) < (L.length:Int):=by omega
   have HTE:=Lib.hid (tup_eq x.t t)
   by_cases he:x.t=t
   ·have hq:∀ w,(binOp .eql 41 (.agg (encT x.t)) (.agg (encT t))).run Tryz.prog w=.ok (.bool true) w:=fun w=>by rw [HTE.out];simp [he]
    have HG:Hid (QAtPost fb (.slice (some ⟨g,o,none⟩) L.length cap) L t F0 w0 R (.returned (.int .i64 j)) (wr.alloc (.cells (encF x) 43))):=Lib.hid ⟨by rw [atIx_hit hx he hno],ho.drop.alloc _⟩
    clear ho hc hx hB hno he HTE hlt
    go_wp2_with fail
    go_ret
    exact HG.out
   ·have hq:∀ w,(binOp .eql 41 (.agg (encT x.t)) (.agg (encT t))).run Tryz.prog w=.ok (.bool false) w:=fun w=>by rw [HTE.out];simp [he]
    have HR:Hid (QAtRel fb (.slice (some ⟨g,o,none⟩) L.length cap) L tb t F0 w0 R (.int .i64 (j+1)) (wr.alloc (.cells (encF x) 43))):=Lib.hid ⟨j+1,by congr 1,by omega,fun y hy=>by
     rw [List.take_add_one,hx] at hy
     rcases List.mem_append.1 hy with hy | hy
     ·exact hno y hy
     ·simp at hy;subst hy;exact he,ho.alloc _⟩
    clear ho hc hx hB hno he HTE hlt
    go_wp2_with fail
    go_roundw
    case rel=>exact HR.out
    case measure=>simp [intOf];omega
  ·have hge:(L.length:Int)≤(j:Int):=by omega
   have HG:Hid (QAtPost fb (.slice a L.length cap) L t F0 w0 R (.returned (.int .i64 (-1))) wr):=Lib.hid (by
    rw [List.take_of_length_le (by omega)] at hno
    exact⟨by rw [atIx_none hno],ho.drop⟩)
   clear ho hno hlt
   go_wp2_with fail
   go_ret
   exact HG.out
end Go.Proofs.YtaopfagclnocdaaGreat
