/- Rows.CompactBoundsSaid -/
import Derived.Test.YtaopfagclnocdaaGreatCU32
import Derived.Test.YtaopfagclnocdaaGreatCU7
import Derived.Test.YtaopfagclnocdaaGreatCU19
import Derived.Test.YtaopfagclnocdaaGreatCU26
import Derived.Test.YtaopfagclnocdaaGreatCU27
import Derived.Test.YtaopfagclnocdaaGreatCU29
import Derived.Test.YtaopfagclnocdaaGreatCU4
import Derived.Test.YtaopfagclnocdaaGreatCU5
import Derived.Deep.MidRow
import Derived.LoopTactic
import Derived.Deep.DeepCutAuto
namespace Go.Proofs.YtaopfagclnocdaaGreat
open Go.RowKit
set_option linter.unusedVariables false
set_option maxHeartbeats 64000000
set_option maxRecDepth 100000
theorem sized_eq (n:Int):((sized n:Nat):Int)=max 16 (min n 1048576):=by unfold sized;omega
section
variable {F0:List Nat} {w0 w:World} {R:List Asrt} {bd lb:Nat} {d:DiskD} {l:LogD}
theorem o_sized (n:Int) (w:World):Calls Tryz.prog 92 #[.int .i64 n] w fun e w'=>e=.returned (.int .i64 (sized n))∧w'=w:=by
 have HE:=Lib.hid (sized_eq n)
 go_enter Tryz.func92,Tryz.ntmps92
 go_wp2_with fail
 go_ret
 exact⟨by rw [HE.out];rfl,rfl⟩
theorem cells_row {b:Nat} {u:Value} {T:TypeId} (h:In F0 w0 w (Cells b #[u] T::R)):In F0 w0 w (RowA T 1 (.slice (some ⟨b,0,none⟩) 1 1) 1 [u]::R):=
 h.imp (A':=RowA T 1 (.slice (some ⟨b,0,none⟩) 1 1) 1 [u]) 0 rfl (RowA.framed _ _ _ _ _) fun F ⟨hF,hb⟩=>⟨hF,rfl,Or.inr ⟨b,1,#[u],rfl,Nat.zero_le _,hb,Nat.le_refl _,by unfold maxLen;omega,rfl,rfl⟩⟩
theorem o_create1 (h:In F0 w0 w (DkA bd d::R)) (ho:d.ops≤99999990) {db:Nat} (j:Nat) (hj:R[j]?=some (Cells db #[dptr bd] 25)) :
  Calls Tryz.prog 85 #[.pointer (some ⟨db,0,none⟩)] w fun e w'=>e=.returned (.int .i64 (beginD 1 d).2)∧In F0 w0 w' (DkA bd (beginD 1 d).1::R):=by
 have c0:w.cell? ⟨db,0,none⟩=some (dptr bd):=cell_of (h.block (j+1) hj) rfl
 have C:=Lib.hid (show Calls Tryz.prog 86 #[dptr bd,.int .i64 1] w fun e w'=>e=.returned (.int .i64 (beginD 1 d).2)∧In F0 w0 w' (DkA bd (beginD 1 d).1::R) from o_begin h 0 rfl ho 1 (by omega))
 clear h hj
 go_enter Tryz.func85,Tryz.ntmps85
 go_wp2_with fail
 refine C.out.mono ?_
 rintro e w1 ⟨rfl,g⟩
 have G:=Lib.hid g
 clear g C
 go_wp2_with fail
 go_ret
 exact⟨rfl,G.out⟩
theorem o_create2 (h:In F0 w0 w (DkA bd d::R)) (ho:d.ops≤99999990) {db:Nat} (j:Nat) (hj:R[j]?=some (Cells db #[dptr bd] 25)) :
  Calls Tryz.prog 87 #[.pointer (some ⟨db,0,none⟩)] w fun e w'=>e=.returned (.int .i64 (dSync d (segName 1)).2)∧In F0 w0 w' (DkA bd (dSync d (segName 1)).1::R):=by
 have HP:Hid (∀ w' d',In F0 w0 w' (DkA bd d'::R)→w'.cell? ⟨db,0,none⟩=some (dptr bd)):=Lib.hid fun w' d' h'=>cell_of (h'.block (j+1) hj) rfl
 have HW:=Lib.hid (HP.out w d h)
 have C1:=Lib.hid (fun n=>(show Calls Tryz.prog 89 #[.int .i64 1] (w.drewN n) fun e w'=>e=.returned (.string (segName 1))∧In F0 w0 w' (DkA bd d::R) from o_name (h.drewN n) 1 (by omega)))
 have C2:=Lib.hid (fun w' (h':In F0 w0 w' (DkA bd d::R))=>o_dsync h' 0 rfl (by omega) (segName 1) (segName_size _))
 clear h hj
 generalize segName 1=nm at *
 go_enter Tryz.func87,Tryz.ntmps87
 go_wp2_with fail
 go_region_held3 (fun w'=>w'.cell? ⟨db,0,none⟩=some (dptr bd)) (first | exact HW.out | exact hc2 | exact hc1) (first
  | (go_at_call 89;refine (C1.out 1).mono ?_;rintro e w1 ⟨rfl,g1⟩;have hc1:=HP.out w1 _ g1;have K2:=Lib.hid (C2.out w1 g1);clear g1)
  | (go_at_call 88;refine K2.out.mono ?_;rintro e w2 ⟨rfl,g2⟩;have hc2:=HP.out w2 _ g2;have G:=Lib.hid g2;clear g2))
 go_wp2_with fail
 go_ret
 exact⟨rfl,G.out⟩
theorem o_create3 (m:ManD) {A:Option Addr} {c:Nat} (h:In F0 w0 w (DkA bd d::SegR A c m.segs::R)) (ho:d.ops≤99999990) (hn:m.segs.length≤1000000000) {db mb:Nat} (j k:Nat) (hj:R[j]?=some (Cells db #[dptr bd] 25)) (hk:R[k]?=some (Cells mb #[.int .i64 m.ver,.int .i64 m.next,.slice A m.segs.length c] 160)) :
  Calls Tryz.prog 90 #[.pointer (some ⟨db,0,none⟩),.pointer (some ⟨mb,0,none⟩)] w fun e w'=>e=.returned (.int .i64 (commitD m d).2.2)∧In F0 w0 w' (DkA bd (commitD m d).1::SegR A c m.segs::R):=by
 have c0:w.cell? ⟨db,0,none⟩=some (dptr bd):=cell_of (h.block (j+2) hj) rfl
 have c1:w.cell? ⟨mb,0,none⟩=some (.int .i64 m.ver):=cell_of (h.block (k+2) hk) rfl
 have c2:w.cell? ⟨mb,1,none⟩=some (.int .i64 m.next):=cell_of (h.block (k+2) hk) rfl
 have c3:w.cell? ⟨mb,2,none⟩=some (.slice A m.segs.length c):=cell_of (h.block (k+2) hk) rfl
 have C:=Lib.hid (o_commit h 0 rfl ho m (A:=A) (c:=c) (fun w' h'=>by obtain⟨F',r'⟩:=h'.get 1 rfl;exact r'.all) hn)
 unfold manAgg at C
 clear h hj hk
 go_enter Tryz.func90,Tryz.ntmps90
 go_wp2_with fail
 refine C.out.mono ?_
 rintro e w1 ⟨rfl,g⟩
 have G:=Lib.hid g
 have HX:Hid (∃ x,(commitD m d).2.2=x):=Lib.hid ⟨_,rfl⟩
 clear g C
 go_wp2_with fail
 go_ret
 exact⟨rfl,G.out⟩
def createFs (m:ManD):List (DiskD→DiskD×Int):=[beginD 1,fun d=>dSync d (segName 1),fun d=>((commitD m d).1,(commitD m d).2.2)]
theorem create_all (m:ManD) {fb db mb:Nat} {A:Option Addr} {c:Nat} (ho:d.ops≤99999000) (hn:m.segs.length≤1000000000)
  (fs:List (FuncId×Array Value)) (hfs:fs=[(85,#[.pointer (some ⟨db,0,none⟩)]),(87,#[.pointer (some ⟨db,0,none⟩)]),(90,#[.pointer (some ⟨db,0,none⟩),.pointer (some ⟨mb,0,none⟩)])])
  (h:In F0 w0 w (Cells fb (fs.map fnV).toArray 72::DkA bd d::SegR A c m.segs::Cells mb #[.int .i64 m.ver,.int .i64 m.next,.slice A m.segs.length c] 160::Cells db #[dptr bd] 25::R)) :
  Calls Tryz.prog 84 #[.slice (some ⟨fb,0,none⟩) 3 3] w fun e w'=>e=.returned (.int .i64 (foldD (createFs m) d).2)∧In F0 w0 w' (DkA bd (foldD (createFs m) d).1::SegR A c m.segs::Cells mb #[.int .i64 m.ver,.int .i64 m.next,.slice A m.segs.length c] 160::Cells db #[dptr bd] 25::R):=by
 have hent1:∀ args w',(callFunc 85 args).run Tryz.prog w'=.ok (.enter 85 args) w':=enters_of Tryz.func85 (by kernel_rfl) rfl
 have hent2:∀ args w',(callFunc 87 args).run Tryz.prog w'=.ok (.enter 87 args) w':=enters_of Tryz.func87 (by kernel_rfl) rfl
 have hent3:∀ args w',(callFunc 90 args).run Tryz.prog w'=.ok (.enter 90 args) w':=enters_of Tryz.func90 (by kernel_rfl) rfl
 have hlen:fs.length=3:=by rw [hfs];rfl
 have key:=all_fn (F0:=F0) (w0:=w0) (w:=w) (fun k (s:DiskD)=>s.ops≤99999000+10 * k)
  (fun s=>DkA bd s::SegR A c m.segs::Cells mb #[.int .i64 m.ver,.int .i64 m.next,.slice A m.segs.length c] 160::Cells db #[dptr bd] 25::R) fb 72 (createFs m) fs (by rw [hlen];rfl) (by omega) d 3
  (by omega)
  (fun k f hf s hI=>by
   rcases k with _ | _ | _ | k
   ·cases hf;have:=beginD_ops 1 s;omega
   ·cases hf;have:=dSync_ops s (segName 1);show (dSync s (segName 1)).1.ops≤_;omega
   ·cases hf;have:=commitD_ops m s;show (commitD m s).1.ops≤_;omega
   ·simp [createFs] at hf)
  (fun f hf=>by
   rw [hfs] at hf
   simp only [List.mem_cons,List.not_mem_nil,or_false] at hf
   rcases hf with rfl | rfl | rfl
   ·exact hent1
   ·exact hent2
   ·exact hent3)
  (fun k f g hf hg w' s hI h'=>by
   rw [hfs] at hf
   rcases k with _ | _ | _ | k
   ·cases hf;cases hg
    have:=o_create1 (h'.sel2 (R1:=[_,_]) [1,0] (by decide) rfl) (by omega) (db:=db) 3 rfl
    exact this.mono fun e w'' ⟨he,hw⟩=>⟨he,hw.sel2 (R1:=[_,_]) [1,0] (by decide) rfl⟩
   ·cases hf;cases hg
    have:=o_create2 (h'.sel2 (R1:=[_,_]) [1,0] (by decide) rfl) (by omega) (db:=db) 3 rfl
    exact this.mono fun e w'' ⟨he,hw⟩=>⟨he,hw.sel2 (R1:=[_,_]) [1,0] (by decide) rfl⟩
   ·cases hf;cases hg
    have:=o_create3 m (h'.sel2 (R1:=[_,_,_]) [1,2,0] (by decide) rfl) (by omega) hn (db:=db) (mb:=mb) 2 1 rfl rfl
    exact this.mono fun e w'' ⟨he,hw⟩=>⟨he,hw.sel2 (R1:=[_,_,_]) [2,0,1] (by decide) rfl⟩
   ·simp at hf) h
 rw [hlen] at key
 exact key.mono fun e w' ⟨he,hw⟩=>⟨he,hw.drop⟩
def CreatePost (bd:Nat) (r:DiskD×Option LogD×Int) (F0:List Nat) (w0:World) (R:List Asrt) (e:Ending) (w':World):Prop:=
 match r.2.1 with
 | none=>e=.returned (.tuple #[.pointer none,.int .i64 r.2.2])∧In F0 w0 w' (DkA bd r.1::R)
 | some l=>∃ lb,e=.returned (.tuple #[dptr lb,.int .i64 r.2.2])∧In F0 w0 w' (LgA lb bd l::DkA bd r.1::R)
theorem createD_eq (v size:Int) (d:DiskD) (h1:¬ (v < 1∨3 < v)) (h2:(nmAt d.now nmHead).isSome=false) :
  createD v size d=if (foldD (createFs (firstM v.toNat)) d).2≠0 then ((foldD (createFs (firstM v.toNat)) d).1,none,(foldD (createFs (firstM v.toNat)) d).2) else ((foldD (createFs (firstM v.toNat)) d).1,some ⟨sized size,firstM v.toNat,false⟩,0):=by
 unfold createD;rw [if_neg h1,if_neg (by rw [h2];simp)];rfl
theorem o_create (h:In F0 w0 w (DkA bd d::R)) (ho:d.ops≤99999000) (v size:Int) :
  Calls Tryz.prog 32 #[dptr bd,.int .i64 v,.int .i64 size] w (CreatePost bd (createD v size d) F0 w0 R):=by
 have h1:=h.cells #[dptr bd] 25
 have c0:(w.alloc (.cells #[dptr bd] 25)).cell? ⟨w.heap.size,0,none⟩=some (dptr bd):=cell_of (h1.block 0 rfl) rfl
 have HERR:Hid (∀ w' x,In F0 w0 w' (DkA bd d::R)→createD v size d=(d,none,x)→CreatePost bd (createD v size d) F0 w0 R (.returned (.tuple #[.pointer none,.int .i64 x])) w'):=Lib.hid fun w' x h' hx=>by
  rw [hx];exact⟨rfl,h'⟩
 by_cases hv:v < 1∨3 < v
 ·have HE:=Lib.hid (HERR.out _ 10 h1.drop (by unfold createD;rw [if_pos hv]))
  clear h h1 HERR
  by_cases hv1:v < 1
  ·have q1:decide (v < 1)=true:=by simpa using hv1
   clear hv hv1
   go_enter Tryz.func32,Tryz.ntmps32
   go_wp2_with fail
   go_ret2
   exact HE.out
  ·have q1:decide (v < 1)=false:=by simpa using hv1
   have q2:decide (3 < v)=true:=by simp;omega
   clear hv hv1
   go_enter Tryz.func32,Tryz.ntmps32
   go_wp2_with fail
   go_ret2
   exact HE.out
 ·obtain⟨n,rfl⟩:∃ n:Nat,v=(n:Int):=⟨v.toNat,by omega⟩
  have q1:decide ((n:Int) < 1)=false:=by simp;omega
  have q2:decide ((3:Int) < (n:Int))=false:=by simp;omega
  have C1:=Lib.hid (o_there h1 1 rfl nmHead nmHead_size)
  cases hq:(nmAt d.now nmHead).isSome with
  | true=>
   have HE:=Lib.hid (fun w' (h':In F0 w0 w' (Cells w.heap.size #[dptr bd] 25::DkA bd d::R))=>HERR.out w' 12 h'.drop (by unfold createD;rw [if_neg hv,if_pos hq]))
   rw [hq] at C1
   clear h h1 HERR hv hq
   go_enter Tryz.func32,Tryz.ntmps32
   go_wp2_with fail
   refine C1.out.mono ?_
   rintro e w1 ⟨rfl,g1⟩
   have HF:=Lib.hid (HE.out w1 g1)
   clear g1 C1 HE
   go_wp2_with fail
   go_ret2
   exact HF.out
  | false=>
   have HE:=Lib.hid (createD_eq n size d hv hq)
   rw [hq] at C1
   clear h h1 HERR hv hq
   go_enter Tryz.func32,Tryz.ntmps32
   go_wp2_with fail
   refine C1.out.mono ?_
   rintro e w1 ⟨rfl,g1⟩
   clear C1
   have g2:=cells_row (g1.cells #[.int .i64 1] 3)
   have g3:=g2.cells #[.int .i64 n,.int .i64 2,.slice (some ⟨w1.heap.size,0,none⟩) 1 1] 160
   have g4:=g3.cells #[.func (.func 85) #[] #[.pointer (some ⟨w.heap.size,0,none⟩)],.func (.func 87) #[] #[.pointer (some ⟨w.heap.size,0,none⟩)],.func (.func 90) #[] #[.pointer (some ⟨w.heap.size,0,none⟩),.pointer (some ⟨w1.heap.size+1,0,none⟩)]] 72
   simp only [World.size_alloc] at g4
   have K:=create_all (R:=R) (firstM n) (db:=w.heap.size) (mb:=w1.heap.size+1) (fb:=w1.heap.size+1+1) (A:=some ⟨w1.heap.size,0,none⟩) (c:=1) ho (by simp [firstM]) _ rfl (g4.sel2 (R1:=[_,_,_,_,_]) [0,4,2,1,3] (by decide) rfl)
   simp only [Int.toNat_natCast] at HE
   generalize foldD (createFs (firstM n)) d=r at *
   have KH:=Lib.hid K
   clear K g1 g2 g3 g4 c0
   by_cases hz:r.2=0
   ·have HC:Hid (createD n size d=(r.1,some ⟨sized size,firstM n,false⟩,0)):=Lib.hid (by rw [HE.out,if_neg (by simpa using hz)])
    have HZ:=Lib.hid hz
    clear hz HE
    go_wp2_with fail
    refine KH.out.mono ?_
    rintro e w2 ⟨rfl,g5⟩
    rw [HZ.out]
    have HS:Hid (w2.cell? ⟨w.heap.size,0,none⟩=some (dptr bd)∧w2.cell? ⟨w1.heap.size+1,0,none⟩=some (.int .i64 n)∧w2.cell? ⟨w1.heap.size+1,1,none⟩=some (.int .i64 2)∧w2.cell? ⟨w1.heap.size+1,2,none⟩=some (.slice (some ⟨w1.heap.size,0,none⟩) 1 1)):=Lib.hid
     ⟨cell_of (g5.block 3 rfl) rfl,cell_of (g5.block 2 rfl) rfl,cell_of (g5.block 2 rfl) rfl,cell_of (g5.block 2 rfl) rfl⟩
    have g6:=(g5.drewN 1).cells (lgC bd ⟨sized size,firstM n,false⟩ (.slice (some ⟨w1.heap.size,0,none⟩) 1 1)) 167
    have g7:In F0 w0 ((w2.drewN 1).alloc (.cells (lgC bd ⟨sized size,firstM n,false⟩ (.slice (some ⟨w1.heap.size,0,none⟩) 1 1)) 167)) (LgA w2.heap.size bd ⟨sized size,firstM n,false⟩::DkA bd r.1::R):=In.lgClose (l':=⟨sized size,firstM n,false⟩) (v:=.slice (some ⟨w1.heap.size,0,none⟩) 1 1) (g6.sel2 (R1:=[_,_,_,_,_]) [2,0,1] (by decide) rfl)
    have HF:Hid (CreatePost bd (createD n size d) F0 w0 R (.returned (.tuple #[dptr w2.heap.size,.int .i64 0])) _):=Lib.hid (by
     rw [HC.out]
     exact⟨_,rfl,g7⟩)
    clear g5 g6 g7 KH
    go_wp2_with fail
    obtain⟨s0,s1,s2,s3⟩:=HS.out
    go_region_held3 (fun w'=>w'.cell? ⟨w.heap.size,0,none⟩=some (dptr bd)∧w'.cell? ⟨w1.heap.size+1,0,none⟩=some (.int .i64 n)∧w'.cell? ⟨w1.heap.size+1,1,none⟩=some (.int .i64 2)∧w'.cell? ⟨w1.heap.size+1,2,none⟩=some (.slice (some ⟨w1.heap.size,0,none⟩) 1 1))
     (first | with_reducible exact HS.out | ((refine⟨?_,?_,?_,?_⟩ <;> repeat (first | with_reducible exact s0 | with_reducible exact s1 | with_reducible exact s2 | with_reducible exact s3 | rw [World.cell?_drew] | with_reducible refine kp_alloc ?_));done) | go_keep)
     (first | (go_at_call 92;refine (o_sized size _).mono ?_;rintro e w3 ⟨rfl,rfl⟩))
    go_wp2_with fail
    go_ret2
    exact HF.out
   ·have HC:Hid (createD n size d=(r.1,none,r.2)):=Lib.hid (by rw [HE.out,if_pos (by simpa using hz)])
    have q:(r.2 != 0)=true:=by rw [bne_iff_ne];exact hz
    clear hz HE
    go_wp2_with fail
    refine KH.out.mono ?_
    rintro e w2 ⟨rfl,g5⟩
    have HF:Hid (CreatePost bd (createD n size d) F0 w0 R (.returned (.tuple #[.pointer none,.int .i64 r.2])) w2):=Lib.hid (by
     rw [HC.out]
     exact⟨rfl,g5.sel2 (R1:=[_,_,_,_]) [0] (by decide) rfl⟩)
    clear g5 KH
    go_wp2_with fail
    go_ret2
    exact HF.out
end
structure EachOk {σ:Type} (μ:σ→Nat) (ev:Value) (Acc:σ→Asrt) (ef:σ→FrD→σ×Int):Prop where
 framed:∀ s,Framed (Acc s)
 grow:∀ s f,μ (ef s f).1≤μ s+1
 call:(ev=Value.nilFunc∧∀ s f,ef s f=(s,0))∨∃ fid bound caps,ev=.func (.func fid) bound caps∧(∀ args w',(callFunc fid args).run Tryz.prog w'=.ok (.enter fid args) w') ∧
  ∀ F0 w0 w' s f v RR,μ s≤100000000→f.body.length≤100000000→In F0 w0 w' (bodyA v f::Acc s::RR)→Calls Tryz.prog fid (bound.push (.agg #[.int .i64 f.kind,.int .i64 f.ver,v])++caps) w' fun e w''=>e=.returned (.int .i64 (ef s f).2)∧In F0 w0 w'' (Acc (ef s f).1::RR)
theorem flatFr_at:∀ {fs:List FrD} {vs:List Value} {k:Nat} {f:FrD} {v:Value},vs.length=fs.length→fs[k]?=some f→vs[k]?=some v→(flatFr fs vs)[k * 3]?=some (.int .i64 f.kind)∧(flatFr fs vs)[k * 3+1]?=some (.int .i64 f.ver)∧(flatFr fs vs)[k * 3+2]?=some v
 | [],vs,k,f,v,_,h,_=>by simp at h
 | g::fs,[],k,f,v,h,_,_=>by simp at h
 | g::fs,u::vs,0,f,v,h,h1,h2=>by
  simp only [List.getElem?_cons_zero,Option.some.injEq] at h1 h2
  subst h1 h2
  exact⟨rfl,rfl,rfl⟩
 | g::fs,u::vs,k+1,f,v,h,h1,h2=>by
  simp only [List.getElem?_cons_succ] at h1 h2
  simp only [List.length_cons,Nat.add_right_cancel_iff] at h
  have ih:=flatFr_at (fs:=fs) (vs:=vs) h h1 h2
  have e:flatFr (g::fs) (u::vs)=encFr g u++flatFr fs vs:=rfl
  have el:(encFr g u).length=3:=rfl
  rw [e]
  refine⟨?_,?_,?_⟩
  ·rw [List.getElem?_append_right (by rw [el];omega),el,show (k+1) * 3 - 3=k * 3 by omega];exact ih.1
  ·rw [List.getElem?_append_right (by rw [el];omega),el,show (k+1) * 3+1 - 3=k * 3+1 by omega];exact ih.2.1
  ·rw [List.getElem?_append_right (by rw [el];omega),el,show (k+1) * 3+2 - 3=k * 3+2 by omega];exact ih.2.2
theorem star_join {w:World}:∀ {A1 R:List Asrt} {F1 F2:List Nat},Star A1 w F1→Star R w F2→Apart F1 F2→Star (A1++R) w (F1++F2)
 | [],R,F1,F2,h1,h2,_=>by
  obtain rfl:F1=[]:=h1
  exact h2
 | A::A1,R,F1,F2,⟨G1,G2,g1,g2,g3,e⟩,h2,ha=>by
  subst e
  refine⟨G1,G2++F2,g1,star_join g2 h2 (fun b hb=>ha b (List.mem_append_right _ hb)),fun b hb hb2=>?_,by rw [List.append_assoc]⟩
  rcases List.mem_append.1 hb2 with hb2 | hb2
  ·exact g3 b hb hb2
  ·exact ha b (List.mem_append_left _ hb) hb2
theorem In.unjoin {F0:List Nat} {w0 w:World} {A1 R:List Asrt} (hf:∀ A∈A1,Framed A) (h:In F0 w0 w (Star A1::R)):In F0 w0 w (A1++R):=by
 obtain⟨F,⟨F1,F2,h1,h2,h3,rfl⟩,hF⟩:=h.star
 refine⟨fun A hA=>?_,⟨F1++F2,star_join h1 h2 h3,hF⟩,h.mod⟩
 rcases List.mem_append.1 hA with hA | hA
 ·exact hf A hA
 ·exact h.framed A (List.mem_cons_of_mem _ hA)
theorem In.mid {F0:List Nat} {w0 w:World} {A:Asrt} (X:List Asrt) {R:List Asrt} (h:In F0 w0 w (A::(X++R))):In F0 w0 w (A::R):=(h.perm List.perm_middle.symm).right
theorem In.frsOpen {F0:List Nat} {w0 w:World} {R:List Asrt} {v:Value} {fs:List FrD} (h:In F0 w0 w (FrsA v fs::R)):∃ vs:List Value,vs.length=fs.length∧In F0 w0 w (RowA 85 3 v fs.length (flatFr fs vs)::(bodiesR vs fs++R)):=by
 obtain⟨F,⟨F1,F2,⟨vs,hl,h1⟩,h2,h3,rfl⟩,hF⟩:=h.star
 refine⟨vs,hl,In.unjoin (A1:=FrsR v vs fs) FrsR.framed ⟨fun A hA=>?_,⟨F1++F2,⟨F1,F2,h1,h2,h3,rfl⟩,hF⟩,h.mod⟩⟩
 rcases List.mem_cons.1 hA with rfl | hA
 ·exact Framed.star FrsR.framed
 ·exact h.framed A (List.mem_cons_of_mem _ hA)
section
variable {F0:List Nat} {w0 w:World} {R:List Asrt} {bd:Nat} {d:DiskD} {σ:Type} {μ:σ→Nat} {Acc:σ→Asrt} {ef:σ→FrD→σ×Int} {ev:Value}
def ScanSegPost (Acc:σ→Asrt) (r:σ×Nat×Int) (F0:List Nat) (w0:World) (R:List Asrt) (e:Ending) (w':World):Prop:=
 e=.returned (.tuple #[.int .i64 r.2.1,.int .i64 r.2.2])∧In F0 w0 w' (Acc r.1::R)
def TellRel (μ:σ→Nat) (ef:σ→FrD→σ×Int) (Acc:σ→Asrt) (ver:Nat) (fs:List FrD) (vs:List Value) (s:σ) (v:Value) (mb:Nat) (M:Array Value) (F0:List Nat) (w0:World) (R:List Asrt) (i:Value) (wr:World):Prop:=
 ∃ (k:Nat) (s':σ),i=.int .i64 k∧k≤fs.length∧μ s'≤μ s+k∧tellAll ef ver fs s=tellAll ef ver (fs.drop k) s'∧In F0 w0 wr (RowA 85 3 v fs.length (flatFr fs vs)::Cells mb M 160::Acc s'::(bodiesR (vs.drop k) (fs.drop k)++R))
end
def cutIf (l:LogD) (n:Nat) (d:DiskD):DiskD×Int:=if n=bytesD d (lastS l) then (d,0) else dCut d (lastS l) n
section
variable {F0:List Nat} {w0 w:World} {R:List Asrt} {bd lb:Nat} {d:DiskD} {l:LogD}
def openFs (l:LogD) (n:Nat):List (DiskD→DiskD×Int):=[cutIf l n,fun d=>dSync d (lastS l),dSyncDir]
def OpenPost {σ:Type} (Acc:σ→Asrt) (bd:Nat) (r:σ×DiskD×Option LogD×Int) (F0:List Nat) (w0:World) (R:List Asrt) (e:Ending) (w':World):Prop:=
 match r.2.2.1 with
 | none=>e=.returned (.tuple #[.pointer none,.int .i64 r.2.2.2])∧In F0 w0 w' (Acc r.1::DkA bd r.2.1::R)
 | some l=>∃ lb,e=.returned (.tuple #[dptr lb,.int .i64 r.2.2.2])∧In F0 w0 w' (LgA lb bd l::Acc r.1::DkA bd r.2.1::R)
end
section
variable {F0:List Nat} {w0 w:World} {R:List Asrt} {bd:Nat} {d:DiskD} {σ:Type} {μ:σ→Nat} {Acc:σ→Asrt} {ef:σ→FrD→σ×Int} {ev:Value}
abbrev manC (m:ManD) (v:Value):Array Value:=#[.int .i64 m.ver,.int .i64 m.next,v]
def OpenMid (Acc:σ→Asrt) (s:σ) (bd db mb:Nat) (d:DiskD) (l:LogD) (v:Value) (F0:List Nat) (w0:World) (R:List Asrt) (x:Value) (wx:World):Prop:=
 ∃ lx lb,x=.pointer (some ⟨lx,0,none⟩)∧In F0 w0 wx (Acc s::Cells lx #[dptr lb] 78::RowA 3 1 v l.m.segs.length (segV l.m.segs)::Cells lb (lgC bd l v) 167::Cells mb (manC l.m v) 160::Cells db #[dptr bd] 25::DkA bd d::R)
def OpenRel (μ:σ→Nat) (Acc:σ→Asrt) (ef:σ→FrD→σ×Int) (s:σ) (bd db mb lx lb nb:Nat) (d:DiskD) (l:LogD) (v:Value) (F0:List Nat) (w0:World) (R:List Asrt) (i:Value) (wr:World):Prop:=
 ∃ (k:Nat) (s':σ) (n:Nat),i=.int .i64 k∧k≤l.m.segs.length∧n≤1048576∧μ s'≤μ s+k * 1048576∧scanAll ef d l.m l.m.segs.length 0 0 s=scanAll ef d l.m (l.m.segs.length - k) k n s' ∧
  In F0 w0 wr (Acc s'::Cells nb #[.int .i64 n] 3::Cells lx #[dptr lb] 78::RowA 3 1 v l.m.segs.length (segV l.m.segs)::Cells lb (lgC bd l v) 167::Cells mb (manC l.m v) 160::Cells db #[dptr bd] 25::DkA bd d::R)
end
def ToldA (vb:Nat) (fs:List FrD):Asrt:=fun w F=>∃ v,Star [Cells vb #[v] 207,FrsA v fs] w F
section
variable {F0:List Nat} {w0 w:World} {R:List Asrt}
end
section
variable {F0:List Nat} {w0 w:World} {R:List Asrt} {bd lb:Nat} {l:LogD}
theorem o_version (h:In F0 w0 w (LgA lb bd l::R)):Calls Tryz.prog 38 #[dptr lb] w fun e w'=>e=.returned (.int .i64 l.m.ver)∧w'=w:=by
 obtain⟨a,c,h1⟩:=h.lgOpen
 have c2:w.cell? ⟨lb,2,none⟩=some (.int .i64 l.m.ver):=cell_of (h1.block 1 rfl) rfl
 clear h h1
 go_enter Tryz.func38,Tryz.ntmps38
 go_wp2_with fail
 go_ret
 exact⟨rfl,rfl⟩
def isX (f:FrD):Bool:=decide (f.body=[120])
def CountA (vb:Nat) (n:Nat):Asrt:=Cells vb #[.int .i64 n] 3
def countF (n:Nat) (f:FrD):Nat×Int:=(if isX f then n+1 else n,0)
end
section
variable {F0:List Nat} {w0 w:World} {R:List Asrt}
theorem ViewA.allQ {k:Nat} {a:Option Addr} {n cap:Nat} {xs:List Value} {w:World} {F:List Nat} (h:ViewA k (.slice a n cap) n xs w F):Src w a n k xs:=by
 have e:=h.src (Nat.le_refl n)
 rwa [List.take_of_length_le (by rw [h.1];exact Nat.le_refl _)] at e
theorem QRows.rowsQ {s:StD} {a d f:Option Addr} {ac dc fc:Nat} (h:QRows F0 w0 R s (.slice a s.bks.length ac) (.slice d s.drs.length dc) (.slice f s.fls.length fc)):RowsV F0 w0 R s a d f:=
 ⟨fun w' h'=>by obtain⟨F,hF⟩:=h.bk w' h';exact hF.allQ,fun w' h'=>by obtain⟨F,hF⟩:=h.dr w' h';exact hF.allQ,fun w' h'=>by obtain⟨F,hF⟩:=h.fl w' h';exact hF.allQ⟩
theorem AStV.rowsQ {s:StD} {a d f:Option Addr} (h:AStV F0 w0 R s a d f):RowsV F0 w0 R s a d f:=⟨h.bks,h.drs,h.fls⟩
theorem RowsV.ofQ {R0:List Asrt} {s:StD} {a d f:Option Addr} (h:RowsV F0 w0 R0 s a d f) (hR:∀ W,In F0 w0 W R→In F0 w0 W R0):RowsV F0 w0 R s a d f:=⟨fun w' h'=>h.bk w' (hR w' h'),fun w' h'=>h.dr w' (hR w' h'),fun w' h'=>h.fl w' (hR w' h')⟩
theorem QRows.zero:QRows F0 w0 R zeroSt (.slice none 0 0) (.slice none 0 0) (.slice none 0 0):=by
 have hv:∀ (kk:Nat) (W':World),∃ F,ViewA kk (.slice none 0 0) 0 [] W' F:=fun kk W'=>⟨[],by simp,none,0,rfl,Nat.le_refl _,by decide,Or.inl ⟨rfl,rfl,rfl⟩⟩
 exact⟨fun W' _=>hv 3 W',fun W' _=>hv 2 W',fun W' _=>hv 8 W'⟩
abbrev QOfL (v:StD) (g:Nat) (C:Array Value) (rv:Value) (A:Option Addr) (a:Nat) (N:Asrt) (R:List Asrt):List Asrt:=RowA 45 14 rv (recsSt v).length (recsV (.slice A v.bks.length a) (recsSt v))::Cells g C 36::N::R
def QOfRel (v:StD) (g mb:Nat) (C:Array Value) (rv:Value) (A:Option Addr) (a:Nat) (F0:List Nat) (w0:World) (R:List Asrt) (i:Value) (wr:World):Prop:=
 ∃ (k:Nat) (bv dv fv:Value) (N:Asrt),k≤(recsSt v).length∧i=.int .i64 k∧(applyAll ((recsSt v).take k) zeroSt).2=0∧OkSt (applyAll ((recsSt v).take k) zeroSt).1∧QRows F0 w0 (N::R) (applyAll ((recsSt v).take k) zeroSt).1 bv dv fv∧In F0 w0 wr (QS mb (applyAll ((recsSt v).take k) zeroSt).1 bv dv fv::QOfL v g C rv A a N R)
def QOfPost (v:StD) (F0:List Nat) (w0:World) (R:List Asrt) (e:Ending) (w':World):Prop:=
 match (ofSt v).1 with
 | some t=>∃ mb bv dv fv N,e=.returned (.tuple #[pR mb,.int .i64 0])∧QRows F0 w0 (N::R) v bv dv fv∧In F0 w0 w' (QS mb v bv dv fv::N::R)
 | none=>e=.returned (.tuple #[.pointer none,.int .i64 (ofSt v).2])∧In F0 w0 w' R
theorem o_qof {v:StD} {A D F:Option Addr} {a d f:Nat} (hv:AStV F0 w0 R v A D F) (hn:A=none→a=0) (lb:v.bks.length≤1000) (ld:v.drs.length≤1000) (lf:v.fls.length≤1000) (hw:∀ r∈recsSt v,WfR r) (h:In F0 w0 w R):Calls Tryz.prog 69 #[agSt v A a D d F f] w (QOfPost v F0 w0 R):=by
 obtain⟨w1,hw1⟩:∃ w1,w1=w.alloc (.cells #[.int .i64 v.gen,.slice A v.bks.length a,.slice D v.drs.length d,.slice F v.fls.length f] 36):=⟨_,rfl⟩
 have h1:=h.cells #[.int .i64 v.gen,.slice A v.bks.length a,.slice D v.drs.length d,.slice F v.fls.length f] 36
 rw [← hw1] at h1
 obtain⟨w2,hw2⟩:∃ w2,w2=w1.alloc (.cells #[.int .i64 0,.slice none 0 0,.slice none 0 0,.slice none 0 0] 38):=⟨_,rfl⟩
 have h2:=h1.cells #[.int .i64 0,.slice none 0 0,.slice none 0 0,.slice none 0 0] 38
 have hs1:w1.heap.size=w.heap.size+1:=by rw [hw1];exact World.size_alloc _ _
 rw [← hw2,hs1] at h2
 have d0:w2.cell? ⟨w.heap.size,0,none⟩=some (.int .i64 v.gen):=cell_of (h2.block 1 rfl) rfl
 have d1:w2.cell? ⟨w.heap.size,1,none⟩=some (.slice A v.bks.length a):=cell_of (h2.block 1 rfl) rfl
 have d2:w2.cell? ⟨w.heap.size,2,none⟩=some (.slice D v.drs.length d):=cell_of (h2.block 1 rfl) rfl
 have d3:w2.cell? ⟨w.heap.size,3,none⟩=some (.slice F v.fls.length f):=cell_of (h2.block 1 rfl) rfl
 have K1:=Lib.hid (o_qrecs (a:=a) (d:=d) (f:=f) (hv.moreL [Cells (w.heap.size+1) #[.int .i64 0,.slice none 0 0,.slice none 0 0,.slice none 0 0] 38,Cells w.heap.size #[.int .i64 v.gen,.slice A v.bks.length a,.slice D v.drs.length d,.slice F v.fls.length f] 36]) lb ld lf h2)
 have HW:=Lib.hid hw1
 have HW2:=Lib.hid hw2
 have HV:=Lib.hid hv
 have HWF:=Lib.hid hw
 have hrl:(recsSt v).length≤3000:=by simp [recsSt];omega
 clear h h1 h2 hw1 hw2 hv hw hs1
 go_enter Tryz.func69,Tryz.ntmps69
 go_upto_region 2 with fail
 rw [← HW.out,← HW2.out]
 clear HW HW2
 generalize w.heap.size=g at *
 generalize g+1=mb at *
 go_wp2_with fail
 refine K1.out.mono ?_
 rintro e w3 ⟨rv,rfl,g3⟩
 obtain⟨Fr,rr⟩:=g3.get 0 rfl
 obtain⟨ra,rc,rfl,-,-,-⟩:=RowA.shape rr
 have HR:Hid (QOfRel v g mb #[.int .i64 v.gen,.slice A v.bks.length a,.slice D v.drs.length d,.slice F v.fls.length f] (.slice ra (recsSt v).length rc) A a F0 w0 R (.int .i64 0) w3):=Lib.hid ⟨0,.slice none 0 0,.slice none 0 0,.slice none 0 0,RowA 43 8 (.slice none 0 0) 0 [],Nat.zero_le _,rfl,rfl,OkSt.zero,QRows.zero,(g3.rownil 43 8).sel2 (R1:=[_,_,_,_]) [2,1,3,0] (by decide) rfl⟩
 have HN:=Lib.hid hn
 clear g3 K1 rr hn d0 d1 d2 d3
 go_wp2_with fail
 go_loopw [13] (QOfRel v g mb #[.int .i64 v.gen,.slice A v.bks.length a,.slice D v.drs.length d,.slice F v.fls.length f] (.slice ra (recsSt v).length rc) A a F0 w0 R) (fun k _=>(recsSt v).length - (intOf k).toNat)
 case atStart=>exact HR.out
 case round=>
  obtain⟨k,bv,dv,fv,N,hk,rfl,hok,hos,hqr,hio⟩:=hrel
  clear HR
  have hN:=hio.drop.drop.drop
  obtain⟨Fb,hxb⟩:=hqr.bk wr hN
  obtain⟨ba,bc,rfl,-,-⟩:=hxb.shape
  obtain⟨Fd,hxd⟩:=hqr.dr wr hN
  obtain⟨da,dc,rfl,-,-⟩:=hxd.shape
  obtain⟨Ff,hxf⟩:=hqr.fl wr hN
  obtain⟨fa,fc,rfl,-,-⟩:=hxf.shape
  clear hN hxb hxd hxf
  by_cases hlt:k < (recsSt v).length
  ·obtain⟨x,hx⟩:∃ x,(recsSt v)[k]?=some x:=⟨(recsSt v)[k],List.getElem?_eq_getElem hlt⟩
   obtain⟨Fr,rr⟩:=hio.get 1 rfl
   obtain⟨gr,o,rfl,sc⟩:=rr.all.plain (by omega) (by decide)
   obtain⟨Ax,cx,hpx,hbx⟩:∃ Ax cx,(if k=0 then (Value.slice A v.bks.length a) else .slice none 0 0)=.slice Ax x.bks.length cx∧BksAt F0 w0 (QOfL v g #[.int .i64 v.gen,.slice A v.bks.length a,.slice D v.drs.length d,.slice F v.fls.length f] (.slice (some ⟨gr,o,none⟩) (recsSt v).length rc) A a N R) Ax x.bks:=by
    rcases recs_el hx with ⟨rfl,e⟩|⟨h0,e⟩
    ·refine⟨A,a,by rw [if_pos rfl,e],?_⟩
     rw [e]
     exact fun w' h'=>HV.out.bks w' h'.drop.drop.drop
    ·refine⟨none,0,by rw [if_neg h0,e];rfl,?_⟩
     rw [e]
     exact fun w' h'=>Src.nil _ _ _
   have c0:wr.cell? ⟨gr,o+k * 14,none⟩=some (.int .i64 x.kind):=by
    have:=sc (k * 14+0) _ (by rw [recsV_at hx 0 (by decide),hpx];rfl)
    rwa [← Nat.add_assoc] at this
   have c1:wr.cell? ⟨gr,o+k * 14+1,none⟩=some (.int .u32 x.fl.t.src):=by
    have:=sc (k * 14+1) _ (by rw [recsV_at hx 1 (by decide),hpx];rfl)
    rwa [← Nat.add_assoc] at this
   have c2:wr.cell? ⟨gr,o+k * 14+2,none⟩=some (.int .u32 x.fl.t.dst):=by
    have:=sc (k * 14+2) _ (by rw [recsV_at hx 2 (by decide),hpx];rfl)
    rwa [← Nat.add_assoc] at this
   have c3:wr.cell? ⟨gr,o+k * 14+3,none⟩=some (.int .i64 x.fl.t.proto):=by
    have:=sc (k * 14+3) _ (by rw [recsV_at hx 3 (by decide),hpx];rfl)
    rwa [← Nat.add_assoc] at this
   have c4:wr.cell? ⟨gr,o+k * 14+4,none⟩=some (.int .i64 x.fl.t.sport):=by
    have:=sc (k * 14+4) _ (by rw [recsV_at hx 4 (by decide),hpx];rfl)
    rwa [← Nat.add_assoc] at this
   have c5:wr.cell? ⟨gr,o+k * 14+5,none⟩=some (.int .i64 x.fl.t.dport):=by
    have:=sc (k * 14+5) _ (by rw [recsV_at hx 5 (by decide),hpx];rfl)
    rwa [← Nat.add_assoc] at this
   have c6:wr.cell? ⟨gr,o+k * 14+6,none⟩=some (.int .i64 x.fl.bk):=by
    have:=sc (k * 14+6) _ (by rw [recsV_at hx 6 (by decide),hpx];rfl)
    rwa [← Nat.add_assoc] at this
   have c7:wr.cell? ⟨gr,o+k * 14+7,none⟩=some (.int .i64 x.fl.gen):=by
    have:=sc (k * 14+7) _ (by rw [recsV_at hx 7 (by decide),hpx];rfl)
    rwa [← Nat.add_assoc] at this
   have c8:wr.cell? ⟨gr,o+k * 14+8,none⟩=some (.int .i64 x.fl.seen):=by
    have:=sc (k * 14+8) _ (by rw [recsV_at hx 8 (by decide),hpx];rfl)
    rwa [← Nat.add_assoc] at this
   have c9:wr.cell? ⟨gr,o+k * 14+9,none⟩=some (.int .i64 x.gen):=by
    have:=sc (k * 14+9) _ (by rw [recsV_at hx 9 (by decide),hpx];rfl)
    rwa [← Nat.add_assoc] at this
   have c10:wr.cell? ⟨gr,o+k * 14+10,none⟩=some (.slice Ax x.bks.length cx):=by
    have:=sc (k * 14+10) _ (by rw [recsV_at hx 10 (by decide),hpx];rfl)
    rwa [← Nat.add_assoc] at this
   have c11:wr.cell? ⟨gr,o+k * 14+11,none⟩=some (.int .i64 x.bk):=by
    have:=sc (k * 14+11) _ (by rw [recsV_at hx 11 (by decide),hpx];rfl)
    rwa [← Nat.add_assoc] at this
   have c12:wr.cell? ⟨gr,o+k * 14+12,none⟩=some (.int .i64 x.till):=by
    have:=sc (k * 14+12) _ (by rw [recsV_at hx 12 (by decide),hpx];rfl)
    rwa [← Nat.add_assoc] at this
   have c13:wr.cell? ⟨gr,o+k * 14+13,none⟩=some (.int .i64 x.count):=by
    have:=sc (k * 14+13) _ (by rw [recsV_at hx 13 (by decide),hpx];rfl)
    rwa [← Nat.add_assoc] at this
   have hlt':(k:Int) < ((recsSt v).length:Int):=Int.ofNat_lt.2 hlt
   have hw2:wrap64 ((k:Int)+1)=(k:Int)+1:=by unfold wrap64;omega
   have hbl:x.bks.length≤1000000:=by
    rcases recs_el hx with ⟨_,e⟩|⟨_,e⟩ <;> rw [e]
    ·omega
    ·exact Nat.zero_le _
   have KA:=Lib.hid (o_qapply (r:=x) (c:=cx) (mb:=mb) (R0:=N::R) hos hbx hbl hqr ⟨[_,_],rfl⟩ (hio.cells #[.int .i64 x.kind,.int .u32 x.fl.t.src,.int .u32 x.fl.t.dst,.int .i64 x.fl.t.proto,.int .i64 x.fl.t.sport,.int .i64 x.fl.t.dport,.int .i64 x.fl.bk,.int .i64 x.fl.gen,.int .i64 x.fl.seen,.int .i64 x.gen,.slice Ax x.bks.length cx,.int .i64 x.bk,.int .i64 x.till,.int .i64 x.count] 45).drop)
   have HX:=Lib.hid hx
   have HOK:=Lib.hid hok
   have HOS:=Lib.hid (hos.apply (HWF.out x (List.mem_of_getElem? hx)))
   have HM:=Lib.hid (meas_lt hlt')
   clear hio hx hk rr sc hpx hbx hbl hok hos hqr
   go_wp2_with fail
   refine KA.out.mono ?_
   rintro e w4 ⟨b1,d1,f1,N1,rfl,g4,hq4⟩
   clear KA
   by_cases he:(applySt (applyAll ((recsSt v).take k) zeroSt).1 x).2=0
   ·rw [he]
    have HR:Hid (QOfRel v g mb #[.int .i64 v.gen,.slice A v.bks.length a,.slice D v.drs.length d,.slice F v.fls.length f] (.slice (some ⟨gr,o,none⟩) (recsSt v).length rc) A a F0 w0 R (.int .i64 ((k:Int)+1)) w4):=Lib.hid (by
     have hfr:∀ A∈[N1,N],Framed A:=fun A hA=>g4.framed A (by simp only [List.mem_cons,List.not_mem_nil,or_false] at hA ⊢;rcases hA with rfl | rfl <;> simp)
     have e:=all_snoc HX.out HOK.out he
     refine⟨k+1,b1,d1,f1,Star [N1,N],(List.getElem?_eq_some_iff.1 HX.out).1,by rw [Int.natCast_add];rfl,by rw [e],by rw [e];exact HOS.out,?_,?_⟩
     ·rw [e]
      exact hq4.of (fun W' hW=>In.unjoin (R:=R) hfr hW)
     ·rw [e]
      have h1:=g4.sel2 (R1:=[_,_,_,_,_]) (R2:=R) [1,4,0,2,3] (by decide) rfl
      have h2:=In.join (A1:=[N1,N]) h1
      exact h2.sel2 (R1:=[_,_,_,_]) (R2:=R) [1,2,3,0] (by decide) rfl)
    clear g4 he hq4 HOS
    go_wp2_with fail
    go_roundw
    case rel=>(try rw [hw2]);exact HR.out
    case measure=>(try rw [hw2]);exact HM.out
   ·have q:((applySt (applyAll ((recsSt v).take k) zeroSt).1 x).2 != 0)=true:=by rw [bne_iff_ne];exact he
    have G:Hid (QOfPost v F0 w0 R (.returned (.tuple #[.pointer none,.int .i64 (applySt (applyAll ((recsSt v).take k) zeroSt).1 x).2])) w4):=Lib.hid (by
     unfold QOfPost
     rw [of_err (by rw [all_err HX.out HOK.out he];exact he),all_err HX.out HOK.out he]
     exact⟨rfl,g4.drop.drop.drop.drop.drop⟩)
    clear g4 he HM HX HOK hq4 HOS
    generalize (applySt (applyAll ((recsSt v).take k) zeroSt).1 x).2=er at *
    go_wp2_with fail
    go_ret2
    exact G.out
  ·have hkl:k=(recsSt v).length:=by omega
   subst hkl
   rw [List.take_length] at hok hio hos hqr
   have HQ2:=Lib.hid hqr
   obtain⟨t1,t2,t3⟩:=hos.lens
   have HOF:Hid (∀ w' e,(if (applyAll (recsSt v) zeroSt).1=v then (e=.returned (.tuple #[pR mb,.int .i64 0])∧In F0 w0 w' (QS mb (applyAll (recsSt v) zeroSt).1 (.slice ba (applyAll (recsSt v) zeroSt).1.bks.length bc) (.slice da (applyAll (recsSt v) zeroSt).1.drs.length dc) (.slice fa (applyAll (recsSt v) zeroSt).1.fls.length fc)::N::R)) else (e=.returned (.tuple #[.pointer none,.int .i64 1])∧In F0 w0 w' R))→QOfPost v F0 w0 R e w'):=Lib.hid (fun w' e hh=>by
    unfold QOfPost
    by_cases hE:(applyAll (recsSt v) zeroSt).1=v
    ·rw [if_pos hE] at hh
     rw [of_ok hok hE]
     have hq:=HQ2.out
     rw [hE] at hh hq
     exact⟨mb,_,_,_,N,hh.1,hq,hh.2⟩
    ·rw [if_neg hE] at hh
     rw [of_ne hok hE];exact hh)
   have hge:((recsSt v).length:Int)≤((recsSt v).length:Int):=Int.le_refl _
   generalize (applyAll (recsSt v) zeroSt).1=t at *
   have hz0:=And.intro (cells4 ((hio.drewN 1).block 0 rfl)) (cells4 ((hio.drewN 1).block 2 rfl))
   have KS:=Lib.hid (o_qsamest (s:=t) (t:=v) (bc1:=bc) (dc1:=dc) (fc1:=fc) (bc2:=a) (dc2:=d) (fc2:=f) (HQ2.out.rowsQ.ofQ (fun W hW=>hW.drop.drop.drop)) ((HV.out.moreL [QS mb t (.slice ba t.bks.length bc) (.slice da t.drs.length dc) (.slice fa t.fls.length fc),RowA 45 14 (.slice ra (recsSt v).length rc) (recsSt v).length (recsV (.slice A v.bks.length a) (recsSt v)),Cells g #[.int .i64 v.gen,.slice A v.bks.length a,.slice D v.drs.length d,.slice F v.fls.length f] 36,N]).rowsQ) (by omega) (by omega) (by omega) (hio.drewN 1))
   cases hd:decide (t=v) with
   | true=>
    rw [hd] at KS
    have HD:=Lib.hid hd
    clear hio hlt hk hok hos hqr HQ2 t1 t2 t3 hd
    go_wp2_with fail
    go_region_held3 (fun w'=>(w'.cell? ⟨mb,0,none⟩=some (.int .i64 t.gen)∧w'.cell? ⟨mb,1,none⟩=some (.slice ba t.bks.length bc)∧w'.cell? ⟨mb,2,none⟩=some (.slice da t.drs.length dc)∧w'.cell? ⟨mb,3,none⟩=some (.slice fa t.fls.length fc))∧(w'.cell? ⟨g,0,none⟩=some (.int .i64 v.gen)∧w'.cell? ⟨g,1,none⟩=some (.slice A v.bks.length a)∧w'.cell? ⟨g,2,none⟩=some (.slice D v.drs.length d)∧w'.cell? ⟨g,3,none⟩=some (.slice F v.fls.length f))) (first | exact hz1 | exact hz0) (first
     | (go_at_call 14;refine KS.out.mono ?_;rintro e w5 ⟨rfl,g5⟩;have hz1:=And.intro (cells4 (g5.block 0 rfl)) (cells4 (g5.block 2 rfl));have G5:=Lib.hid (HOF.out w5 (.returned (.tuple #[pR mb,.int .i64 0])) (by have e:=of_decide_eq_true HD.out;rw [if_pos e];exact⟨rfl,g5.sel2 (R1:=[_,_,_,_]) (R2:=R) [0,3] (by decide) rfl⟩));clear g5))
    go_wp2_with fail
    go_ret2
    exact G5.out
   | false=>
    rw [hd] at KS
    have HD:=Lib.hid hd
    clear hio hlt hk hok hos hqr HQ2 t1 t2 t3 hd
    go_wp2_with fail
    go_region_held3 (fun w'=>(w'.cell? ⟨mb,0,none⟩=some (.int .i64 t.gen)∧w'.cell? ⟨mb,1,none⟩=some (.slice ba t.bks.length bc)∧w'.cell? ⟨mb,2,none⟩=some (.slice da t.drs.length dc)∧w'.cell? ⟨mb,3,none⟩=some (.slice fa t.fls.length fc))∧(w'.cell? ⟨g,0,none⟩=some (.int .i64 v.gen)∧w'.cell? ⟨g,1,none⟩=some (.slice A v.bks.length a)∧w'.cell? ⟨g,2,none⟩=some (.slice D v.drs.length d)∧w'.cell? ⟨g,3,none⟩=some (.slice F v.fls.length f))) (first | exact hz1 | exact hz0) (first
     | (go_at_call 14;refine KS.out.mono ?_;rintro e w5 ⟨rfl,g5⟩;have hz1:=And.intro (cells4 (g5.block 0 rfl)) (cells4 (g5.block 2 rfl));have G5:=Lib.hid (HOF.out w5 (.returned (.tuple #[.pointer none,.int .i64 1])) (by rw [if_neg (of_decide_eq_false HD.out)];exact⟨rfl,g5.drop.drop.drop.drop⟩));clear g5))
    go_wp2_with fail
    go_ret2
    exact G5.out
end
def zCall:Array Value:=#[.int .i64 0,.int .i64 0,.int .i64 0,.int .u32 0,.int .u32 0,.int .i64 0,.int .i64 0,.int .i64 0,.int .i64 0,.int .i64 0,.int .i64 0,.int .i64 0,.slice none 0 0,.int .i64 0,.int .i64 0,.int .i64 0,.slice none 0 0,.slice none 0 0]
def zRec:Array Value:=#[.int .i64 0,.int .u32 0,.int .u32 0,.int .i64 0,.int .i64 0,.int .i64 0,.int .i64 0,.int .i64 0,.int .i64 0,.int .i64 0,.slice none 0 0,.int .i64 0,.int .i64 0,.int .i64 0]
def callV (c:CallR) (ab:Option Addr) (cb:Nat) (ar:Option Addr) (cr:Nat) (ap:Option Addr) (cp:Nat):List Value:=.int .i64 c.act::.int .i64 c.n::(encRL c.r (.slice ab c.r.bks.length cb)++[.slice ar c.rows.length cr,.slice ap c.picks.length cp])
def recV (r:Rec) (ab:Option Addr) (cb:Nat):List Value:=encRL r (.slice ab r.bks.length cb)
section
variable {c:CallR} {ab ar ap:Option Addr} {cb cr cp:Nat} {r:Rec}
end
section
variable {F0:List Nat} {w0 w:World} {R:List Asrt}
end
structure LightC (c:CallR):Prop where
 n:c.rows.length≤30
 b:c.r.bks.length≤40
 rows:∀ r∈c.rows,r.bks.length≤40
structure LightP (cs:List CallR):Prop where
 len:cs.length≤60
 each:∀ c∈cs,LightC c
section
variable {w0 w:World} {R:List Asrt}
def LiRel (cs:List CallR) (w0:World) (R:List Asrt) (i:Value) (wr:World):Prop:=
 ∃ k:Nat,k≤cs.length∧k≤60∧i=.int .i64 k∧(∀ c∈cs.take k,LightC c)∧In [] w0 wr R
def LiRel2 (rs:List Rec) (w0:World) (R:List Asrt) (i:Value) (wr:World):Prop:=
 ∃ k:Nat,k≤rs.length∧i=.int .i64 k∧(∀ r∈rs.take k,r.bks.length≤40)∧In [] w0 wr R
def LightPost (cs:List CallR) (w0:World) (R:List Asrt) (e:Ending) (w':World):Prop:=∃ b:Bool,e=.returned (.bool b)∧(b=true→LightP cs)∧In [] w0 w' R
end
end Go.Proofs.YtaopfagclnocdaaGreat
