/- Rows.CompactBoundsSaid -/
import Derived.Test.YtaopfagclnocdaaGreatCU22
import Derived.Test.YtaopfagclnocdaaGreatCU15
import Derived.Outline
import Derived.Test.YtaopfagclnocdaaGreatCU17
import Derived.Test.YtaopfagclnocdaaGreatCU12
import Derived.Deep.RegionHeld3
namespace Go.Proofs.YtaopfagclnocdaaGreat
open Go.RowKit
set_option linter.unusedVariables false
set_option maxHeartbeats 64000000
set_option maxRecDepth 100000
variable {F0:List Nat} {w0 w:World} {R:List Asrt}
theorem infoDrQ:(Tryz.prog.info? 128).map (fun i=>(i.zero.map (fun z=>z.cells.size),i.size,i.bytes))=some (some 2,2,16):=by kernel_rfl
abbrev flD (L:List (Int×Int)):List Value:=(L.map encDr).flatten
theorem flD_one (l:List (Int×Int)):∀ u∈flD l,u.oneCell'=true:=by
 intro u hu
 obtain⟨x,hx,hu⟩:=List.mem_flatten.1 hu
 obtain⟨y,_,rfl⟩:=List.mem_map.1 hx
 simp only [encDr,List.mem_cons,List.not_mem_nil,or_false] at hu
 rcases hu with rfl | rfl <;> rfl
theorem flD_take (L:List (Int×Int)) (j:Nat):(flD L).take (j * 2)=flD (L.take j):=by
 induction L generalizing j with
 | nil=>simp [flD]
 | cons x r ih=>
  cases j with
  | zero=>simp
  | succ j=>
   have e:flD (x::r)=.int .i64 x.1::.int .i64 x.2::flD r:=rfl
   rw [e,show (j+1) * 2=j * 2+1+1 by omega,List.take_succ_cons,List.take_succ_cons,ih,List.take_succ_cons];rfl
theorem flD_drop (L:List (Int×Int)) (j:Nat):(flD L).drop (j * 2)=flD (L.drop j):=by
 induction L generalizing j with
 | nil=>simp [flD]
 | cons x r ih=>
  cases j with
  | zero=>simp
  | succ j=>
   have e:flD (x::r)=.int .i64 x.1::.int .i64 x.2::flD r:=rfl
   rw [e,show (j+1) * 2=j * 2+1+1 by omega,List.drop_succ_cons,List.drop_succ_cons,ih,List.drop_succ_cons]
def VD (F0:List Nat) (w0:World) (R:List Asrt) (v:Value) (L:List (Int×Int)):Prop:=∀ W,In F0 w0 W R→∃ F,ViewA 2 v L.length (flD L) W F
theorem VD.more {v:Value} {L:List (Int×Int)} (h:VD F0 w0 R v L) (A:Asrt):VD F0 w0 (A::R) v L:=fun W hW=>h W hW.drop
theorem VD.row {v:Value} {L:List (Int×Int)}:VD F0 w0 (RowA 128 2 v L.length (flD L)::R) v L:=fun W hW=>by
 obtain⟨F,hF⟩:=hW.get 0 rfl
 exact⟨F,hF.view⟩
theorem view_dr {a:Option Addr} {n cap:Nat} {L:List (Int×Int)} {w:World} {F:List Nat} (h:ViewA 2 (.slice a n cap) L.length (flD L) w F) (h0:0 < L.length):∃ g o,a=some ⟨g,o,none⟩∧∀ (j:Nat) (x:Int×Int),L[j]?=some x→w.cell? ⟨g,o+j * 2,none⟩=some (.int .i64 x.1)∧w.cell? ⟨g,o+j * 2+1,none⟩=some (.int .i64 x.2):=by
 obtain⟨g,o,rfl,hc⟩:=h.at h0 (by omega)
 refine⟨g,o,rfl,fun j x hx=>⟨?_,?_⟩⟩
 ·have:=hc (j * 2+0) _ (by rw [flat_at (enc:=encDr) (k:=2) (fun _=>rfl) hx 0 (by decide)];rfl)
  rwa [← Nat.add_assoc] at this
 ·have:=hc (j * 2+1) _ (by rw [flat_at (enc:=encDr) (k:=2) (fun _=>rfl) hx 1 (by decide)];rfl)
  rwa [← Nat.add_assoc] at this
theorem stHasD_none {L:List (Int×Int)} {b:Int}:stHasD b L=false↔∀ x∈L,x.1≠b:=by
 unfold stHasD
 rw [List.any_eq_false]
 exact⟨fun h x hx=>by simpa using h x hx,fun h x hx=>by simpa using h x hx⟩
theorem stHasD_at {L:List (Int×Int)} {b:Int} {j:Nat} {x:Int×Int} (hx:L[j]?=some x) (e:x.1=b):stHasD b L=true:=
 List.any_eq_true.2 ⟨x,List.mem_of_getElem? hx,by simpa using e⟩
/-! ### Until -/
def QUntilRel (db:Nat) (v:Value) (L:List (Int×Int)) (b:Int) (F0:List Nat) (w0:World) (R:List Asrt) (k:Value) (wr:World):Prop:=
 ∃ j:Nat,k=.int .i64 j∧j≤L.length∧(∀ x∈L.take j,x.1≠b)∧In F0 w0 wr (QD db v::R)
def QUntilPost (db:Nat) (v:Value) (q:Bool) (F0:List Nat) (w0:World) (R:List Asrt) (e:Ending) (w':World):Prop:=
 ∃ n,e=.returned (.tuple #[.int .i64 n,.bool q])∧In F0 w0 w' (QD db v::R)
theorem o_quntil {db:Nat} {v:Value} {L:List (Int×Int)} (h:In F0 w0 w (QD db v::R)) (hl:L.length≤1000000) (hV:VD F0 w0 R v L) (b:Int) :
  Calls Tryz.prog 47 #[.pointer (some ⟨db,0,none⟩),.int .i64 b] w (QUntilPost db v (stHasD b L) F0 w0 R):=by
 obtain⟨F1,hv1⟩:=hV w h.drop
 obtain⟨a,cap,rfl,l1,l2⟩:=hv1.shape
 have HAT:Hid (∀ W,In F0 w0 W R→0 < L.length→∃ g o,a=some ⟨g,o,none⟩∧∀ (j:Nat) (x:Int×Int),L[j]?=some x→W.cell? ⟨g,o+j * 2,none⟩=some (.int .i64 x.1)∧W.cell? ⟨g,o+j * 2+1,none⟩=some (.int .i64 x.2)):=Lib.hid fun W hW h0=>by
  obtain⟨F,hF⟩:=hV W hW
  exact view_dr hF h0
 have c0:w.cell? ⟨db,0,none⟩=some (.slice a L.length cap):=cell_of (h.block 0 rfl) rfl
 have HS:Hid (QUntilRel db (.slice a L.length cap) L b F0 w0 R (.int .i64 0) w):=Lib.hid ⟨0,rfl,Nat.zero_le _,by simp,h⟩
 clear h hV hv1 l1 l2
 go_enter Tryz.func47,Tryz.ntmps47
 go_wp2_with fail
 clear c0
 go_loopw [13] (QUntilRel db (.slice a L.length cap) L b F0 w0 R) (fun k _=>L.length - (intOf k).toNat)
 case atStart=>exact HS.out
 case round=>
  obtain⟨j,rfl,hj,hno,ho⟩:=hrel
  clear HS
  by_cases hlt:j < L.length
  ·obtain⟨x,hx⟩:∃ x,L[j]?=some x:=⟨L[j],List.getElem?_eq_getElem hlt⟩
   obtain⟨g,o,rfl,hc⟩:=HAT.out wr ho.drop (by omega)
   obtain⟨r0,r1⟩:=hc j x hx
   have hlt':(j:Int) < (L.length:Int):=by omega
   by_cases hb:x.1=b
   ·have hb':(x.1 == b)=true:=by simpa using hb
    have HG:Hid (QUntilPost db (.slice (some ⟨g,o,none⟩) L.length cap) (stHasD b L) F0 w0 R (.returned (.tuple #[.int .i64 x.2,.bool true])) (wr.alloc (.cells #[.int .i64 x.1,.int .i64 x.2] 128))):=
     Lib.hid (by rw [stHasD_at hx hb];exact⟨_,rfl,ho.alloc _⟩)
    clear ho hc hno hx hb hlt
    go_wp2_with fail
    go_ret2
    exact HG.out
   ·have hb':(x.1 == b)=false:=by simpa using hb
    have HR:Hid (QUntilRel db (.slice (some ⟨g,o,none⟩) L.length cap) L b F0 w0 R (.int .i64 (j+1)) (wr.alloc (.cells #[.int .i64 x.1,.int .i64 x.2] 128))):=
     Lib.hid ⟨j+1,by congr 1,by omega,fun y hy=>by
      rw [List.take_add_one,hx] at hy
      rcases List.mem_append.1 hy with hy | hy
      ·exact hno y hy
      ·simp at hy;subst hy;exact hb,ho.alloc _⟩
    clear ho hc hno hx hb hlt
    go_wp2_with fail
    go_roundw
    case rel=>exact HR.out
    case measure=>simp [intOf];omega
  ·have hge:(L.length:Int)≤(j:Int):=by omega
   have HG:Hid (QUntilPost db (.slice a L.length cap) (stHasD b L) F0 w0 R (.returned (.tuple #[.int .i64 0,.bool false])) wr):=
    Lib.hid (by rw [List.take_of_length_le (by omega)] at hno;rw [stHasD_none.2 hno];exact⟨_,rfl,ho⟩)
   clear ho hno hlt
   go_wp2_with fail
   go_ret2
   exact HG.out
/-! ### Clear -/
def QClearRel (db:Nat) (v:Value) (L:List (Int×Int)) (b:Int) (F0:List Nat) (w0:World) (R:List Asrt) (u k:Value) (wr:World):Prop:=
 ∃ j:Nat,k=.int .i64 j∧j≤L.length∧In F0 w0 wr (RowA 128 2 u (stDelD b (L.take j)).length (flD (stDelD b (L.take j)))::QD db v::R)
def QClearPost (db:Nat) (L':List (Int×Int)) (F0:List Nat) (w0:World) (R:List Asrt) (e:Ending) (w':World):Prop:=
 ∃ v' q,e=.returned (.bool q)∧In F0 w0 w' (QD db v'::RowA 128 2 v' L'.length (flD L')::R)
theorem stDelD_take {L:List (Int×Int)} {j:Nat} {x:Int×Int} (b:Int) (hx:L[j]?=some x):stDelD b (L.take (j+1))=if x.1=b then stDelD b (L.take j) else stDelD b (L.take j)++[x]:=by
 rw [List.take_add_one,hx]
 unfold stDelD
 rw [List.filter_append]
 split <;> rename_i e <;> simp [e]
theorem flD_snoc (L:List (Int×Int)) (x:Int×Int):flD (L++[x])=flD L++[.int .i64 x.1,.int .i64 x.2]:=by simp [flD]
theorem o_qclear {db:Nat} {v:Value} {L:List (Int×Int)} (h:In F0 w0 w (QD db v::R)) (hl:L.length≤1000000) (hV:VD F0 w0 R v L) (b:Int) :
  Calls Tryz.prog 49 #[.pointer (some ⟨db,0,none⟩),.int .i64 b] w (QClearPost db (stDelD b L) F0 w0 R):=by
 obtain⟨F1,hv1⟩:=hV w h.drop
 obtain⟨a,cap,rfl,l1,l2⟩:=hv1.shape
 have HAT:Hid (∀ W,In F0 w0 W R→0 < L.length→∃ g o,a=some ⟨g,o,none⟩∧∀ (j:Nat) (x:Int×Int),L[j]?=some x→W.cell? ⟨g,o+j * 2,none⟩=some (.int .i64 x.1)∧W.cell? ⟨g,o+j * 2+1,none⟩=some (.int .i64 x.2)):=Lib.hid fun W hW h0=>by
  obtain⟨F,hF⟩:=hV W hW
  exact view_dr hF h0
 have c0:w.cell? ⟨db,0,none⟩=some (.slice a L.length cap):=cell_of (h.block 0 rfl) rfl
 have HS:Hid (QClearRel db (.slice a L.length cap) L b F0 w0 R (.slice none 0 0) (.int .i64 0) w):=Lib.hid ⟨0,rfl,Nat.zero_le _,h.rownil 128 2⟩
 clear h hV hv1 l1 l2
 go_enter Tryz.func49,Tryz.ntmps49
 go_wp2_with fail
 go_loopw [5,14] (QClearRel db (.slice a L.length cap) L b F0 w0 R) (fun _ k _=>L.length - (intOf k).toNat)
 case atStart=>exact HS.out
 case round=>
  obtain⟨j,rfl,hj,ho⟩:=hrel
  clear HS
  by_cases hlt:j < L.length
  ·obtain⟨x,hx⟩:∃ x,L[j]?=some x:=⟨L[j],List.getElem?_eq_getElem hlt⟩
   obtain⟨g,o,rfl,hc⟩:=HAT.out wr ho.drop.drop (by omega)
   obtain⟨r0,r1⟩:=hc j x hx
   have hlt':(j:Int) < (L.length:Int):=by omega
   have hdt:=stDelD_take b hx
   by_cases hb:x.1=b
   ·have hb':(x.1 != b)=false:=by simpa using hb
    rw [if_pos hb] at hdt
    have HR:Hid (QClearRel db (.slice (some ⟨g,o,none⟩) L.length cap) L b F0 w0 R u5 (.int .i64 (j+1)) (wr.alloc (.cells #[.int .i64 x.1,.int .i64 x.2] 128))):=
     Lib.hid ⟨j+1,by congr 1,by omega,by rw [hdt];exact ho.alloc _⟩
    clear ho hc hx hb hlt c0 hdt
    go_wp2_with fail
    go_roundw
    case rel=>exact HR.out
    case measure=>simp [intOf];omega
   ·have hb':(x.1 != b)=true:=by simpa using hb
    rw [if_neg hb] at hdt
    have hdl:(stDelD b (L.take j)).length≤1000000:=by
     have:(stDelD b (L.take j)).length≤(L.take j).length:=List.filter_sublist.length_le
     rw [List.length_take] at this;omega
    have Hfl:Hid (flD (stDelD b (L.take j))++[.int .i64 x.1,.int .i64 x.2]=flD (stDelD b (L.take (j+1)))∧(stDelD b (L.take j)).length+1=(stDelD b (L.take (j+1))).length):=Lib.hid (by rw [hdt,flD_snoc];simp)
    have HO:=Lib.hid ho
    clear ho hc hx hb hlt c0 hdt
    go_wp2_with (at_builtin;refine append_elem' ((HO.out.alloc _).alloc _) 0 rfl rfl (.tmp 22) (.tmp 24) 33 rfl Tryz.underlying33 infoDrQ (by decide) (by decide) rfl _ #[.int .i64 x.1,.int .i64 x.2] rfl (hp_alloc_at (by simp)) rfl (fun u hu=>by simp at hu;rcases hu with rfl | rfl <;> rfl) (by omega) ?_)
    intro v' w3 ho
    have HR:Hid (QClearRel db (.slice (some ⟨g,o,none⟩) L.length cap) L b F0 w0 R v' (.int .i64 (j+1)) w3):=by
     refine Lib.hid ⟨j+1,by congr 1,by omega,?_⟩
     rw [← Hfl.out.1,← Hfl.out.2]
     exact ho
    clear ho HO
    go_wp2_with fail
    go_roundw
    case rel=>exact HR.out
    case measure=>simp [intOf];omega
  ·have hge:(L.length:Int)≤(j:Int):=by omega
   have hjl:j=L.length:=by omega
   subst hjl
   rw [List.take_length] at ho
   obtain⟨Fr,hr⟩:=ho.get 0 rfl
   obtain⟨a2,cap2,rfl,-,-,-⟩:=hr.shape
   have c1:wr.cell? ⟨db,0,none⟩=some (.slice a L.length cap):=cell_of (ho.block 1 rfl) rfl
   have f1:wr.frozen? ⟨db,0,none⟩=false:=free_of (ho.block 1 rfl)
   have HG:Hid (∀ q,QClearPost db (stDelD b L) F0 w0 R (.returned (.bool q)) (wr.setCell ⟨db,0,none⟩ (.slice a2 (stDelD b L).length cap2))):=by
    have h2:=(ho.put 1 rfl 0 (.slice a2 (stDelD b L).length cap2)).perm (List.Perm.swap _ _ _)
    exact Lib.hid fun q=>⟨_,q,rfl,h2⟩
   clear ho hr hlt c0
   go_wp2_with fail
   go_ret
   exact HG.out _
variable {F0:List Nat} {w0 w:World} {R:List Asrt}
def ltD (b:Int) (x:Int×Int):Bool:=decide (x.1 < b)
theorem stPutD_parts (b u:Int):∀ {L:List (Int×Int)},SrtD L→(stDelD b L).takeWhile (ltD b)++(b,u)::(stDelD b L).dropWhile (ltD b)=stPutD b u L
 | [],_=>rfl
 | x::r,h=>by
  have hr:=(List.pairwise_cons.1 h).2
  have hx:=(List.pairwise_cons.1 h).1
  have ih:=stPutD_parts b u hr
  have hno:b≤x.1→stDelD b r=r:=fun hb=>by
   unfold stDelD
   exact List.filter_eq_self.2 (fun y hy=>by have:=hx y hy;simp;omega)
  unfold stPutD
  by_cases h1:x.1 < b
  ·have e:stDelD b (x::r)=x::stDelD b r:=by
    unfold stDelD;rw [List.filter_cons,if_pos (by simp;omega)]
   rw [if_pos h1,e,List.takeWhile_cons,List.dropWhile_cons,if_pos (by simpa [ltD] using h1),if_pos (by simpa [ltD] using h1),List.cons_append,ih]
  ·rw [if_neg h1]
   by_cases h2:b < x.1
   ·have e:stDelD b (x::r)=x::r:=by
     unfold stDelD at hno ⊢;rw [List.filter_cons,if_pos (by simp;omega),hno (by omega)]
    rw [if_pos h2,e,List.takeWhile_cons,List.dropWhile_cons,if_neg (by simp [ltD];omega),if_neg (by simp [ltD];omega)];rfl
   ·have e:stDelD b (x::r)=r:=by
     unfold stDelD at hno ⊢;rw [List.filter_cons,if_neg (by simp;omega),hno (by omega)]
    rw [if_neg h2,e]
    have hall:∀ y∈r,ltD b y=false:=fun y hy=>by have:=hx y hy;simp [ltD];omega
    have t1:r.takeWhile (ltD b)=[]:=by cases r with | nil=>rfl | cons y r=>rw [List.takeWhile_cons,if_neg (by rw [hall y (by simp)];simp)]
    have t2:r.dropWhile (ltD b)=r:=by cases r with | nil=>rfl | cons y r=>rw [List.dropWhile_cons,if_neg (by rw [hall y (by simp)];simp)]
    rw [t1,t2];rfl
theorem partsD {b:Int} {L:List (Int×Int)} {j:Nat} (hj:j≤L.length) (h1:∀ y∈L.take j,y.1 < b) (h2:∀ y,L[j]?=some y→b≤y.1):L.take j=L.takeWhile (ltD b)∧L.drop j=L.dropWhile (ltD b):=by
 induction L generalizing j with
 | nil=>simp
 | cons z r ih=>
  cases j with
  | zero=>
   have:ltD b z=false:=by have:=h2 z rfl;simp [ltD];omega
   simp [List.takeWhile_cons,List.dropWhile_cons,this]
  | succ j=>
   have hz:ltD b z=true:=by have:=h1 z (by simp);simp [ltD];omega
   obtain⟨e1,e2⟩:=ih (j:=j) (by simpa using hj) (fun y hy=>h1 y (by simp [hy])) (fun y hy=>h2 y (by simpa using hy))
   simp [List.takeWhile_cons,List.dropWhile_cons,hz,e1,e2]
theorem flD_app3 (L:List (Int×Int)) (x:Int×Int) (j:Nat) (hj:j≤L.length):[]++flD (L.take j)++#[Value.int .i64 x.1,.int .i64 x.2].toList++flD (L.drop j)=flD (L.take j++x::L.drop j)∧0+j+1+(L.length - j)=(L.take j++x::L.drop j).length:=by
 constructor
 ·simp [flD]
 ·simp [List.length_take,List.length_drop];omega
def QDPutRel (db:Nat) (v:Value) (L2:List (Int×Int)) (b:Int) (F0:List Nat) (w0:World) (R:List Asrt) (k:Value) (wr:World):Prop:=
 ∃ j:Nat,k=.int .i64 j∧j≤L2.length∧(∀ y∈L2.take j,y.1 < b)∧In F0 w0 wr (QD db v::RowA 128 2 v L2.length (flD L2)::R)
def QDPutEnd (db:Nat) (v:Value) (L2:List (Int×Int)) (b:Int) (F0:List Nat) (w0:World) (R:List Asrt) (k:Value) (wr:World):Prop:=
 ∃ j:Nat,k=.int .i64 j∧j≤L2.length∧L2.take j=L2.takeWhile (ltD b)∧L2.drop j=L2.dropWhile (ltD b)∧In F0 w0 wr (QD db v::RowA 128 2 v L2.length (flD L2)::R)
def QDPutPost (db:Nat) (L':List (Int×Int)) (F0:List Nat) (w0:World) (R:List Asrt) (e:Ending) (w':World):Prop:=
 ∃ v',e=.returned (.int .i64 0)∧In F0 w0 w' (QD db v'::RowA 128 2 v' L'.length (flD L')::R)
theorem o_qdput {db:Nat} {v:Value} {L:List (Int×Int)} (h:In F0 w0 w (QD db v::R)) (hl:L.length≤1000) (hs:SrtD L) (hV:VD F0 w0 R v L) {b t:Int} (b0:0≤b) (b1:b≤65535) (ht:0≤t∧t≤1099511627776) :
  Calls Tryz.prog 48 #[.pointer (some ⟨db,0,none⟩),.int .i64 b,.int .i64 t] w (QDPutPost db (stPutD b t L) F0 w0 R):=by
 obtain⟨F1,hv1⟩:=hV w h.drop
 obtain⟨a,cap,rfl,l1,l2⟩:=hv1.shape
 have HU:=Lib.hid (o_quntil h (by omega) hV b)
 have hti:Hid (∀ w',Calls Tryz.prog 124 #[.int .i64 t] w' fun e w''=>e=.returned (.bool true)∧w''=w'):=Lib.hid fun w'=>by
  have:=q_rtime t w'
  rwa [show inB t 1099511627776=true from decide_eq_true ht] at this
 have HC:Hid (∀ w',In F0 w0 w' (QD db (.slice a L.length cap)::R)→Calls Tryz.prog 49 #[.pointer (some ⟨db,0,none⟩),.int .i64 b] w' (QClearPost db (stDelD b L) F0 w0 R)):=Lib.hid fun w' h'=>o_qclear h' (by omega) hV b
 have HEQ:=Lib.hid (stPutD_parts b t hs)
 have hlen:decide ((1024:Int)≤(L.length:Int))=false:=by simp;omega
 have hDl:(stDelD b L).length≤1000:=Nat.le_trans List.filter_sublist.length_le hl
 clear h hV hv1 l1 l2 hs ht
 go_enter Tryz.func48,Tryz.ntmps48
 go_wp2_with fail
 refine (hti.out _).mono ?_
 rintro e w1 ⟨rfl,rfl⟩
 go_wp2_with fail
 refine HU.out.mono ?_
 rintro e w2 ⟨t0,rfl,ho⟩
 have c1:w2.cell? ⟨db,0,none⟩=some (.slice a L.length cap):=cell_of (ho.block 0 rfl) rfl
 have HC2:=Lib.hid (HC.out _ ho)
 clear ho HU HC hti
 generalize stHasD b L=q at *
 go_upto_region 4 with fail
 go_cut [36] (fun c wx=>c=.bool false∧wx=w2)
 case first=>
  cases q
  all_goals
   go_wp2_with fail
   go_meet
   exact⟨rfl,rfl⟩
 case rest=>
  obtain⟨rfl,rfl⟩:=hcut
  go_wp2_with fail
  refine HC2.out.mono ?_
  rintro e w3 ⟨v2,q2,rfl,ho1⟩
  clear HC2 c1
  generalize stDelD b L=L2 at *
  obtain⟨Fr,hr⟩:=ho1.get 1 rfl
  obtain⟨a2,cap2,rfl,-,-,-⟩:=hr.shape
  have HS:Hid (QDPutRel db (.slice a2 L2.length cap2) L2 b F0 w0 R (.int .i64 0) w3):=Lib.hid ⟨0,rfl,Nat.zero_le _,by simp,ho1⟩
  clear ho1 hr
  go_upto_block 0 with fail
  go_cut [9] (fun k wx=>QDPutEnd db (.slice a2 L2.length cap2) L2 b F0 w0 R k wx)
  case first=>
   go_wp2_with fail
   go_loopw [9] (QDPutRel db (.slice a2 L2.length cap2) L2 b F0 w0 R) (fun k _=>L2.length - (intOf k).toNat)
   case atStart=>exact HS.out
   case round=>
    obtain⟨j,rfl,hj,hlo,ho⟩:=hrel
    clear HS
    obtain⟨Fr,hr⟩:=ho.get 1 rfl
    have c2:wr.cell? ⟨db,0,none⟩=some (.slice a2 L2.length cap2):=cell_of (ho.block 0 rfl) rfl
    by_cases hgo:∃ x,L2[j]?=some x∧x.1 < b
    ·obtain⟨x,hx,hxb⟩:=hgo
     have hlt:j < L2.length:=(List.getElem?_eq_some_iff.1 hx).1
     have hlt':(j:Int) < (L2.length:Int):=by omega
     obtain⟨g,o,rfl,hc⟩:=view_dr hr.view (by omega)
     obtain⟨r0,r1⟩:=hc j x hx
     have HR:Hid (QDPutRel db (.slice (some ⟨g,o,none⟩) L2.length cap2) L2 b F0 w0 R (.int .i64 (j+1)) wr):=
      Lib.hid ⟨j+1,by congr 1,by omega,fun y hy=>by
       rw [List.take_add_one,hx] at hy
       rcases List.mem_append.1 hy with hy | hy
       ·exact hlo y hy
       ·simp at hy;subst hy;exact hxb,ho⟩
     clear ho hr hlo hx hc
     go_wp2_with fail
     go_roundw
     case rel=>exact HR.out
     case measure=>simp [intOf];omega
    ·have HE:Hid (QDPutEnd db (.slice a2 L2.length cap2) L2 b F0 w0 R (.int .i64 j) wr):=by
      obtain⟨p1,p2⟩:=partsD hj hlo (fun y hy=>Classical.byContradiction fun hn=>hgo ⟨y,hy,by omega⟩)
      exact Lib.hid ⟨j,rfl,hj,p1,p2,ho⟩
     have hex:((j:Int) < (L2.length:Int)∧∃ x,L2[j]?=some x∧b≤x.1)∨(L2.length:Int)≤(j:Int):=by
      by_cases e:j < L2.length
      ·left;refine⟨by omega,L2[j],List.getElem?_eq_getElem e,?_⟩
       exact Classical.byContradiction fun hn=>hgo ⟨_,List.getElem?_eq_getElem e,by omega⟩
      ·right;omega
     clear hgo hlo
     rcases hex with ⟨hlt',x,hx,hxb⟩ | hge
     ·obtain⟨g,o,rfl,hc⟩:=view_dr hr.view (by omega)
      obtain⟨r0,r1⟩:=hc j x hx
      clear ho hr hx hc
      go_wp2_with fail
      go_meet
      exact HE.out
     ·clear ho hr
      go_wp2_with fail
      go_meet
      exact HE.out
  case rest=>
   obtain⟨j,rfl,hj,hp1,hp2,ho⟩:=hcut
   obtain⟨Fr,hr⟩:=ho.get 1 rfl
   rw [← hp1,← hp2] at HEQ
   clear hp1 hp2 HS
   have HA:Hid (In F0 w0 wc (RowA 128 2 (.slice none 0 0) 0 []::QD db (.slice a2 L2.length cap2)::RowA 128 2 (.slice a2 L2.length cap2) L2.length (flD L2)::R)):=Lib.hid (ho.rownil _ _)
   obtain⟨_,_,e,hcap,_,_⟩:=hr.shape
   cases e
   have hpre:∀ w:World,(Instr.slice 33 (.slice a2 L2.length cap2) none (some (.int .i64 j)) none).run Tryz.prog w=.ok (.slice a2 j cap2) w:=row_prefix Tryz.underlying33 infoDrQ hr (by omega)
   have hsuf:=run_suffix Tryz.underlying33 infoDrQ a2 L2.length cap2 j hj
   have i0:(0:Int)≤(j:Int):=by omega
   have i1:(j:Int)≤(cap2:Int):=by omega
   have i2:(j:Int)≤(L2.length:Int):=by omega
   have Hsrc:Hid (∀ {w':World} {F':List Nat},RowA 128 2 (.slice a2 L2.length cap2) L2.length (flD L2) w' F'→Src w' a2 j 2 (flD (L2.take j))∧Src w' (sufA a2 cap2 j 2) (L2.length - j) 2 (flD (L2.drop j))):=
    Lib.hid (fun h=>⟨by rw [← flD_take];exact h.src hj,by rw [← flD_drop];exact h.src_from hj⟩)
   have c3:wc.cell? ⟨db,0,none⟩=some (.slice a2 L2.length cap2):=cell_of (HA.out.block 1 rfl) rfl
   have c4:(wc.alloc (.cells #[.int .i64 b,.int .i64 t] 128)).cell? ⟨db,0,none⟩=some (.slice a2 L2.length cap2):=cell_of ((HA.out.cells _ _).block 2 rfl) rfl
   have HG:Hid (∀ (wz:World) (g:Nat) (v4:Value),In F0 w0 wz (Cells g #[.int .i64 b,.int .i64 t] 128::RowA 128 2 v4 (0+j+1+(L2.length - j)) ([]++flD (L2.take j)++#[Value.int .i64 b,.int .i64 t].toList++flD (L2.drop j))::QD db (.slice a2 L2.length cap2)::RowA 128 2 (.slice a2 L2.length cap2) L2.length (flD L2)::R)→QDPutPost db (stPutD b t L) F0 w0 R (.returned (.int .i64 0)) (wz.setCell ⟨db,0,none⟩ v4)):=Lib.hid fun wz g v4 hz=>by
    obtain⟨e1,e2⟩:=flD_app3 L2 (b,t) j hj
    rw [e1,e2,HEQ.out] at hz
    have h2:=(hz.put 2 rfl 0 v4).drop
    have h3:In F0 w0 (wz.setCell ⟨db,0,none⟩ v4) (RowA 128 2 (.slice a2 L2.length cap2) L2.length (flD L2)::QD db v4::RowA 128 2 v4 (stPutD b t L).length (flD (stPutD b t L))::R):=h2.perm (by
     refine List.Perm.trans (List.Perm.swap _ _ _) ?_
     refine List.Perm.trans (List.Perm.cons _ (List.Perm.swap _ _ _)) ?_
     exact List.Perm.swap _ _ _)
    exact⟨v4,rfl,h3.drop⟩
   clear ho hr
   go_wp2_with fail
   go_region_law
    (first
     | (refine app_step rfl (R:=RowA 128 2 (.slice none 0 0) 0 []::QD db (.slice a2 L2.length cap2)::RowA 128 2 (.slice a2 L2.length cap2) L2.length (flD L2)::R) (by exact HA.out.drewN 1) 0 rfl (.const (.slice none 0 0)) (.tmp 67) 33 (by rfl) Tryz.underlying33 infoDrQ (by decide) (by decide) (by rfl) (by rfl) (by obtain⟨F',h'⟩:=(HA.out.drewN 1).get 2 rfl;exact (Hsrc.out h').1) (flD_one _) (by omega) ?_
        intro v1 w3 ho1 hg1
        have hc1:w3.cell? ⟨db,0,none⟩=some (.slice a2 L2.length cap2):=cell_of (ho1.block 1 rfl) rfl
        have hd1:(w3.alloc (.cells #[.int .i64 b,.int .i64 t] 128)).cell? ⟨db,0,none⟩=some (.slice a2 L2.length cap2):=cell_of ((ho1.cells _ _).block 2 rfl) rfl
        have H1:=Lib.hid ho1
        clear ho1 hg1)
     | (refine app_step rfl (R:=Cells _ #[.int .i64 b,.int .i64 t] 128::RowA 128 2 (.slice none 0 0) 0 []::QD db (.slice a2 L2.length cap2)::RowA 128 2 (.slice a2 L2.length cap2) L2.length (flD L2)::R) (by exact (HA.out.drewN 1).cells _ _) 1 rfl (.const (.slice none 0 0)) (.tmp 67) 33 (by rfl) Tryz.underlying33 infoDrQ (by decide) (by decide) (by rfl) (by rfl) (by obtain⟨F',h'⟩:=((HA.out.drewN 1).cells #[.int .i64 b,.int .i64 t] 128).get 3 rfl;exact (Hsrc.out h').1) (flD_one _) (by omega) ?_
        intro v1 w3 ho1 hg1
        have hc1:w3.cell? ⟨db,0,none⟩=some (.slice a2 L2.length cap2):=cell_of (ho1.block 2 rfl) rfl
        have H2:=Lib.hid ho1
        clear ho1 hg1)
     | (refine app_step rfl (by first | exact H2.out | exact H1.out.cells _ _) 1 rfl (.tmp 68) (.tmp 72) 33 (by rfl) Tryz.underlying33 infoDrQ (by decide) (by decide) (by rfl) (by rfl) (by first | exact Src.of_block (H2.out.block 0 rfl) rfl | exact Src.of_block ((H1.out.cells #[.int .i64 b,.int .i64 t] 128).block 0 rfl) rfl) (fun u hu=>by simp at hu;rcases hu with rfl | rfl <;> rfl) (by omega) ?_
        intro v2 w4 ho2 hg2
        have hc2:w4.cell? ⟨db,0,none⟩=some (.slice a2 L2.length cap2):=cell_of (ho2.block 2 rfl) rfl
        have H3:=Lib.hid ho2
        clear ho2 hg2)
     | (refine app_step rfl (by exact H3.out) 1 rfl (.tmp 73) (.tmp 79) 33 (by rfl) Tryz.underlying33 infoDrQ (by decide) (by decide) (by rfl) (by rfl) (by obtain⟨F',h'⟩:=H3.out.get 3 rfl;exact (Hsrc.out h').2) (flD_one _) (by omega) ?_
        intro v3 w5 ho3 hg3
        have hc3:w5.cell? ⟨db,0,none⟩=some (.slice a2 L2.length cap2):=cell_of (ho3.block 2 rfl) rfl
        have hf3:w5.frozen? ⟨db,0,none⟩=false:=free_of (ho3.block 2 rfl)
        obtain⟨F3,hr3⟩:=ho3.get 1 rfl
        obtain⟨a3,cap3,rfl,-,-,-⟩:=hr3.shape
        clear hr3
        have H4:=Lib.hid ho3
        clear ho3 hg3))
   all_goals
    have HE:=Lib.hid (HG.out _ _ _ H4.out)
    rw [show 0+j+1+(L2.length - j)=j+1+(L2.length - j) by omega] at HE
    go_wp2_with fail
    go_ret
    exact HE.out
section
variable {P:Program} {ops:Array Oper} {Q:Exit→Act→World→Prop} {md:Region.Mode} {S:World→Prop}
theorem take_at (i d:Nat) {oi:Oper} {v:Value} {fuel:Nat} {listed:Array Bool} {a:Act} {w:World} (hi:ops[i]?=some oi) (hd:oi.dst=some d)
  (hs:Region.noSelect ops=true) (hf:Region.free md ops listed i=true) (hr:(Region.ready md ops listed).contains i=true)
  (hQ:∀ c a w,Q (.panic c) (a.put (some d) v) w→Q (.panic c) a w) (hw:Region.wanted oi (yielded ops a.tmps)=true) (hy:∀ w,S w→(execOp a.eval oi).run P w=.ok (.value v) w) (hS:S w)
  (h:wpAnyH P md ops Q S fuel (listed.setIfInBounds i true) (a.put (some d) v) w):wpAnyH P md ops Q S (fuel+1) listed a w:=
 wpAnyH_take hi hs hf hr (by rw [hd];exact hQ) (Or.inl ⟨hw,hy⟩) hS (by rw [hd];exact h)
theorem skip_at (i d:Nat) {oi:Oper} {fuel:Nat} {listed:Array Bool} {a:Act} {w:World} (hi:ops[i]?=some oi) (hd:oi.dst=some d)
  (hs:Region.noSelect ops=true) (hf:Region.free md ops listed i=true) (hr:(Region.ready md ops listed).contains i=true)
  (hQ:∀ c a w,Q (.panic c) (a.put (some d) undef) w→Q (.panic c) a w) (hw:Region.wanted oi (yielded ops a.tmps)=false) (hS:S w)
  (h:wpAnyH P md ops Q S fuel (listed.setIfInBounds i true) (a.put (some d) undef) w):wpAnyH P md ops Q S (fuel+1) listed a w:=
 wpAnyH_take hi hs hf hr (by rw [hd];exact hQ) (Or.inr ⟨hw,rfl⟩) hS (by rw [hd];exact h)
end
variable {F0:List Nat} {w0 w:World} {R:List Asrt}
theorem o_qmaybks {l:List Bk} {A:Option Addr} {c:Nat} (hs:BksAt F0 w0 R A l) (hl:l.length≤1000000000) (h:In F0 w0 w R):Calls Tryz.prog 46 #[.slice A l.length c] w (GnPost (gensMay l) F0 w0 R):=by
 by_cases h16:16 < l.length
 ·have e:gensMay l=false:=by unfold gensMay;rw [decide_eq_false (by omega)];rfl
  have q:(16:Int) < (l.length:Int):=by omega
  have G:=Lib.hid h
  rw [e]
  clear e h h16 hs hl
  go_enter Tryz.func46,Tryz.ntmps46
  go_wp2_with fail
  go_ret
  exact⟨rfl,G.out⟩
 have q16:decide ((16:Int) < (l.length:Int))=false:=decide_eq_false (by omega)
 have HL16:Hid (l.length≤16):=Lib.hid (Nat.le_of_not_lt h16)
 have HR:Hid (GnRel l F0 w0 R (.int .i64 0) w):=Lib.hid ⟨0,Nat.zero_le _,rfl,by simp,rfl,h⟩
 have HS:=Lib.hid hs
 clear h hs hl h16
 go_enter Tryz.func46,Tryz.ntmps46
 go_wp2_with fail
 go_loopw [10] (GnRel l F0 w0 R) (fun k _=>l.length - (intOf k).toNat)
 case atStart=>exact HR.out
 case round=>
  obtain⟨k,hk,rfl,hall,hup,hio⟩:=hrel
  clear HR
  by_cases hlt:k < l.length
  ·obtain⟨b,hb⟩:∃ b,l[k]?=some b:=⟨l[k],List.getElem?_eq_getElem hlt⟩
   obtain⟨g,o,rfl,c0,c1,c2⟩:=HS.out.cell hio hb
   have hlt':(k:Int) < (l.length:Int):=Int.ofNat_lt.2 hlt
   have hw2:wrap64 ((k:Int)+1)=(k:Int)+1:=by have:=HL16.out;unfold wrap64;omega
   have HN:=Lib.hid (fun (h1:gnOk l k b=true) w' (h':In F0 w0 w' R)=>gn_step (w:=w') hb hall hup h1 h')
   have HX:=Lib.hid (fun (h1:gnOk l k b=false) w' (h':In F0 w0 w' R)=>(show GnPost (gensMay l) F0 w0 R (.returned (.bool false)) w' from ⟨by rw [gn_no hb h1],h'⟩))
   have HO:=Lib.hid (hio.cells (encB b).toArray 108)
   have K:Hid (∀ w',In F0 w0 w' (Cells wr.heap.size (encB b).toArray 108::R)→Calls Tryz.prog 117 #[.agg (encB b).toArray] w' fun e w''=>e=.returned (.bool (mayBk b))∧In F0 w0 w'' (Cells wr.heap.size (encB b).toArray 108::R)):=Lib.hid fun w' h'=>o_qmaybk b h'
   have HSC:Hid (∀ w',In F0 w0 w' (Cells wr.heap.size (encB b).toArray 108::R)→w'.cell? ⟨wr.heap.size,0,none⟩=some (.int .i64 b.id)∧w'.cell? ⟨wr.heap.size,1,none⟩=some (.int .u32 b.addr)∧w'.cell? ⟨wr.heap.size,2,none⟩=some (.int .i64 b.weight)):=Lib.hid fun w' h'=>⟨cell_of (h'.block 0 rfl) rfl,cell_of (h'.block 0 rfl) rfl,cell_of (h'.block 0 rfl) rfl⟩
   have hc0:=HSC.out _ (HO.out.drewN 1)
   obtain⟨bid,baddr,bwt⟩:=b
   cases hC:mayBk ⟨bid,baddr,bwt⟩ with
   | false=>
    rw [hC] at K
    have HX2:=Lib.hid (HX.out (by unfold gnOk;rw [hC];rfl))
    clear HX HN hio hall hup hb hlt hk hC
    go_wp2_with fail
    refine wp_region_noPanic ?_
    refine wp_region_held_drew (S:=(fun w'=>w'.cell? ⟨wr.heap.size,0,none⟩=some (.int .i64 bid)∧w'.cell? ⟨wr.heap.size,1,none⟩=some (.int .u32 baddr)∧w'.cell? ⟨wr.heap.size,2,none⟩=some (.int .i64 bwt))) (by kernel_rfl) hc0 (fun hHeld=>?_)
    refine take_at 0 15 (v:=?v1) rfl rfl (by kernel_rfl) (by kernel_rfl) (by kernel_rfl) (fun _ _ _ h=>h) (by kernel_rfl) ?hy1 (by assumption) ?rest1
    case hy1=>(intro w hSw;(try dsimp only at hSw);go_simp;try with_reducible rfl)
    try simp only [Act.put,List.setIfInBounds_toArray,List.set_cons_zero,List.set_cons_succ]
    refine wpAnyH_ready (rs:=[1]) (by kernel_rfl) (by simp) ?_
    refine AllReadyH.cons rfl (fun K' hK=>?_) AllReadyH.nil
    go_simp
    go_at_call 117
    refine (K.out _ (HO.out.drewN 1)).mono ?_
    rintro e w5 ⟨rfl,ho5⟩
    have HI:=Lib.hid ho5
    refine hK.out _ _ (HSC.out _ ho5) (fun hHeld2=>?_)
    clear hK K' hHeld ho5
    try simp only [Act.put,List.setIfInBounds_toArray,List.set_cons_zero,List.set_cons_succ]
    refine take_at 2 17 (v:=?v2) rfl rfl (by kernel_rfl) (by kernel_rfl) (by kernel_rfl) (fun _ _ _ h=>h) (by kernel_rfl) ?hy2 (by assumption) ?rest2
    case hy2=>(intro w hSw;(try dsimp only at hSw);go_simp;try with_reducible rfl)
    try simp only [Act.put,List.setIfInBounds_toArray,List.set_cons_zero,List.set_cons_succ]
    refine take_at 3 18 (v:=?v3) rfl rfl (by kernel_rfl) (by kernel_rfl) (by kernel_rfl) (fun _ _ _ h=>h) (by kernel_rfl) ?hy3 (by assumption) ?rest3
    case hy3=>(intro w hSw;(try dsimp only at hSw);go_simp;try with_reducible rfl)
    try simp only [Act.put,List.setIfInBounds_toArray,List.set_cons_zero,List.set_cons_succ]
    refine skip_at 4 19 rfl rfl (by kernel_rfl) (by kernel_rfl) (by kernel_rfl) (fun _ _ _ h=>h) (by kernel_rfl) (by assumption) ?_
    try simp only [Act.put,List.setIfInBounds_toArray,List.set_cons_zero,List.set_cons_succ]
    refine skip_at 5 20 rfl rfl (by kernel_rfl) (by kernel_rfl) (by kernel_rfl) (fun _ _ _ h=>h) (by kernel_rfl) (by assumption) ?_
    try simp only [Act.put,List.setIfInBounds_toArray,List.set_cons_zero,List.set_cons_succ]
    refine skip_at 6 21 rfl rfl (by kernel_rfl) (by kernel_rfl) (by kernel_rfl) (fun _ _ _ h=>h) (by kernel_rfl) (by assumption) ?_
    try simp only [Act.put,List.setIfInBounds_toArray,List.set_cons_zero,List.set_cons_succ]
    refine skip_at 7 22 rfl rfl (by kernel_rfl) (by kernel_rfl) (by kernel_rfl) (fun _ _ _ h=>h) (by kernel_rfl) (by assumption) ?_
    try simp only [Act.put,List.setIfInBounds_toArray,List.set_cons_zero,List.set_cons_succ]
    refine skip_at 8 23 rfl rfl (by kernel_rfl) (by kernel_rfl) (by kernel_rfl) (fun _ _ _ h=>h) (by kernel_rfl) (by assumption) ?_
    try simp only [Act.put,List.setIfInBounds_toArray,List.set_cons_zero,List.set_cons_succ]
    refine skip_at 9 24 rfl rfl (by kernel_rfl) (by kernel_rfl) (by kernel_rfl) (fun _ _ _ h=>h) (by kernel_rfl) (by assumption) ?_
    try simp only [Act.put,List.setIfInBounds_toArray,List.set_cons_zero,List.set_cons_succ]
    refine skip_at 10 25 rfl rfl (by kernel_rfl) (by kernel_rfl) (by kernel_rfl) (fun _ _ _ h=>h) (by kernel_rfl) (by assumption) ?_
    try simp only [Act.put,List.setIfInBounds_toArray,List.set_cons_zero,List.set_cons_succ]
    refine skip_at 11 26 rfl rfl (by kernel_rfl) (by kernel_rfl) (by kernel_rfl) (fun _ _ _ h=>h) (by kernel_rfl) (by assumption) ?_
    try simp only [Act.put,List.setIfInBounds_toArray,List.set_cons_zero,List.set_cons_succ]
    refine skip_at 12 27 rfl rfl (by kernel_rfl) (by kernel_rfl) (by kernel_rfl) (fun _ _ _ h=>h) (by kernel_rfl) (by assumption) ?_
    try simp only [Act.put,List.setIfInBounds_toArray,List.set_cons_zero,List.set_cons_succ]
    refine skip_at 13 28 rfl rfl (by kernel_rfl) (by kernel_rfl) (by kernel_rfl) (fun _ _ _ h=>h) (by kernel_rfl) (by assumption) ?_
    try simp only [Act.put,List.setIfInBounds_toArray,List.set_cons_zero,List.set_cons_succ]
    refine skip_at 14 29 rfl rfl (by kernel_rfl) (by kernel_rfl) (by kernel_rfl) (fun _ _ _ h=>h) (by kernel_rfl) (by assumption) ?_
    try simp only [Act.put,List.setIfInBounds_toArray,List.set_cons_zero,List.set_cons_succ]
    refine skip_at 15 30 rfl rfl (by kernel_rfl) (by kernel_rfl) (by kernel_rfl) (fun _ _ _ h=>h) (by kernel_rfl) (by assumption) ?_
    try simp only [Act.put,List.setIfInBounds_toArray,List.set_cons_zero,List.set_cons_succ]
    refine skip_at 16 31 rfl rfl (by kernel_rfl) (by kernel_rfl) (by kernel_rfl) (fun _ _ _ h=>h) (by kernel_rfl) (by assumption) ?_
    try simp only [Act.put,List.setIfInBounds_toArray,List.set_cons_zero,List.set_cons_succ]
    refine take_at 17 32 (v:=?v4) rfl rfl (by kernel_rfl) (by kernel_rfl) (by kernel_rfl) (fun _ _ _ h=>h) (by kernel_rfl) ?hy4 (by assumption) ?rest4
    case hy4=>(intro w hSw;(try dsimp only at hSw);go_simp;try with_reducible rfl)
    try simp only [Act.put,List.setIfInBounds_toArray,List.set_cons_zero,List.set_cons_succ]
    refine wpAnyH_done (by kernel_rfl) ?_ _
    refine NoPanic.normal ?_
    go_wp2_with fail
    go_ret
    exact HX2.out _ HI.out.drop
   | true=>
    rw [hC] at K
    by_cases hD:k=0
    ·have qD:decide ((0:Int) < (k:Int))=false:=decide_eq_false (by omega)
     have qD':decide (0 < k)=false:=decide_eq_false (by omega)
     have hgo:gnOk l k ⟨bid,baddr,bwt⟩=true:=by unfold gnOk;rw [hC,hD];rfl
     have HN2:=Lib.hid (HN.out hgo)
     clear HX HN hio hall hup hb hlt hk hC hgo hD
     go_wp2_with fail
     refine wp_region_noPanic ?_
     refine wp_region_held_drew (S:=(fun w'=>w'.cell? ⟨wr.heap.size,0,none⟩=some (.int .i64 bid)∧w'.cell? ⟨wr.heap.size,1,none⟩=some (.int .u32 baddr)∧w'.cell? ⟨wr.heap.size,2,none⟩=some (.int .i64 bwt))) (by kernel_rfl) hc0 (fun hHeld=>?_)
     refine take_at 0 15 (v:=?v5) rfl rfl (by kernel_rfl) (by kernel_rfl) (by kernel_rfl) (fun _ _ _ h=>h) (by kernel_rfl) ?hy5 (by assumption) ?rest5
     case hy5=>(intro w hSw;(try dsimp only at hSw);go_simp;try with_reducible rfl)
     try simp only [Act.put,List.setIfInBounds_toArray,List.set_cons_zero,List.set_cons_succ]
     refine wpAnyH_ready (rs:=[1]) (by kernel_rfl) (by simp) ?_
     refine AllReadyH.cons rfl (fun K' hK=>?_) AllReadyH.nil
     go_simp
     go_at_call 117
     refine (K.out _ (HO.out.drewN 1)).mono ?_
     rintro e w5 ⟨rfl,ho5⟩
     have HI:=Lib.hid ho5
     refine hK.out _ _ (HSC.out _ ho5) (fun hHeld2=>?_)
     clear hK K' hHeld ho5
     try simp only [Act.put,List.setIfInBounds_toArray,List.set_cons_zero,List.set_cons_succ]
     refine take_at 2 17 (v:=?v6) rfl rfl (by kernel_rfl) (by kernel_rfl) (by kernel_rfl) (fun _ _ _ h=>h) (by kernel_rfl) ?hy6 (by assumption) ?rest6
     case hy6=>(intro w hSw;(try dsimp only at hSw);go_simp;try with_reducible rfl)
     try simp only [Act.put,List.setIfInBounds_toArray,List.set_cons_zero,List.set_cons_succ]
     refine take_at 3 18 (v:=?v7) rfl rfl (by kernel_rfl) (by kernel_rfl) (by kernel_rfl) (fun _ _ _ h=>h) (by kernel_rfl) ?hy7 (by assumption) ?rest7
     case hy7=>(intro w hSw;(try dsimp only at hSw);go_simp;try with_reducible rfl)
     try simp only [Act.put,List.setIfInBounds_toArray,List.set_cons_zero,List.set_cons_succ]
     refine take_at 4 19 (v:=?v8) rfl rfl (by kernel_rfl) (by kernel_rfl) (by kernel_rfl) (fun _ _ _ h=>h) (by kernel_rfl) ?hy8 (by assumption) ?rest8
     case hy8=>(intro w hSw;(try dsimp only at hSw);go_simp;try with_reducible rfl)
     try simp only [Act.put,List.setIfInBounds_toArray,List.set_cons_zero,List.set_cons_succ]
     refine take_at 5 20 (v:=?v9) rfl rfl (by kernel_rfl) (by kernel_rfl) (by kernel_rfl) (fun _ _ _ h=>h) (by kernel_rfl) ?hy9 (by assumption) ?rest9
     case hy9=>(intro w hSw;(try dsimp only at hSw);go_simp;try with_reducible rfl)
     try simp only [Act.put,List.setIfInBounds_toArray,List.set_cons_zero,List.set_cons_succ]
     refine take_at 6 21 (v:=?v10) rfl rfl (by kernel_rfl) (by kernel_rfl) (by kernel_rfl) (fun _ _ _ h=>h) (by kernel_rfl) ?hy10 (by assumption) ?rest10
     case hy10=>(intro w hSw;(try dsimp only at hSw);go_simp;try with_reducible rfl)
     try simp only [Act.put,List.setIfInBounds_toArray,List.set_cons_zero,List.set_cons_succ]
     refine skip_at 7 22 rfl rfl (by kernel_rfl) (by kernel_rfl) (by kernel_rfl) (fun _ _ _ h=>h) (by kernel_rfl) (by assumption) ?_
     try simp only [Act.put,List.setIfInBounds_toArray,List.set_cons_zero,List.set_cons_succ]
     refine skip_at 8 23 rfl rfl (by kernel_rfl) (by kernel_rfl) (by kernel_rfl) (fun _ _ _ h=>h) (by kernel_rfl) (by assumption) ?_
     try simp only [Act.put,List.setIfInBounds_toArray,List.set_cons_zero,List.set_cons_succ]
     refine skip_at 9 24 rfl rfl (by kernel_rfl) (by kernel_rfl) (by kernel_rfl) (fun _ _ _ h=>h) (by kernel_rfl) (by assumption) ?_
     try simp only [Act.put,List.setIfInBounds_toArray,List.set_cons_zero,List.set_cons_succ]
     refine skip_at 10 25 rfl rfl (by kernel_rfl) (by kernel_rfl) (by kernel_rfl) (fun _ _ _ h=>h) (by kernel_rfl) (by assumption) ?_
     try simp only [Act.put,List.setIfInBounds_toArray,List.set_cons_zero,List.set_cons_succ]
     refine skip_at 11 26 rfl rfl (by kernel_rfl) (by kernel_rfl) (by kernel_rfl) (fun _ _ _ h=>h) (by kernel_rfl) (by assumption) ?_
     try simp only [Act.put,List.setIfInBounds_toArray,List.set_cons_zero,List.set_cons_succ]
     refine skip_at 12 27 rfl rfl (by kernel_rfl) (by kernel_rfl) (by kernel_rfl) (fun _ _ _ h=>h) (by kernel_rfl) (by assumption) ?_
     try simp only [Act.put,List.setIfInBounds_toArray,List.set_cons_zero,List.set_cons_succ]
     refine skip_at 13 28 rfl rfl (by kernel_rfl) (by kernel_rfl) (by kernel_rfl) (fun _ _ _ h=>h) (by kernel_rfl) (by assumption) ?_
     try simp only [Act.put,List.setIfInBounds_toArray,List.set_cons_zero,List.set_cons_succ]
     refine skip_at 14 29 rfl rfl (by kernel_rfl) (by kernel_rfl) (by kernel_rfl) (fun _ _ _ h=>h) (by kernel_rfl) (by assumption) ?_
     try simp only [Act.put,List.setIfInBounds_toArray,List.set_cons_zero,List.set_cons_succ]
     refine skip_at 15 30 rfl rfl (by kernel_rfl) (by kernel_rfl) (by kernel_rfl) (fun _ _ _ h=>h) (by kernel_rfl) (by assumption) ?_
     try simp only [Act.put,List.setIfInBounds_toArray,List.set_cons_zero,List.set_cons_succ]
     refine take_at 16 31 (v:=?v11) rfl rfl (by kernel_rfl) (by kernel_rfl) (by kernel_rfl) (fun _ _ _ h=>h) (by kernel_rfl) ?hy11 (by assumption) ?rest11
     case hy11=>(intro w hSw;(try dsimp only at hSw);go_simp;try with_reducible rfl)
     try simp only [Act.put,List.setIfInBounds_toArray,List.set_cons_zero,List.set_cons_succ]
     refine take_at 17 32 (v:=?v12) rfl rfl (by kernel_rfl) (by kernel_rfl) (by kernel_rfl) (fun _ _ _ h=>h) (by kernel_rfl) ?hy12 (by assumption) ?rest12
     case hy12=>(intro w hSw;(try dsimp only at hSw);go_simp;try with_reducible rfl)
     try simp only [Act.put,List.setIfInBounds_toArray,List.set_cons_zero,List.set_cons_succ]
     refine wpAnyH_done (by kernel_rfl) ?_ _
     refine NoPanic.normal ?_
     go_wp2_with fail
     go_roundw
     case rel=>(try rw [hw2]);exact HN2.out _ HI.out.drop
     case measure=>(try rw [hw2]);exact meas_lt hlt'
    ·obtain⟨k',rfl⟩:∃ k',k=k'+1:=⟨k - 1,by omega⟩
     obtain⟨a,ha,hla⟩:=gn_last (l:=l) (k:=k') (by omega)
     clear HSC hc0
     have HSC:Hid (∀ w',In F0 w0 w' (Cells wr.heap.size (encB ⟨bid,baddr,bwt⟩).toArray 108::R)→w'.cell? ⟨wr.heap.size,0,none⟩=some (.int .i64 bid)∧w'.cell? ⟨wr.heap.size,1,none⟩=some (.int .u32 baddr)∧w'.cell? ⟨wr.heap.size,2,none⟩=some (.int .i64 bwt)∧w'.cell? ⟨g,o+k' * 3,none⟩=some (.int .i64 a.id)):=Lib.hid fun w' h'=>by
      obtain⟨g',o',e,d0,_⟩:=HS.out.cell h'.drop ha
      cases e
      exact⟨cell_of (h'.block 0 rfl) rfl,cell_of (h'.block 0 rfl) rfl,cell_of (h'.block 0 rfl) rfl,d0⟩
     have hc0:=HSC.out _ (HO.out.drewN 1)
     have hkc:(((k'+1:Nat):Int))=(k':Int)+1:=by omega
     have hsub:IntKind.i64.wrap (((k'+1:Nat):Int) - 1)=(k':Int):=by have:=HL16.out;rw [IntWalk.i64_in _ (by omega)];omega
     have hsub2:(((k'+1:Nat):Int) - 1)=(k':Int):=by omega
     have hkl:(k':Int) < (l.length:Int):=by omega
     have hsub3:IntKind.i64.wrap ((k':Int)+1 - 1)=(k':Int):=by have:=HL16.out;rw [IntWalk.i64_in _ (by omega)];omega
     have hsub4:((k':Int)+1 - 1)=(k':Int):=by omega
     have qD2:(0:Int) < (k':Int)+1:=by omega
     have hsub5:IntKind.i64.wrap (k':Int)=(k':Int):=by have:=HL16.out;exact IntWalk.i64_in _ (by omega)
     have hkl2:k' < l.length:=by omega
     have hw3:wrap64 ((k':Int)+1+1)=((k'+1:Nat):Int)+1:=by have:=HL16.out;unfold wrap64;omega
     have hgo:gnOk l (k'+1) ⟨bid,baddr,bwt⟩=decide (a.id < bid):=by unfold gnOk;rw [hla,hC,Bool.true_and]
     by_cases hE:bid≤a.id
     ·have HX2:=Lib.hid (HX.out (by rw [hgo];exact decide_eq_false (by omega)))
      clear HX HN hio hall hup hb hlt hk hC hgo hD ha hla
      go_wp2_with fail
      go_region_held3 (fun w'=>w'.cell? ⟨wr.heap.size,0,none⟩=some (.int .i64 bid)∧w'.cell? ⟨wr.heap.size,1,none⟩=some (.int .u32 baddr)∧w'.cell? ⟨wr.heap.size,2,none⟩=some (.int .i64 bwt)∧w'.cell? ⟨g,o+k' * 3,none⟩=some (.int .i64 a.id)) (first | exact hc1 | exact hc0 | go_keep)
       (first
        | (go_at_call 117
           refine (K.out _ (HO.out.drewN 1)).mono ?_
           rintro e w5 ⟨rfl,ho5⟩
           have HI:=Lib.hid ho5
           have hc1:=HSC.out _ ho5
           clear ho5))
      go_wp2_with fail
      go_ret
      exact HX2.out _ HI.out.drop
     ·have qE:decide (bid≤a.id)=false:=decide_eq_false hE
      have HN2:=Lib.hid (HN.out (by rw [hgo];exact decide_eq_true (by omega)))
      clear HX HN hio hall hup hb hlt hk hC hgo hD ha hla hE
      go_wp2_with fail
      go_region_held3 (fun w'=>w'.cell? ⟨wr.heap.size,0,none⟩=some (.int .i64 bid)∧w'.cell? ⟨wr.heap.size,1,none⟩=some (.int .u32 baddr)∧w'.cell? ⟨wr.heap.size,2,none⟩=some (.int .i64 bwt)∧w'.cell? ⟨g,o+k' * 3,none⟩=some (.int .i64 a.id)) (first | exact hc1 | exact hc0 | go_keep)
       (first
        | (go_at_call 117
           refine (K.out _ (HO.out.drewN 1)).mono ?_
           rintro e w5 ⟨rfl,ho5⟩
           have HI:=Lib.hid ho5
           have hc1:=HSC.out _ ho5
           clear ho5))
      go_wp2_with fail
      go_roundw
      case rel=>(try rw [hw2]);(try rw [hw3]);exact HN2.out _ HI.out.drop
      case measure=>(try rw [hw2]);(try rw [hw3]);exact meas_lt hlt'
  ·have hge:(l.length:Int)≤(k:Int):=Int.ofNat_le.2 (Nat.le_of_not_lt hlt)
   have hkl:l.take k=l:=List.take_of_length_le (Nat.le_of_not_lt hlt)
   rw [hkl] at hall hup
   have e:gensMay l=true:=by
    unfold gensMay
    rw [decide_eq_true HL16.out,hup,List.all_eq_true.2 hall];rfl
   have G:Hid (GnPost (gensMay l) F0 w0 R (.returned (.bool true)) wr):=Lib.hid ⟨by rw [e],hio⟩
   clear hio hkl hall hup hk hlt e
   go_wp2_with fail
   go_ret
   exact G.out
end Go.Proofs.YtaopfagclnocdaaGreat
