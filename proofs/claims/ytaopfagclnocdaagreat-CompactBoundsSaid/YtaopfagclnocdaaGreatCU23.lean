/- Rows.CompactBoundsSaid -/
import Derived.Test.YtaopfagclnocdaaGreatCU22
namespace Go.Proofs.YtaopfagclnocdaaGreat
open Go.RowKit
set_option linter.unusedVariables false
set_option maxHeartbeats 64000000
set_option maxRecDepth 100000
attribute [-go_sem] run_eql_struct
variable {F0:List Nat} {w0 w:World} {R:List Asrt}
theorem stDelF_none {L:List Fl} {t:Tup} (h:∀ x∈L,x.t≠t):stDelF t L=L:=by
 unfold stDelF
 exact List.filter_eq_self.2 (fun x hx=>by simpa using h x hx)
theorem stHasF_none {L:List Fl} {t:Tup} (h:∀ x∈L,x.t≠t):stHasF t L=false:=by
 unfold stHasF
 rw [List.any_eq_false]
 intro x hx;simpa using h x hx
theorem stHasF_at {L:List Fl} {t:Tup} {i:Nat} {x:Fl} (hx:L[i]?=some x) (he:x.t=t):stHasF t L=true:=by
 unfold stHasF
 exact List.any_eq_true.2 ⟨x,List.mem_of_getElem? hx,by simpa using he⟩
theorem stDelF_at {L:List Fl} (hs:SrtF L) {t:Tup} {i:Nat} {x:Fl} (hx:L[i]?=some x) (he:x.t=t):stDelF t L=L.take i++L.drop (i+1):=by
 have hL:L=L.take i++x::L.drop (i+1):=by
  obtain⟨hj,rfl⟩:=List.getElem?_eq_some_iff.1 hx
  rw [← List.drop_eq_getElem_cons hj,List.take_append_drop]
 have hs':=hs
 rw [hL] at hs'
 unfold SrtF at hs'
 rw [List.pairwise_append] at hs'
 obtain⟨_,h2,h3⟩:=hs'
 have e1:stDelF t (L.take i)=L.take i:=stDelF_none fun y hy e=>by
  have:=h3 y hy x (by simp)
  rw [e,he,ltT_irrefl] at this;cases this
 have e2:stDelF t (L.drop (i+1))=L.drop (i+1):=stDelF_none fun y hy e=>by
  have:=(List.pairwise_cons.1 h2).1 y hy
  rw [e,he,ltT_irrefl] at this;cases this
 conv=>lhs;rw [hL]
 unfold stDelF at e1 e2 ⊢
 rw [List.filter_append,List.filter_cons,e1,e2]
 simp [he]
def fullF (t:Tup) (L:List Fl):Bool:=!stHasF t L && decide (256≤L.length)
def QPutPost (fb:Nat) (L:List Fl) (f:Fl) (F0:List Nat) (w0:World) (R R0:List Asrt) (e:Ending) (w':World):Prop:=
 ∃ v' N b,e=.returned (.tuple #[.bool b,.int .i64 (if fullF f.t L=true then 9 else 0)])∧In F0 w0 w' (QF fb v'::N::R)∧VF F0 w0 (N::R0) v' (if fullF f.t L=true then L else stPutF f L)
theorem o_qput {R0:List Asrt} {fb:Nat} {v:Value} {L:List Fl} (h:In F0 w0 w (QF fb v::R)) (hl:L.length≤1000000) (hV:VF F0 w0 R v L) (hV0:VF F0 w0 R0 v L) {f:Fl} (hf:MayF f) :
  Calls Tryz.prog 44 #[.pointer (some ⟨fb,0,none⟩),.agg (encF f)] w (QPutPost fb L f F0 w0 R R0):=by
 obtain⟨F1,hv1⟩:=hV w h.drop
 obtain⟨a,cap,rfl,l1,l2⟩:=hv1.shape
 have h0:=(h.cells (encF f) 43).perm (List.Perm.swap _ _ _)
 have HM:=Lib.hid (o_qmayf h0 hf)
 have HAT:Hid (∀ w',In F0 w0 w' (QF fb (.slice a L.length cap)::Cells w.heap.size (encF f) 43::R)→Calls Tryz.prog 122 #[.pointer (some ⟨fb,0,none⟩),.agg (encT f.t)] w' (QAtPost fb (.slice a L.length cap) L f.t F0 w0 (Cells w.heap.size (encF f) 43::R))):=Lib.hid fun w' h=>o_qat h hl (hV.more _) f.t
 have HPF:Hid (∀ xb w',In F0 w0 w' (QF fb (.slice a L.length cap)::Cells xb (encF f) 43::R)→Calls Tryz.prog 123 #[.slice a L.length cap,.agg (encF f)] w' (PFPost L f F0 w0 (QF fb (.slice a L.length cap)::Cells xb (encF f) 43::R))):=Lib.hid fun xb w' h=>pf_call h hl (fun W hW=>hV W hW.drop.drop) f
 have HV:=Lib.hid hV0
 have hcase:(atIx L f.t=-1∧256≤L.length∧fullF f.t L=true)∨(atIx L f.t=-1∧L.length < 256∧fullF f.t L=false)∨(0≤atIx L f.t∧fullF f.t L=false):=by
  unfold fullF
  rcases atIx_cases L f.t with ⟨e,e2⟩|⟨i,x,e,hx,hxt,_⟩
  ·rw [stHasF_none e2]
   by_cases hm:256≤L.length
   ·left;exact⟨e,hm,by simp [hm]⟩
   ·right;left;exact⟨e,by omega,by simp;omega⟩
  ·right;right;refine⟨by omega,?_⟩
   rw [stHasF_at hx hxt];rfl
 unfold QPutPost
 clear h h0 hf hV hV0 hv1 l1 l2
 rcases hcase with ⟨e,hm,hp⟩|⟨e,hm,hp⟩|⟨e,hp⟩
 case' inl=>
  unfold QAtPost at HAT
  rw [e] at HAT
  rw [hp,if_pos rfl,if_pos rfl]
  have hd:decide ((256:Int)≤(L.length:Int))=true:=by simp;omega
  have hd2:(256:Int)≤(L.length:Int):=by omega
  have HE:Hid (∀ wz xb,In F0 w0 wz (QF fb (.slice a L.length cap)::Cells xb (encF f) 43::R)→∃ v' N b,Ending.returned (.tuple #[.bool false,.int .i64 9])=.returned (.tuple #[.bool b,.int .i64 9])∧In F0 w0 wz (QF fb v'::N::R)∧VF F0 w0 (N::R0) v' L):=Lib.hid fun wz xb hz=>⟨_,_,false,rfl,hz,HV.out.more _⟩
 case' inr.inl=>
  unfold QAtPost at HAT
  rw [e] at HAT
  rw [hp,if_neg (by simp),if_neg (by simp)]
  have hd:decide ((256:Int)≤(L.length:Int))=false:=by simp;omega
  have HE:Hid (∀ wz xb v4,In F0 w0 wz (RowA 43 8 v4 (pfF L f).length (flatF (pfF L f))::QF fb (.slice a L.length cap)::Cells xb (encF f) 43::R)→∃ v' N b,Ending.returned (.tuple #[.bool true,.int .i64 0])=.returned (.tuple #[.bool b,.int .i64 0])∧In F0 w0 (wz.setCell ⟨fb,0,none⟩ v4) (QF fb v'::N::R)∧VF F0 w0 (N::R0) v' (stPutF f L)):=Lib.hid fun wz xb v4 hz=>by
   rw [pfF_eq] at hz
   refine⟨v4,RowA 43 8 v4 (stPutF f L).length (flatF (stPutF f L)),true,rfl,?_,VF.row⟩
   exact ((((hz.put 1 rfl 0 v4).perm (List.Perm.swap _ _ _)).perm (List.Perm.cons _ (List.Perm.swap _ _ _))).perm (List.Perm.swap _ _ _)).drop
 case' inr.inr=>
  unfold QAtPost at HAT
  rw [hp,if_neg (by simp),if_neg (by simp)]
  have HE:Hid (∀ wz xb v4,In F0 w0 wz (RowA 43 8 v4 (pfF L f).length (flatF (pfF L f))::QF fb (.slice a L.length cap)::Cells xb (encF f) 43::R)→∃ v' N b,Ending.returned (.tuple #[.bool false,.int .i64 0])=.returned (.tuple #[.bool b,.int .i64 0])∧In F0 w0 (wz.setCell ⟨fb,0,none⟩ v4) (QF fb v'::N::R)∧VF F0 w0 (N::R0) v' (stPutF f L)):=Lib.hid fun wz xb v4 hz=>by
   rw [pfF_eq] at hz
   refine⟨v4,RowA 43 8 v4 (stPutF f L).length (flatF (stPutF f L)),false,rfl,?_,VF.row⟩
   exact ((((hz.put 1 rfl 0 v4).perm (List.Perm.swap _ _ _)).perm (List.Perm.cons _ (List.Perm.swap _ _ _))).perm (List.Perm.swap _ _ _)).drop
  generalize atIx L f.t=ix at *
  have hd:decide (ix < 0)=false:=by simp;omega
 all_goals
  clear e hp HV
  go_enter Tryz.func44,Tryz.ntmps44
  go_wp2_with fail
  refine HM.out.mono ?_
  rintro e w1 ⟨rfl,ho⟩
  generalize w.heap.size=xb at *
  obtain⟨f0,f1,f2,f3,f4,f5,f6,f7⟩:=o_fl0 ho 1 rfl
  have HA2:=Lib.hid (HAT.out _ ho)
  clear ho HM HAT
  go_wp2_with fail
  refine HA2.out.mono ?_
  rintro e w2 ⟨rfl,ho⟩
  have b0:w2.cell? ⟨fb,0,none⟩=some (.slice a L.length cap):=cell_of (ho.block 0 rfl) rfl
  have b1:w2.cell? ⟨fb,1,none⟩=some (.int .i64 256):=cell_of (ho.block 0 rfl) rfl
  have HO:=Lib.hid ho
  clear ho f0 f1 f2 f3 f4 f5 f6 f7 HA2
  go_wp2_with fail
  go_quiet (fail)
  go_wp2_with fail
 rotate_right 1
 ·go_ret2
  exact HE.out _ _ (HO.out.drewN _)
 all_goals
  have HI:=Lib.hid (HO.out.drewN nq)
  clear b0 b1 HO
  generalize w2.drewN nq=wz at *
  have b0:wz.cell? ⟨fb,0,none⟩=some (.slice a L.length cap):=cell_of (HI.out.block 0 rfl) rfl
  obtain⟨f0,f1,f2,f3,f4,f5,f6,f7⟩:=o_fl0 HI.out 1 rfl
  go_region_law
   (first
    | (go_simp
       go_at_call 123
       refine (HPF.out xb _ (HI.out.drewN 1)).mono ?_
       rintro e w4 ⟨v4,rfl,ho⟩
       have H4:=Lib.hid ho
       have g0:w4.frozen? ⟨fb,0,none⟩=false:=free_of (ho.block 1 rfl)
       have g1:w4.cell? ⟨fb,0,none⟩=some (.slice a L.length cap):=cell_of (ho.block 1 rfl) rfl
       obtain⟨F4,hv4⟩:=ho.get 0 rfl
       obtain⟨a4,c4,rfl,-,-,-⟩:=hv4.shape
       clear ho hv4))
  all_goals
   go_wp2_with fail
   go_ret2
   exact HE.out _ xb _ H4.out
end Go.Proofs.YtaopfagclnocdaaGreat
