/- Rows.CompactBoundsSaid -/
import Derived.Test.YtaopfagclnocdaaGreatCU23
namespace Go.Proofs.YtaopfagclnocdaaGreat
open Go.RowKit
set_option linter.unusedVariables false
set_option maxHeartbeats 64000000
set_option maxRecDepth 100000
attribute [-go_sem] run_eql_struct
variable {F0:List Nat} {w0 w:World} {R:List Asrt}
def QDropPost (fb:Nat) (L':List Fl) (F0:List Nat) (w0:World) (R R0:List Asrt) (e:Ending) (w':World):Prop:=
 ∃ v' N b,e=.returned (.bool b)∧In F0 w0 w' (QF fb v'::N::R)∧VF F0 w0 (N::R0) v' L'
theorem o_qdrop {R0:List Asrt} {fb:Nat} {v:Value} {L:List Fl} (h:In F0 w0 w (QF fb v::R)) (hl:L.length≤1000000) (hs:SrtF L) (hV:VF F0 w0 R v L) (hV0:VF F0 w0 R0 v L) (t:Tup) :
  Calls Tryz.prog 45 #[.pointer (some ⟨fb,0,none⟩),.agg (encT t)] w (QDropPost fb (stDelF t L) F0 w0 R R0):=by
 obtain⟨F1,hv1⟩:=hV w h.drop
 obtain⟨a,cap,rfl,l1,l2⟩:=hv1.shape
 have HAT:Hid (Calls Tryz.prog 122 #[.pointer (some ⟨fb,0,none⟩),.agg (encT t)] (w.alloc (.cells (encT t) 41)) (QAtPost fb (.slice a L.length cap) L t F0 w0 (Cells w.heap.size (encT t) 41::R))):=
  Lib.hid (o_qat ((h.cells (encT t) 41).perm (List.Perm.swap _ _ _)) hl (hV.more _) t)
 have HV:=Lib.hid hV0
 rcases atIx_cases L t with ⟨e,e2⟩|⟨j,x,e,hj,hxt,hno⟩
 ·rw [stDelF_none e2]
  unfold QAtPost at HAT
  rw [e] at HAT
  have HE:Hid (∀ wz xb,In F0 w0 wz (QF fb (.slice a L.length cap)::Cells xb (encT t) 41::R)→QDropPost fb L F0 w0 R R0 (.returned (.bool false)) wz):=Lib.hid fun wz xb hz=>⟨_,_,false,rfl,hz,HV.out.more _⟩
  clear e e2 h hV hV0 hv1 HV
  go_enter Tryz.func45,Tryz.ntmps45
  go_wp2_with fail
  refine HAT.out.mono ?_
  rintro e w1 ⟨rfl,ho⟩
  have HO:=Lib.hid ho
  clear ho HAT
  go_wp2_with fail
  go_ret
  exact HE.out _ _ HO.out
 ·rw [stDelF_at hs hj hxt]
  unfold QAtPost at HAT
  rw [e] at HAT
  have hlt:j < L.length:=(List.getElem?_eq_some_iff.1 hj).1
  have i1:(j:Int) < (L.length:Int):=by omega
  have hd2:decide ((j:Int) < 0)=false:=by simp
  have hpre:=fun W:World=>view_prefix Tryz.underlying34 infoFlow hv1 (j:=j) (by omega) W
  have hsuf:∀ w:World,(Instr.slice 34 (.slice a L.length cap) (some (.int .i64 ((j:Int)+1))) none none).run Tryz.prog w=.ok (.slice (sufA a cap (j+1) 8) (L.length - (j+1)) (cap - (j+1))) w:=fun w=>run_suffix Tryz.underlying34 infoFlow a L.length cap (j+1) (by omega) w
  have HSRC1:Hid (∀ W,In F0 w0 W R→Src W a j 8 (flatF (L.take j))):=Lib.hid fun W hW=>by
   obtain⟨F',hF'⟩:=hV W hW
   have:=hF'.src (m:=j) (by omega)
   rw [flatF_take'] at this;exact this
  have HSRC2:Hid (∀ W,In F0 w0 W R→Src W (sufA a cap (j+1) 8) (L.length - (j+1)) 8 (flatF (L.drop (j+1)))):=Lib.hid fun W hW=>by
   obtain⟨F',hF'⟩:=hV W hW
   have:=hF'.src_from (i:=j+1) (by omega)
   rw [flatF_drop] at this;exact this
  have i0:(0:Int)≤(j:Int):=by omega
  have i2:(j:Int)≤(cap:Int):=by omega
  have i3:(j:Int)+1≤(L.length:Int):=by omega
  have i4:IntKind.i64.wrap ((j:Int)+1)=(j:Int)+1:=by rw [IntKind.wrap_i64];omega
  have HG:Hid (∀ (wz:World) (xb:Nat) (v4:Value),In F0 w0 wz (RowA 43 8 v4 (0+j+(L.length - (j+1))) ([]++flatF (L.take j)++flatF (L.drop (j+1)))::QF fb (.slice a L.length cap)::Cells xb (encT t) 41::R)→QDropPost fb (L.take j++L.drop (j+1)) F0 w0 R R0 (.returned (.bool true)) (wz.setCell ⟨fb,0,none⟩ v4)):=Lib.hid fun wz xb v4 hz=>by
   have e1:[]++flatF (L.take j)++flatF (L.drop (j+1))=flatF (L.take j++L.drop (j+1)):=by simp [flatF]
   have e2:0+j+(L.length - (j+1))=(L.take j++L.drop (j+1)).length:=by simp;omega
   rw [e1,e2] at hz
   refine⟨v4,RowA 43 8 v4 (L.take j++L.drop (j+1)).length (flatF (L.take j++L.drop (j+1))),true,rfl,?_,VF.row⟩
   exact ((((hz.put 1 rfl 0 v4).perm (List.Perm.swap _ _ _)).perm (List.Perm.cons _ (List.Perm.swap _ _ _))).perm (List.Perm.swap _ _ _)).drop
  clear e h hno hxt hj hV hV0 hv1 HV hs
  go_enter Tryz.func45,Tryz.ntmps45
  go_wp2_with fail
  generalize w.heap.size=xb at *
  refine HAT.out.mono ?_
  rintro e w1 ⟨rfl,ho⟩
  have b0:w1.cell? ⟨fb,0,none⟩=some (.slice a L.length cap):=cell_of (ho.block 0 rfl) rfl
  have HA:Hid (In F0 w0 w1 (RowA 43 8 (.slice none 0 0) 0 []::QF fb (.slice a L.length cap)::Cells xb (encT t) 41::R)):=Lib.hid (ho.rownil 43 8)
  clear ho HAT l2
  go_wp2_with fail
  go_region_law
   (first
    | (refine app_step rfl (R:=RowA 43 8 (.slice none 0 0) 0 []::QF fb (.slice a L.length cap)::Cells xb (encT t) 41::R) (by exact HA.out.drewN 1) 0 rfl (.const (.slice none 0 0)) (.tmp 17) 34 (by rfl) Tryz.underlying34 infoFlow (by decide) (by decide) (by rfl) (by rfl) (HSRC1.out _ (HA.out.drewN 1).drop.drop.drop) (flatF_one _) (by omega) ?_
       intro v1 w3 ho1 hg1
       have hc1:w3.cell? ⟨fb,0,none⟩=some (.slice a L.length cap):=cell_of (ho1.block 1 rfl) rfl
       have H1:=Lib.hid ho1
       clear ho1 hg1)
    | (refine app_step rfl (by exact H1.out) 0 rfl (.tmp 18) (.tmp 25) 34 (by rfl) Tryz.underlying34 infoFlow (by decide) (by decide) (by rfl) (by rfl) (HSRC2.out _ H1.out.drop.drop.drop) (flatF_one _) (by omega) ?_
       intro v2 w4 ho2 hg2
       have hc2:w4.cell? ⟨fb,0,none⟩=some (.slice a L.length cap):=cell_of (ho2.block 1 rfl) rfl
       have hf2:w4.frozen? ⟨fb,0,none⟩=false:=free_of (ho2.block 1 rfl)
       obtain⟨F3,hr3⟩:=ho2.get 0 rfl
       obtain⟨a3,cap3,rfl,-,-,-⟩:=hr3.shape
       clear hr3
       have H4:=Lib.hid ho2
       clear ho2 hg2))
  all_goals
   have HE:=Lib.hid (HG.out _ xb _ H4.out)
   rw [show 0+j+(L.length - (j+1))=j+(L.length - (j+1)) by omega] at HE
   go_wp2_with fail
   go_ret
   exact HE.out
end Go.Proofs.YtaopfagclnocdaaGreat
