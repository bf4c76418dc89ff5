/- Rows.StoreRefusesSaid -/
import Derived.Test.YtpmmiljakbojaaaGreatRF20
import Derived.Test.YtpmmiljakbojaaaGreatRF15
namespace Go.Proofs.YtpmmiljakbojaaaGreat
open Go.RowKit
open Go.Maps (Keyed)
set_option linter.unusedVariables false
set_option maxHeartbeats 64000000
set_option maxRecDepth 100000
section
variable {F0:List Nat} {w0 w:World} {R:List Asrt} {sb:Nat} {s:StD}
theorem clone_bmap (b:Nat) (es:Array MapEntry) (clock:Nat) (w:World) (hb:w.heap[b]?=some (.map es clock)) :
  Calls Tryz.prog 65 #[.map (some b)] w fun e w'=>e=.returned (.map (some w.heap.size))∧w'=w.alloc (.map es clock):=by
 have hq:=fun w=>run_eql_map_nil_sl (P:=Tryz.prog) w 113 _ _ (some b) Tryz.underlying113
 go_enter Tryz.func65,Tryz.ntmps65
 go_wp2
 rw [run_callFunc_extern Tryz.func96 (by kernel_rfl) (by kernel_rfl) (by kernel_rfl) (e:=Extern.MapsClone.clone) (by kernel_rfl),run_maps_clone_sl w 113 hb]
 simp only [Result.andThen]
 rw [Oper.upon_value]
 go_wp2
 rw [run_typeAssert_map_sl _ 113 20 _ _ _ Tryz.underlying113]
 simp only [Result.andThen]
 rw [Oper.upon_value]
 go_wp2
 go_ret
 exact⟨rfl,rfl⟩
theorem clone_fmap (b:Nat) (es:Array MapEntry) (clock:Nat) (w:World) (hb:w.heap[b]?=some (.map es clock)) :
  Calls Tryz.prog 66 #[.map (some b)] w fun e w'=>e=.returned (.map (some w.heap.size))∧w'=w.alloc (.map es clock):=by
 have hq:=fun w=>run_eql_map_nil_sl (P:=Tryz.prog) w 114 _ _ (some b) Tryz.underlying114
 go_enter Tryz.func66,Tryz.ntmps66
 go_wp2
 rw [run_callFunc_extern Tryz.func96 (by kernel_rfl) (by kernel_rfl) (by kernel_rfl) (e:=Extern.MapsClone.clone) (by kernel_rfl),run_maps_clone_sl w 114 hb]
 simp only [Result.andThen]
 rw [Oper.upon_value]
 go_wp2
 rw [run_typeAssert_map_sl _ 114 20 _ _ _ Tryz.underlying114]
 simp only [Result.andThen]
 rw [Oper.upon_value]
 go_wp2
 go_ret
 exact⟨rfl,rfl⟩
def StC4 (sb:Nat) (s:StD) (bv:Value) (dm fm:Nat) (w':World):Prop:=
 w'.cell? ⟨sb,0,none⟩=some (.int .i64 s.gen)∧w'.cell? ⟨sb,1,none⟩=some bv∧w'.cell? ⟨sb,2,none⟩=some (.map (some dm))∧w'.cell? ⟨sb,3,none⟩=some (.map (some fm))
theorem StC4.of {bv:Value} {dm fm:Nat} (h:In F0 w0 w R) (i:Nat) (hA:R[i]?=some (Cells sb (stC s bv dm fm) 116)):StC4 sb s bv dm fm w:=
 ⟨cell_of (h.block i hA) rfl,cell_of (h.block i hA) rfl,cell_of (h.block i hA) rfl,cell_of (h.block i hA) rfl⟩
theorem o_stcopy (h:In F0 w0 w (StA sb s::R)):Calls Tryz.prog 23 #[pR sb] w fun e w'=>∃ sb2,e=.returned (pR sb2)∧In F0 w0 w' (StA sb2 s::StA sb s::R):=by
 obtain⟨hok,dm,fm,a,c',g1⟩:=h.stOpen
 have hlen:=(gensMay_len hok.bks).1
 obtain⟨Fv,rv⟩:=(g1.drewN 1).get 1 rfl
 have K1:=Lib.hid (o_bkclone (g1.drewN 1) (fun e=>RowA.noc rv e) rv.all (Nat.le_trans hlen (by decide)))
 obtain⟨c0,c1,c2,c3⟩:=StC4.of g1 0 rfl
 have HE:Hid (∀ w' B bv2 dm2 fm2,In F0 w0 w' (Cells B (stC s bv2 dm2 fm2) 116::BkR bv2 s.bks::SDM dm2 s.drs::SFM fm2 s.fls::Cells sb (stC s (.slice a s.bks.length c') dm fm) 116::BkR (.slice a s.bks.length c') s.bks::SDM dm s.drs::SFM fm s.fls::R)→In F0 w0 w' (StA B s::StA sb s::R)):=
  Lib.hid fun w' B bv2 dm2 fm2 h'=>(In.stClose (s:=s) (dm:=dm) (fm:=fm) hok ((In.stClose hok h').sel2 (R1:=[_,_,_,_,_]) [1,2,3,4,0] (by decide) rfl)).sel2 (R1:=[_,_]) [1,0] (by decide) rfl
 clear h hok g1 rv hlen
 go_enter Tryz.func23,Tryz.ntmps23
 go_wp2_with fail
 go_region_held3 (fun w'=>w'.cell? ⟨sb,0,none⟩=some (.int .i64 s.gen)∧w'.cell? ⟨sb,1,none⟩=some (.slice a s.bks.length c')∧w'.cell? ⟨sb,2,none⟩=some (.map (some dm))∧w'.cell? ⟨sb,3,none⟩=some (.map (some fm))) (first | exact hz3 | exact hz2 | exact hz1 | exact⟨c0,c1,c2,c3⟩ | go_keep)
  (first
   | (go_at_call 52
      refine K1.out.mono ?_
      rintro e w1 ⟨v,rfl,g2⟩
      obtain⟨Fx,rx⟩:=g2.get 0 rfl
      obtain⟨pa,pc,rfl,-,-,-⟩:=RowA.shape rx
      have hz1:=StC4.of g2 1 rfl
      obtain⟨es,clock,hb,g3⟩:=tab_clone g2 3 rfl
      have hz2:=StC4.of g3 2 rfl
      obtain⟨es2,clock2,hb2,g4⟩:=tab_clone g3 5 rfl
      have hz3:=StC4.of g4 3 rfl
      unfold StC4 at hz1 hz2 hz3
      have C1:=Lib.hid (clone_bmap dm es clock w1 hb)
      have C2:=Lib.hid (clone_fmap fm es2 clock2 _ hb2)
      have G:=Lib.hid g4
      clear g2 g3 g4 rx hb hb2)
   | (go_at_call 65
      refine C1.out.mono ?_
      rintro e w2 ⟨rfl,rfl⟩)
   | (go_at_call 66
      refine C2.out.mono ?_
      rintro e w3 ⟨rfl,rfl⟩))
 have g5:=G.out.cells (stC s (.slice pa s.bks.length pc) w1.heap.size (w1.alloc (.map es clock)).heap.size) 116
 have HX:=Lib.hid (HE.out _ _ _ _ _ (g5.sel2 (R1:=[_,_,_,_]) [0,3,2,1] (by decide) rfl))
 simp only [World.size_alloc] at HX
 clear g5 G HE hz1 hz2 hz3
 go_wp2_with fail
 go_ret
 exact⟨_,rfl,HX.out⟩
end
end Go.Proofs.YtpmmiljakbojaaaGreat
