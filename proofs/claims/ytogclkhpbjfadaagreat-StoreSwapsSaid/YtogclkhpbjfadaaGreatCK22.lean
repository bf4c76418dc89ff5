/- Parts of the proofs that a compaction keeps what lives, and done again is as once. -/
import Derived.Test.YtogclkhpbjfadaaGreatCK21
import Derived.Test.YtogclkhpbjfadaaGreatCK16
namespace Go.Proofs.YtogclkhpbjfadaaGreat
open Go.RowKit
open Go.Maps (Keyed)
set_option linter.unusedVariables false
set_option maxHeartbeats 64000000
set_option maxRecDepth 100000
section
variable {F0:List Nat} {w0 w:World} {R:List az} {sb:Nat} {s:fP}
theorem Kw (b:Nat) (es:Array MapEntry) (clock:Nat) (w:World) (hb:w.heap[b]?=some (.map es clock)) :
  Calls Tryz.prog 189 #[.map (some b)] w fun e w'=>e=.returned (.map (some w.heap.size))∧w'=w.alloc (.map es clock):=by
 have hq:=fun w=>run_eql_map_nil_sl (P:=Tryz.prog) w 154 _ _ (some b) Tryz.underlying154
 go_enter Tryz.func189,Tryz.ntmps189
 go_wp2
 rw [run_callFunc_extern Tryz.func175 (by kernel_rfl) (by kernel_rfl) (by kernel_rfl) (e:=Extern.MapsClone.clone) (by kernel_rfl),run_maps_clone_sl w 154 hb]
 simp only [Result.andThen]
 rw [Oper.upon_value]
 go_wp2
 rw [run_typeAssert_map_sl _ 154 20 _ _ _ Tryz.underlying154]
 simp only [Result.andThen]
 rw [Oper.upon_value]
 go_wp2
 go_ret
 exact⟨rfl,rfl⟩
theorem Ky (b:Nat) (es:Array MapEntry) (clock:Nat) (w:World) (hb:w.heap[b]?=some (.map es clock)) :
  Calls Tryz.prog 190 #[.map (some b)] w fun e w'=>e=.returned (.map (some w.heap.size))∧w'=w.alloc (.map es clock):=by
 have hq:=fun w=>run_eql_map_nil_sl (P:=Tryz.prog) w 155 _ _ (some b) Tryz.underlying155
 go_enter Tryz.func190,Tryz.ntmps190
 go_wp2
 rw [run_callFunc_extern Tryz.func175 (by kernel_rfl) (by kernel_rfl) (by kernel_rfl) (e:=Extern.MapsClone.clone) (by kernel_rfl),run_maps_clone_sl w 155 hb]
 simp only [Result.andThen]
 rw [Oper.upon_value]
 go_wp2
 rw [run_typeAssert_map_sl _ 155 20 _ _ _ Tryz.underlying155]
 simp only [Result.andThen]
 rw [Oper.upon_value]
 go_wp2
 go_ret
 exact⟨rfl,rfl⟩
def Kz (sb:Nat) (s:fP) (bv:Value) (dm fm:Nat) (w':World):Prop:=
 w'.cell? ⟨sb,0,none⟩=some (.int .i64 s.gen)∧w'.cell? ⟨sb,1,none⟩=some bv∧w'.cell? ⟨sb,2,none⟩=some (.map (some dm))∧w'.cell? ⟨sb,3,none⟩=some (.map (some fm))
theorem Kz.of {bv:Value} {dm fm:Nat} (h:In F0 w0 w R) (i:Nat) (hA:R[i]?=some (Cells sb (Js s bv dm fm) 157)):Kz sb s bv dm fm w:=
 ⟨cell_of (h.block i hA) rfl,cell_of (h.block i hA) rfl,cell_of (h.block i hA) rfl,cell_of (h.block i hA) rfl⟩
theorem RJ (h:In F0 w0 w (iH sb s::R)):Calls Tryz.prog 100 #[pR sb] w fun e w'=>∃ sb2,e=.returned (pR sb2)∧In F0 w0 w' (iH sb2 s::iH sb s::R):=by
 obtain⟨hok,dm,fm,a,c',g1⟩:=h.ny
 have hlen:=(mR hok.ax).1
 obtain⟨Fv,rv⟩:=(g1.drewN 1).get 1 rfl
 have K1:=Lib.hid (nK (g1.drewN 1) (fun e=>ay.Hy rv e) rv.all (Nat.le_trans hlen (by decide)))
 obtain⟨c0,c1,c2,c3⟩:=Kz.of g1 0 rfl
 have HE:Hid (∀ w' B bv2 dm2 fm2,In F0 w0 w' (Cells B (Js s bv2 dm2 fm2) 157::gG bv2 s.ax::zN dm2 s.bN::Cs fm2 s.bU::Cells sb (Js s (.slice a s.ax.length c') dm fm) 157::gG (.slice a s.ax.length c') s.ax::zN dm s.bN::Cs fm s.bU::R)→In F0 w0 w' (iH B s::iH sb s::R)):=
  Lib.hid fun w' B bv2 dm2 fm2 h'=>(In.lT (s:=s) (dm:=dm) (fm:=fm) hok ((In.lT hok h').aI (R1:=[_,_,_,_,_]) [1,2,3,4,0] (by decide) rfl)).aI (R1:=[_,_]) [1,0] (by decide) rfl
 clear h hok g1 rv hlen
 go_enter Tryz.func100,Tryz.ntmps100
 go_wp2_with fail
 go_region_held3 (fun w'=>w'.cell? ⟨sb,0,none⟩=some (.int .i64 s.gen)∧w'.cell? ⟨sb,1,none⟩=some (.slice a s.ax.length c')∧w'.cell? ⟨sb,2,none⟩=some (.map (some dm))∧w'.cell? ⟨sb,3,none⟩=some (.map (some fm))) (first | exact hz3 | exact hz2 | exact hz1 | exact⟨c0,c1,c2,c3⟩ | go_keep)
  (first
   | (go_at_call 103
      refine K1.out.mono ?_
      rintro e w1 ⟨v,rfl,g2⟩
      obtain⟨Fx,rx⟩:=g2.get 0 rfl
      obtain⟨pa,pc,rfl,-,-,-⟩:=ay.shape rx
      have hz1:=Kz.of g2 1 rfl
      obtain⟨es,clock,hb,g3⟩:=qy g2 3 rfl
      have hz2:=Kz.of g3 2 rfl
      obtain⟨es2,clock2,hb2,g4⟩:=qy g3 5 rfl
      have hz3:=Kz.of g4 3 rfl
      unfold Kz at hz1 hz2 hz3
      have C1:=Lib.hid (Kw dm es clock w1 hb)
      have C2:=Lib.hid (Ky fm es2 clock2 _ hb2)
      have G:=Lib.hid g4
      clear g2 g3 g4 rx hb hb2)
   | (go_at_call 189
      refine C1.out.mono ?_
      rintro e w2 ⟨rfl,rfl⟩)
   | (go_at_call 190
      refine C2.out.mono ?_
      rintro e w3 ⟨rfl,rfl⟩))
 have g5:=G.out.cells (Js s (.slice pa s.ax.length pc) w1.heap.size (w1.alloc (.map es clock)).heap.size) 157
 have HX:=Lib.hid (HE.out _ _ _ _ _ (g5.aI (R1:=[_,_,_,_]) [0,3,2,1] (by decide) rfl))
 simp only [World.size_alloc] at HX
 clear g5 G HE hz1 hz2 hz3
 go_wp2_with fail
 go_ret
 exact⟨_,rfl,HX.out⟩
end
end Go.Proofs.YtogclkhpbjfadaaGreat
