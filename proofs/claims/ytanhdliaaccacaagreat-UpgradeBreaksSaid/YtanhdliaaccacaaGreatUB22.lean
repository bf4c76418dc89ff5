/- .. -/
import Derived.Test.YtanhdliaaccacaaGreatUB21
import Derived.Test.YtanhdliaaccacaaGreatUB16
namespace Go.Proofs.YtanhdliaaccacaaGreat
open Go.RowKit
open Go.Maps (Keyed)
set_option linter.unusedVariables false
set_option maxHeartbeats 64000000
set_option maxRecDepth 100000
section
variable {F0:List Nat} {w0 w:World} {R:List ax} {sb:Nat} {s:eT}
theorem Le (b:Nat) (es:Array MapEntry) (clock:Nat) (w:World) (hb:w.heap[b]?=some (.map es clock)) :
  Calls Tryz.prog 133 #[.map (some b)] w fun e w'=>e=.returned (.map (some w.heap.size))∧w'=w.alloc (.map es clock):=by
 have hq:=fun w=>run_eql_map_nil_sl (P:=Tryz.prog) w 97 _ _ (some b) Tryz.underlying97
 go_enter Tryz.func133,Tryz.ntmps133
 go_wp2
 rw [run_callFunc_extern Tryz.func173 (by kernel_rfl) (by kernel_rfl) (by kernel_rfl) (e:=Extern.MapsClone.clone) (by kernel_rfl),run_maps_clone_sl w 97 hb]
 simp only [Result.andThen]
 rw [Oper.upon_value]
 go_wp2
 rw [run_typeAssert_map_sl _ 97 20 _ _ _ Tryz.underlying97]
 simp only [Result.andThen]
 rw [Oper.upon_value]
 go_wp2
 go_ret
 exact⟨rfl,rfl⟩
theorem Lf (b:Nat) (es:Array MapEntry) (clock:Nat) (w:World) (hb:w.heap[b]?=some (.map es clock)) :
  Calls Tryz.prog 134 #[.map (some b)] w fun e w'=>e=.returned (.map (some w.heap.size))∧w'=w.alloc (.map es clock):=by
 have hq:=fun w=>run_eql_map_nil_sl (P:=Tryz.prog) w 98 _ _ (some b) Tryz.underlying98
 go_enter Tryz.func134,Tryz.ntmps134
 go_wp2
 rw [run_callFunc_extern Tryz.func173 (by kernel_rfl) (by kernel_rfl) (by kernel_rfl) (e:=Extern.MapsClone.clone) (by kernel_rfl),run_maps_clone_sl w 98 hb]
 simp only [Result.andThen]
 rw [Oper.upon_value]
 go_wp2
 rw [run_typeAssert_map_sl _ 98 20 _ _ _ Tryz.underlying98]
 simp only [Result.andThen]
 rw [Oper.upon_value]
 go_wp2
 go_ret
 exact⟨rfl,rfl⟩
def Lg (sb:Nat) (s:eT) (bv:Value) (dm fm:Nat) (w':World):Prop:=
 w'.cell? ⟨sb,0,none⟩=some (.int .i64 s.gen)∧w'.cell? ⟨sb,1,none⟩=some bv∧w'.cell? ⟨sb,2,none⟩=some (.map (some dm))∧w'.cell? ⟨sb,3,none⟩=some (.map (some fm))
theorem Lg.of {bv:Value} {dm fm:Nat} (h:In F0 w0 w R) (i:Nat) (hA:R[i]?=some (Cells sb (JC s bv dm fm) 100)):Lg sb s bv dm fm w:=
 ⟨cell_of (h.block i hA) rfl,cell_of (h.block i hA) rfl,cell_of (h.block i hA) rfl,cell_of (h.block i hA) rfl⟩
theorem RV (h:In F0 w0 w (iF sb s::R)):Calls Tryz.prog 64 #[pR sb] w fun e w'=>∃ sb2,e=.returned (pR sb2)∧In F0 w0 w' (iF sb2 s::iF sb s::R):=by
 obtain⟨hok,dm,fm,a,c',g1⟩:=h.nu
 have hlen:=(mV hok.au).1
 obtain⟨Fv,rv⟩:=(g1.drewN 1).get 1 rfl
 have K1:=Lib.hid (nQ (g1.drewN 1) (fun e=>ay.Jz rv e) rv.all (Nat.le_trans hlen (by decide)))
 obtain⟨c0,c1,c2,c3⟩:=Lg.of g1 0 rfl
 have HE:Hid (∀ w' B bv2 dm2 fm2,In F0 w0 w' (Cells B (JC s bv2 dm2 fm2) 100::gq bv2 s.au::zO dm2 s.bL::Cq fm2 s.bS::Cells sb (JC s (.slice a s.au.length c') dm fm) 100::gq (.slice a s.au.length c') s.au::zO dm s.bL::Cq fm s.bS::R)→In F0 w0 w' (iF B s::iF sb s::R)):=
  Lib.hid fun w' B bv2 dm2 fm2 h'=>(In.lT (s:=s) (dm:=dm) (fm:=fm) hok ((In.lT hok h').aL (R1:=[_,_,_,_,_]) [1,2,3,4,0] (by decide) rfl)).aL (R1:=[_,_]) [1,0] (by decide) rfl
 clear h hok g1 rv hlen
 go_enter Tryz.func64,Tryz.ntmps64
 go_wp2_with fail
 go_region_held3 (fun w'=>w'.cell? ⟨sb,0,none⟩=some (.int .i64 s.gen)∧w'.cell? ⟨sb,1,none⟩=some (.slice a s.au.length c')∧w'.cell? ⟨sb,2,none⟩=some (.map (some dm))∧w'.cell? ⟨sb,3,none⟩=some (.map (some fm))) (first | exact hz3 | exact hz2 | exact hz1 | exact⟨c0,c1,c2,c3⟩ | go_keep)
  (first
   | (go_at_call 49
      refine K1.out.mono ?_
      rintro e w1 ⟨v,rfl,g2⟩
      obtain⟨Fx,rx⟩:=g2.get 0 rfl
      obtain⟨pa,pc,rfl,-,-,-⟩:=ay.shape rx
      have hz1:=Lg.of g2 1 rfl
      obtain⟨es,clock,hb,g3⟩:=qy g2 3 rfl
      have hz2:=Lg.of g3 2 rfl
      obtain⟨es2,clock2,hb2,g4⟩:=qy g3 5 rfl
      have hz3:=Lg.of g4 3 rfl
      unfold Lg at hz1 hz2 hz3
      have C1:=Lib.hid (Le dm es clock w1 hb)
      have C2:=Lib.hid (Lf fm es2 clock2 _ hb2)
      have G:=Lib.hid g4
      clear g2 g3 g4 rx hb hb2)
   | (go_at_call 133
      refine C1.out.mono ?_
      rintro e w2 ⟨rfl,rfl⟩)
   | (go_at_call 134
      refine C2.out.mono ?_
      rintro e w3 ⟨rfl,rfl⟩))
 have g5:=G.out.cells (JC s (.slice pa s.au.length pc) w1.heap.size (w1.alloc (.map es clock)).heap.size) 100
 have HX:=Lib.hid (HE.out _ _ _ _ _ (g5.aL (R1:=[_,_,_,_]) [0,3,2,1] (by decide) rfl))
 simp only [World.size_alloc] at HX
 clear g5 G HE hz1 hz2 hz3
 go_wp2_with fail
 go_ret
 exact⟨_,rfl,HX.out⟩
end
end Go.Proofs.YtanhdliaaccacaaGreat
