/- Rows.PathPlaysSaid -/
import Derived.Test.YtgapbecddgfkmaaGreatPY15
import Derived.Test.YtgapbecddgfkmaaGreatPY16
namespace Go.Proofs.YtgapbecddgfkmaaGreat
open Go.RowKit
set_option linter.unusedVariables false
set_option maxHeartbeats 64000000
set_option maxRecDepth 100000
attribute [-go_sem] run_eql_struct
section
variable {F0 : List Nat} {w0 w : World} {R : List Asrt} {b : List UInt8}
theorem o_pttuple (h : In F0 w0 w R) {A : Option Addr} {c : Nat} (hb : Bytes F0 w0 R A c b) (hm : b.length ≤ 100000000) :
    Calls Tryz.prog 39 #[.slice A b.length c] w fun e w' => e = .returned (.tuple #[.agg (encT (withinD b).1), .agg (encH (withinD b).2.1), .int .i64 (withinD b).2.2.2]) ∧ In F0 w0 w' R := by
  have h1 := (h.cells tz 24).cells hz 84
  simp only [World.size_alloc] at h1
  have K0 := o_ptwithin h1 ((hb.more _).more _) hm
  unfold WithinPost at K0
  generalize withinD b = wd at *
  obtain ⟨⟨k0, k1, k2, k3, k4⟩, ⟨a0, a1, a2, a3, a4, a5, a6, a7, a8, a9, a10⟩, rest, why⟩ := wd
  have ee : encH ⟨a0, a1, a2, a3, a4, a5, a6, a7, a8, a9, a10⟩ = (hC a0 a1 a2 a3 a4 a5 a6 a7 a8 a9 a10) := rfl
  simp only [ee] at K0 ⊢
  have K := Lib.hid K0
  clear h h1 hb hm K0 ee
  go_enter Tryz.func39, Tryz.ntmps39
  go_wp2_with fail
  generalize w.heap.size = gt at *
  refine K.out.mono ?_
  rintro e w1 ⟨v, rfl, ho⟩
  obtain ⟨va, vc, rfl⟩ := ByR.shape ho
  clear K
  have ho2 := (ho.cells #[.int .u32 k0, .int .u32 k1, .int .i64 k2, .int .i64 k3, .int .i64 k4] 24).cells (hC a0 a1 a2 a3 a4 a5 a6 a7 a8 a9 a10) 84
  simp only [World.size_alloc] at ho2
  clear ho
  go_upto_region 2 with fail
  generalize w1.heap.size = g5 at *
  generalize ((w1.alloc (.cells #[.int .u32 k0, .int .u32 k1, .int .i64 k2, .int .i64 k3, .int .i64 k4] 24)).alloc (.cells (hC a0 a1 a2 a3 a4 a5 a6 a7 a8 a9 a10) 84)) = V at *
  have hd := ho2.drewN 1
  have h1 := hd.setFull 4 rfl (xs := [.int .u32 k0, .int .u32 k1, .int .i64 k2, .int .i64 k3, .int .i64 k4]) (b := gt) (C := tz) (T := 24) rfl
  have h2 := h1.setFull 3 rfl (xs := [.int .i64 a0, .int .i64 a1, .int .i64 a2, .int .i64 a3, .int .i64 a4, .int .i64 a5, .int .i64 a6, .int .i64 a7, .int .i64 a8, .int .u32 a9, .int .u32 a10]) (b := gt + 1) (C := hz) (T := 84) rfl
  have hS : V.drew.cell? ⟨g5, 0, none⟩ = some (.int .u32 k0) ∧ V.drew.cell? ⟨g5, 1, none⟩ = some (.int .u32 k1) ∧ V.drew.cell? ⟨g5, 2, none⟩ = some (.int .i64 k2) ∧ V.drew.cell? ⟨g5, 3, none⟩ = some (.int .i64 k3) ∧ V.drew.cell? ⟨g5, 4, none⟩ = some (.int .i64 k4) ∧ V.drew.cell? ⟨g5 + 1, 0, none⟩ = some (.int .i64 a0) ∧ V.drew.cell? ⟨g5 + 1, 1, none⟩ = some (.int .i64 a1) ∧ V.drew.cell? ⟨g5 + 1, 2, none⟩ = some (.int .i64 a2) ∧ V.drew.cell? ⟨g5 + 1, 3, none⟩ = some (.int .i64 a3) ∧ V.drew.cell? ⟨g5 + 1, 4, none⟩ = some (.int .i64 a4) ∧ V.drew.cell? ⟨g5 + 1, 5, none⟩ = some (.int .i64 a5) ∧ V.drew.cell? ⟨g5 + 1, 6, none⟩ = some (.int .i64 a6) ∧ V.drew.cell? ⟨g5 + 1, 7, none⟩ = some (.int .i64 a7) ∧ V.drew.cell? ⟨g5 + 1, 8, none⟩ = some (.int .i64 a8) ∧ V.drew.cell? ⟨g5 + 1, 9, none⟩ = some (.int .u32 a9) ∧ V.drew.cell? ⟨g5 + 1, 10, none⟩ = some (.int .u32 a10) ∧ V.drew.there gt 0 5 ∧ V.drew.there (gt + 1) 0 11 := ⟨cell_of (hd.block 1 rfl) rfl, cell_of (hd.block 1 rfl) rfl, cell_of (hd.block 1 rfl) rfl, cell_of (hd.block 1 rfl) rfl, cell_of (hd.block 1 rfl) rfl, cell_of (hd.block 0 rfl) rfl, cell_of (hd.block 0 rfl) rfl, cell_of (hd.block 0 rfl) rfl, cell_of (hd.block 0 rfl) rfl, cell_of (hd.block 0 rfl) rfl, cell_of (hd.block 0 rfl) rfl, cell_of (hd.block 0 rfl) rfl, cell_of (hd.block 0 rfl) rfl, cell_of (hd.block 0 rfl) rfl, cell_of (hd.block 0 rfl) rfl, cell_of (hd.block 0 rfl) rfl, there_of (hd.block 4 rfl), there_of (hd.block 3 rfl)⟩
  have HS1 : Hid ((V.drew.setCells gt 0 [.int .u32 k0, .int .u32 k1, .int .i64 k2, .int .i64 k3, .int .i64 k4]).cell? ⟨g5, 0, none⟩ = some (.int .u32 k0) ∧ (V.drew.setCells gt 0 [.int .u32 k0, .int .u32 k1, .int .i64 k2, .int .i64 k3, .int .i64 k4]).cell? ⟨g5, 1, none⟩ = some (.int .u32 k1) ∧ (V.drew.setCells gt 0 [.int .u32 k0, .int .u32 k1, .int .i64 k2, .int .i64 k3, .int .i64 k4]).cell? ⟨g5, 2, none⟩ = some (.int .i64 k2) ∧ (V.drew.setCells gt 0 [.int .u32 k0, .int .u32 k1, .int .i64 k2, .int .i64 k3, .int .i64 k4]).cell? ⟨g5, 3, none⟩ = some (.int .i64 k3) ∧ (V.drew.setCells gt 0 [.int .u32 k0, .int .u32 k1, .int .i64 k2, .int .i64 k3, .int .i64 k4]).cell? ⟨g5, 4, none⟩ = some (.int .i64 k4) ∧ (V.drew.setCells gt 0 [.int .u32 k0, .int .u32 k1, .int .i64 k2, .int .i64 k3, .int .i64 k4]).cell? ⟨g5 + 1, 0, none⟩ = some (.int .i64 a0) ∧ (V.drew.setCells gt 0 [.int .u32 k0, .int .u32 k1, .int .i64 k2, .int .i64 k3, .int .i64 k4]).cell? ⟨g5 + 1, 1, none⟩ = some (.int .i64 a1) ∧ (V.drew.setCells gt 0 [.int .u32 k0, .int .u32 k1, .int .i64 k2, .int .i64 k3, .int .i64 k4]).cell? ⟨g5 + 1, 2, none⟩ = some (.int .i64 a2) ∧ (V.drew.setCells gt 0 [.int .u32 k0, .int .u32 k1, .int .i64 k2, .int .i64 k3, .int .i64 k4]).cell? ⟨g5 + 1, 3, none⟩ = some (.int .i64 a3) ∧ (V.drew.setCells gt 0 [.int .u32 k0, .int .u32 k1, .int .i64 k2, .int .i64 k3, .int .i64 k4]).cell? ⟨g5 + 1, 4, none⟩ = some (.int .i64 a4) ∧ (V.drew.setCells gt 0 [.int .u32 k0, .int .u32 k1, .int .i64 k2, .int .i64 k3, .int .i64 k4]).cell? ⟨g5 + 1, 5, none⟩ = some (.int .i64 a5) ∧ (V.drew.setCells gt 0 [.int .u32 k0, .int .u32 k1, .int .i64 k2, .int .i64 k3, .int .i64 k4]).cell? ⟨g5 + 1, 6, none⟩ = some (.int .i64 a6) ∧ (V.drew.setCells gt 0 [.int .u32 k0, .int .u32 k1, .int .i64 k2, .int .i64 k3, .int .i64 k4]).cell? ⟨g5 + 1, 7, none⟩ = some (.int .i64 a7) ∧ (V.drew.setCells gt 0 [.int .u32 k0, .int .u32 k1, .int .i64 k2, .int .i64 k3, .int .i64 k4]).cell? ⟨g5 + 1, 8, none⟩ = some (.int .i64 a8) ∧ (V.drew.setCells gt 0 [.int .u32 k0, .int .u32 k1, .int .i64 k2, .int .i64 k3, .int .i64 k4]).cell? ⟨g5 + 1, 9, none⟩ = some (.int .u32 a9) ∧ (V.drew.setCells gt 0 [.int .u32 k0, .int .u32 k1, .int .i64 k2, .int .i64 k3, .int .i64 k4]).cell? ⟨g5 + 1, 10, none⟩ = some (.int .u32 a10) ∧ (V.drew.setCells gt 0 [.int .u32 k0, .int .u32 k1, .int .i64 k2, .int .i64 k3, .int .i64 k4]).there gt 0 5 ∧ (V.drew.setCells gt 0 [.int .u32 k0, .int .u32 k1, .int .i64 k2, .int .i64 k3, .int .i64 k4]).there (gt + 1) 0 11) := Lib.hid ⟨cell_of (h1.block 1 rfl) rfl, cell_of (h1.block 1 rfl) rfl, cell_of (h1.block 1 rfl) rfl, cell_of (h1.block 1 rfl) rfl, cell_of (h1.block 1 rfl) rfl, cell_of (h1.block 0 rfl) rfl, cell_of (h1.block 0 rfl) rfl, cell_of (h1.block 0 rfl) rfl, cell_of (h1.block 0 rfl) rfl, cell_of (h1.block 0 rfl) rfl, cell_of (h1.block 0 rfl) rfl, cell_of (h1.block 0 rfl) rfl, cell_of (h1.block 0 rfl) rfl, cell_of (h1.block 0 rfl) rfl, cell_of (h1.block 0 rfl) rfl, cell_of (h1.block 0 rfl) rfl, there_of (h1.block 4 rfl), there_of (h1.block 3 rfl)⟩
  have HS2 : Hid (((V.drew.setCells gt 0 [.int .u32 k0, .int .u32 k1, .int .i64 k2, .int .i64 k3, .int .i64 k4]).setCells (gt + 1) 0 [.int .i64 a0, .int .i64 a1, .int .i64 a2, .int .i64 a3, .int .i64 a4, .int .i64 a5, .int .i64 a6, .int .i64 a7, .int .i64 a8, .int .u32 a9, .int .u32 a10]).cell? ⟨g5, 0, none⟩ = some (.int .u32 k0) ∧ ((V.drew.setCells gt 0 [.int .u32 k0, .int .u32 k1, .int .i64 k2, .int .i64 k3, .int .i64 k4]).setCells (gt + 1) 0 [.int .i64 a0, .int .i64 a1, .int .i64 a2, .int .i64 a3, .int .i64 a4, .int .i64 a5, .int .i64 a6, .int .i64 a7, .int .i64 a8, .int .u32 a9, .int .u32 a10]).cell? ⟨g5, 1, none⟩ = some (.int .u32 k1) ∧ ((V.drew.setCells gt 0 [.int .u32 k0, .int .u32 k1, .int .i64 k2, .int .i64 k3, .int .i64 k4]).setCells (gt + 1) 0 [.int .i64 a0, .int .i64 a1, .int .i64 a2, .int .i64 a3, .int .i64 a4, .int .i64 a5, .int .i64 a6, .int .i64 a7, .int .i64 a8, .int .u32 a9, .int .u32 a10]).cell? ⟨g5, 2, none⟩ = some (.int .i64 k2) ∧ ((V.drew.setCells gt 0 [.int .u32 k0, .int .u32 k1, .int .i64 k2, .int .i64 k3, .int .i64 k4]).setCells (gt + 1) 0 [.int .i64 a0, .int .i64 a1, .int .i64 a2, .int .i64 a3, .int .i64 a4, .int .i64 a5, .int .i64 a6, .int .i64 a7, .int .i64 a8, .int .u32 a9, .int .u32 a10]).cell? ⟨g5, 3, none⟩ = some (.int .i64 k3) ∧ ((V.drew.setCells gt 0 [.int .u32 k0, .int .u32 k1, .int .i64 k2, .int .i64 k3, .int .i64 k4]).setCells (gt + 1) 0 [.int .i64 a0, .int .i64 a1, .int .i64 a2, .int .i64 a3, .int .i64 a4, .int .i64 a5, .int .i64 a6, .int .i64 a7, .int .i64 a8, .int .u32 a9, .int .u32 a10]).cell? ⟨g5, 4, none⟩ = some (.int .i64 k4) ∧ ((V.drew.setCells gt 0 [.int .u32 k0, .int .u32 k1, .int .i64 k2, .int .i64 k3, .int .i64 k4]).setCells (gt + 1) 0 [.int .i64 a0, .int .i64 a1, .int .i64 a2, .int .i64 a3, .int .i64 a4, .int .i64 a5, .int .i64 a6, .int .i64 a7, .int .i64 a8, .int .u32 a9, .int .u32 a10]).cell? ⟨g5 + 1, 0, none⟩ = some (.int .i64 a0) ∧ ((V.drew.setCells gt 0 [.int .u32 k0, .int .u32 k1, .int .i64 k2, .int .i64 k3, .int .i64 k4]).setCells (gt + 1) 0 [.int .i64 a0, .int .i64 a1, .int .i64 a2, .int .i64 a3, .int .i64 a4, .int .i64 a5, .int .i64 a6, .int .i64 a7, .int .i64 a8, .int .u32 a9, .int .u32 a10]).cell? ⟨g5 + 1, 1, none⟩ = some (.int .i64 a1) ∧ ((V.drew.setCells gt 0 [.int .u32 k0, .int .u32 k1, .int .i64 k2, .int .i64 k3, .int .i64 k4]).setCells (gt + 1) 0 [.int .i64 a0, .int .i64 a1, .int .i64 a2, .int .i64 a3, .int .i64 a4, .int .i64 a5, .int .i64 a6, .int .i64 a7, .int .i64 a8, .int .u32 a9, .int .u32 a10]).cell? ⟨g5 + 1, 2, none⟩ = some (.int .i64 a2) ∧ ((V.drew.setCells gt 0 [.int .u32 k0, .int .u32 k1, .int .i64 k2, .int .i64 k3, .int .i64 k4]).setCells (gt + 1) 0 [.int .i64 a0, .int .i64 a1, .int .i64 a2, .int .i64 a3, .int .i64 a4, .int .i64 a5, .int .i64 a6, .int .i64 a7, .int .i64 a8, .int .u32 a9, .int .u32 a10]).cell? ⟨g5 + 1, 3, none⟩ = some (.int .i64 a3) ∧ ((V.drew.setCells gt 0 [.int .u32 k0, .int .u32 k1, .int .i64 k2, .int .i64 k3, .int .i64 k4]).setCells (gt + 1) 0 [.int .i64 a0, .int .i64 a1, .int .i64 a2, .int .i64 a3, .int .i64 a4, .int .i64 a5, .int .i64 a6, .int .i64 a7, .int .i64 a8, .int .u32 a9, .int .u32 a10]).cell? ⟨g5 + 1, 4, none⟩ = some (.int .i64 a4) ∧ ((V.drew.setCells gt 0 [.int .u32 k0, .int .u32 k1, .int .i64 k2, .int .i64 k3, .int .i64 k4]).setCells (gt + 1) 0 [.int .i64 a0, .int .i64 a1, .int .i64 a2, .int .i64 a3, .int .i64 a4, .int .i64 a5, .int .i64 a6, .int .i64 a7, .int .i64 a8, .int .u32 a9, .int .u32 a10]).cell? ⟨g5 + 1, 5, none⟩ = some (.int .i64 a5) ∧ ((V.drew.setCells gt 0 [.int .u32 k0, .int .u32 k1, .int .i64 k2, .int .i64 k3, .int .i64 k4]).setCells (gt + 1) 0 [.int .i64 a0, .int .i64 a1, .int .i64 a2, .int .i64 a3, .int .i64 a4, .int .i64 a5, .int .i64 a6, .int .i64 a7, .int .i64 a8, .int .u32 a9, .int .u32 a10]).cell? ⟨g5 + 1, 6, none⟩ = some (.int .i64 a6) ∧ ((V.drew.setCells gt 0 [.int .u32 k0, .int .u32 k1, .int .i64 k2, .int .i64 k3, .int .i64 k4]).setCells (gt + 1) 0 [.int .i64 a0, .int .i64 a1, .int .i64 a2, .int .i64 a3, .int .i64 a4, .int .i64 a5, .int .i64 a6, .int .i64 a7, .int .i64 a8, .int .u32 a9, .int .u32 a10]).cell? ⟨g5 + 1, 7, none⟩ = some (.int .i64 a7) ∧ ((V.drew.setCells gt 0 [.int .u32 k0, .int .u32 k1, .int .i64 k2, .int .i64 k3, .int .i64 k4]).setCells (gt + 1) 0 [.int .i64 a0, .int .i64 a1, .int .i64 a2, .int .i64 a3, .int .i64 a4, .int .i64 a5, .int .i64 a6, .int .i64 a7, .int .i64 a8, .int .u32 a9, .int .u32 a10]).cell? ⟨g5 + 1, 8, none⟩ = some (.int .i64 a8) ∧ ((V.drew.setCells gt 0 [.int .u32 k0, .int .u32 k1, .int .i64 k2, .int .i64 k3, .int .i64 k4]).setCells (gt + 1) 0 [.int .i64 a0, .int .i64 a1, .int .i64 a2, .int .i64 a3, .int .i64 a4, .int .i64 a5, .int .i64 a6, .int .i64 a7, .int .i64 a8, .int .u32 a9, .int .u32 a10]).cell? ⟨g5 + 1, 9, none⟩ = some (.int .u32 a9) ∧ ((V.drew.setCells gt 0 [.int .u32 k0, .int .u32 k1, .int .i64 k2, .int .i64 k3, .int .i64 k4]).setCells (gt + 1) 0 [.int .i64 a0, .int .i64 a1, .int .i64 a2, .int .i64 a3, .int .i64 a4, .int .i64 a5, .int .i64 a6, .int .i64 a7, .int .i64 a8, .int .u32 a9, .int .u32 a10]).cell? ⟨g5 + 1, 10, none⟩ = some (.int .u32 a10) ∧ ((V.drew.setCells gt 0 [.int .u32 k0, .int .u32 k1, .int .i64 k2, .int .i64 k3, .int .i64 k4]).setCells (gt + 1) 0 [.int .i64 a0, .int .i64 a1, .int .i64 a2, .int .i64 a3, .int .i64 a4, .int .i64 a5, .int .i64 a6, .int .i64 a7, .int .i64 a8, .int .u32 a9, .int .u32 a10]).there gt 0 5 ∧ ((V.drew.setCells gt 0 [.int .u32 k0, .int .u32 k1, .int .i64 k2, .int .i64 k3, .int .i64 k4]).setCells (gt + 1) 0 [.int .i64 a0, .int .i64 a1, .int .i64 a2, .int .i64 a3, .int .i64 a4, .int .i64 a5, .int .i64 a6, .int .i64 a7, .int .i64 a8, .int .u32 a9, .int .u32 a10]).there (gt + 1) 0 11) := Lib.hid ⟨cell_of (h2.block 1 rfl) rfl, cell_of (h2.block 1 rfl) rfl, cell_of (h2.block 1 rfl) rfl, cell_of (h2.block 1 rfl) rfl, cell_of (h2.block 1 rfl) rfl, cell_of (h2.block 0 rfl) rfl, cell_of (h2.block 0 rfl) rfl, cell_of (h2.block 0 rfl) rfl, cell_of (h2.block 0 rfl) rfl, cell_of (h2.block 0 rfl) rfl, cell_of (h2.block 0 rfl) rfl, cell_of (h2.block 0 rfl) rfl, cell_of (h2.block 0 rfl) rfl, cell_of (h2.block 0 rfl) rfl, cell_of (h2.block 0 rfl) rfl, cell_of (h2.block 0 rfl) rfl, there_of (h2.block 4 rfl), there_of (h2.block 3 rfl)⟩
  have GF := Lib.hid h2
  clear hd h1 h2 ho2
  refine e_start (fun w' => w'.cell? ⟨g5, 0, none⟩ = some (.int .u32 k0) ∧ w'.cell? ⟨g5, 1, none⟩ = some (.int .u32 k1) ∧ w'.cell? ⟨g5, 2, none⟩ = some (.int .i64 k2) ∧ w'.cell? ⟨g5, 3, none⟩ = some (.int .i64 k3) ∧ w'.cell? ⟨g5, 4, none⟩ = some (.int .i64 k4) ∧ w'.cell? ⟨g5 + 1, 0, none⟩ = some (.int .i64 a0) ∧ w'.cell? ⟨g5 + 1, 1, none⟩ = some (.int .i64 a1) ∧ w'.cell? ⟨g5 + 1, 2, none⟩ = some (.int .i64 a2) ∧ w'.cell? ⟨g5 + 1, 3, none⟩ = some (.int .i64 a3) ∧ w'.cell? ⟨g5 + 1, 4, none⟩ = some (.int .i64 a4) ∧ w'.cell? ⟨g5 + 1, 5, none⟩ = some (.int .i64 a5) ∧ w'.cell? ⟨g5 + 1, 6, none⟩ = some (.int .i64 a6) ∧ w'.cell? ⟨g5 + 1, 7, none⟩ = some (.int .i64 a7) ∧ w'.cell? ⟨g5 + 1, 8, none⟩ = some (.int .i64 a8) ∧ w'.cell? ⟨g5 + 1, 9, none⟩ = some (.int .u32 a9) ∧ w'.cell? ⟨g5 + 1, 10, none⟩ = some (.int .u32 a10) ∧ w'.there gt 0 5 ∧ w'.there (gt + 1) 0 11) (by kernel_rfl) hS (fun hS => ?_)
  refine e_take (i := 0) (v := ?_) rfl (by kernel_rfl) (fun _ _ _ h => h) (by rfl) ?_ hS ?_
  rotate_left
  · (intro w hSw; (try dsimp only at hSw); go_simp; try with_reducible rfl)
  try simp only [Act.put, List.setIfInBounds_toArray, List.set_cons_zero, List.set_cons_succ]
  refine e_take (i := 1) (v := ?_) rfl (by kernel_rfl) (fun _ _ _ h => h) (by rfl) ?_ hS ?_
  rotate_left
  · (intro w hSw; (try dsimp only at hSw); go_simp; try with_reducible rfl)
  try simp only [Act.put, List.setIfInBounds_toArray, List.set_cons_zero, List.set_cons_succ]
  refine e_take (i := 2) (v := ?_) rfl (by kernel_rfl) (fun _ _ _ h => h) (by rfl) ?_ hS ?_
  rotate_left
  · (intro w hSw; (try dsimp only at hSw); go_simp; try with_reducible rfl)
  try simp only [Act.put, List.setIfInBounds_toArray, List.set_cons_zero, List.set_cons_succ]
  refine e_pin (i := 3) rfl (by kernel_rfl) (fun K' hK => ?_)
  refine store_step (by rfl) 24 (.tmp 2) (.tmp 16) (by rfl) gt 0 #[.int .u32 k0, .int .u32 k1, .int .i64 k2, .int .i64 k3, .int .i64 k4] (by rfl) (by rfl) hS.2.2.2.2.2.2.2.2.2.2.2.2.2.2.2.2.1 (by kernel_rfl) (tz_all _ _ _ _ _) ?_
  clear hS
  refine hK.out _ _ HS1.out (fun hS => ?_)
  clear hK K' HS1
  try simp only [Act.put, List.setIfInBounds_toArray, List.set_cons_zero, List.set_cons_succ]
  refine e_pin (i := 4) rfl (by kernel_rfl) (fun K' hK => ?_)
  refine store_step (by rfl) 84 (.tmp 3) (.tmp 17) (by rfl) (gt + 1) 0 (hC a0 a1 a2 a3 a4 a5 a6 a7 a8 a9 a10) (by rfl) (by rfl) hS.2.2.2.2.2.2.2.2.2.2.2.2.2.2.2.2.2 (by kernel_rfl) (hC_all _ _ _ _ _ _ _ _ _ _ _) ?_
  clear hS
  refine hK.out _ _ HS2.out (fun hS => ?_)
  clear hK K' HS2
  try simp only [Act.put, List.setIfInBounds_toArray, List.set_cons_zero, List.set_cons_succ]
  refine e_last (i := 5) rfl (by kernel_rfl) (fun K' hK => ?_)
  go_simp
  refine hK.out _ _ ?_
  clear hK K' hS
  go_wp2_with fail
  exact bodyPost_ret (results_cell2_tmp_row Tryz.results39 _ _ gt (gt + 1) 24 84 _ _ (0, 0) (0, 0) _ _ rfl (GF.out.block 4 rfl) rfl (GF.out.block 3 rfl) Tryz.underlying24 rfl (by kernel_rfl) Tryz.underlying84 rfl (by kernel_rfl)) rfl ⟨rfl, (GF.out.sel2 (R1 := [_, _, _, _, _]) (R2 := R) [] (by decide) rfl)⟩
theorem within_tcp {k : Tup} {h : Hd} {rest : List UInt8} (e : withinD b = (k, h, rest, 0)) (hk : k.proto = 6) : 20 ≤ rest.length := by
  unfold withinD withinOf at e
  split at e
  repeat' split at e
  all_goals first
    | (simp only [Prod.mk.injEq] at e; omega)
    | (simp only [Prod.mk.injEq] at e
       obtain ⟨e1, e2, e3, e4⟩ := e
       subst e3
       rename_i ht
       first
         | (unfold tcpOk at ht; simp at ht; omega)
         | (exfalso; rw [← e1] at hk; simp only at hk; omega))
theorem bits_and_u8 (a m : Nat) (ha : a < 256) (hm : m < 256) : bits .and .u8 (a : Int) (m : Int) = ((a &&& m : Nat) : Int) := by
  have hx : a &&& m < 2 ^ 8 := Nat.and_lt_two_pow _ (by omega)
  have h1 : (BitVec.ofInt 8 (a : Int)).toNat = a := by
    rw [BitVec.ofInt_natCast, BitVec.toNat_ofNat]; exact Nat.mod_eq_of_lt (by omega)
  have h2 : (BitVec.ofInt 8 (m : Int)).toNat = m := by
    rw [BitVec.ofInt_natCast, BitVec.toNat_ofNat]; exact Nat.mod_eq_of_lt (by omega)
  show IntKind.u8.wrap ((BitVec.ofInt 8 (a : Int) &&& BitVec.ofInt 8 (m : Int)).toNat : Int) = _
  rw [BitVec.toNat_and, h1, h2]
  rw [show ∀ n, IntKind.u8.wrap n = n % 256 from fun n => by simp [IntKind.wrap, IntKind.bits, IntKind.signed]]
  omega
theorem o_ptends (h : In F0 w0 w R) (t : Tup) {A : Option Addr} {c : Nat} (hb : Bytes F0 w0 R A c b) (hm : b.length ≤ 100000000) :
    Calls Tryz.prog 44 #[.agg (encT t), .slice A b.length c] w fun e w' => e = .returned (.bool (endsD t b)) ∧ In F0 w0 w' R := by
  have h1 := h.cells (encT t) 24
  have K0 := o_ptwithin h1 (hb.more _) hm
  have hT := fun k h rest => within_tcp (b := b) (k := k) (h := h) (rest := rest)
  have HE : endsD t b = endsOf t (withinD b) := rfl
  unfold WithinPost at K0
  generalize withinD b = wd at *
  obtain ⟨k, ⟨a0, a1, a2, a3, a4, a5, a6, a7, a8, a9, a10⟩, rest, why⟩ := wd
  have HT := fun (hw : why = 0) (hk : k.proto = 6) => hT k ⟨a0, a1, a2, a3, a4, a5, a6, a7, a8, a9, a10⟩ rest (by rw [hw]) hk
  clear hT
  have ee : encH ⟨a0, a1, a2, a3, a4, a5, a6, a7, a8, a9, a10⟩ = (hC a0 a1 a2 a3 a4 a5 a6 a7 a8 a9 a10) := rfl
  simp only [ee] at K0
  have K := Lib.hid K0
  have HTE := Lib.hid (tup_eq k t)
  have HE2 : Hid (endsD t b = (decide (why = 0) && (decide (k = t) && (decide (k.proto = 6) && decide (byN rest 13 &&& 5 ≠ 0))))) := Lib.hid HE
  obtain ⟨k0, k1, k2, k3, k4⟩ := k
  obtain ⟨t0, t1, t2, t3, t4⟩ := t
  clear h h1 hb hm K0 ee HE
  go_enter Tryz.func44, Tryz.ntmps44
  go_wp2_with fail
  generalize w.heap.size = gt at *
  refine K.out.mono ?_
  rintro e w1 ⟨v, rfl, ho⟩
  obtain ⟨va, vc, rfl⟩ := ByR.shape ho
  clear K
  have ho2 := (ho.cells #[.int .u32 k0, .int .u32 k1, .int .i64 k2, .int .i64 k3, .int .i64 k4] 24).cells (hC a0 a1 a2 a3 a4 a5 a6 a7 a8 a9 a10) 84
  simp only [World.size_alloc] at ho2
  clear ho
  go_upto_region 2 with fail
  generalize w1.heap.size = g5 at *
  generalize ((w1.alloc (.cells #[.int .u32 k0, .int .u32 k1, .int .i64 k2, .int .i64 k3, .int .i64 k4] 24)).alloc (.cells (hC a0 a1 a2 a3 a4 a5 a6 a7 a8 a9 a10) 84)) = V at *
  have i0 : V.cell? ⟨g5, 0, none⟩ = some (.int .u32 k0) := cell_of (ho2.block 1 rfl) rfl
  have i1 : V.cell? ⟨g5, 1, none⟩ = some (.int .u32 k1) := cell_of (ho2.block 1 rfl) rfl
  have i2 : V.cell? ⟨g5, 2, none⟩ = some (.int .i64 k2) := cell_of (ho2.block 1 rfl) rfl
  have i3 : V.cell? ⟨g5, 3, none⟩ = some (.int .i64 k3) := cell_of (ho2.block 1 rfl) rfl
  have i4 : V.cell? ⟨g5, 4, none⟩ = some (.int .i64 k4) := cell_of (ho2.block 1 rfl) rfl
  have j0 : V.cell? ⟨gt, 0, none⟩ = some (.int .u32 t0) := cell_of (ho2.block 3 rfl) rfl
  have j1 : V.cell? ⟨gt, 1, none⟩ = some (.int .u32 t1) := cell_of (ho2.block 3 rfl) rfl
  have j2 : V.cell? ⟨gt, 2, none⟩ = some (.int .i64 t2) := cell_of (ho2.block 3 rfl) rfl
  have j3 : V.cell? ⟨gt, 3, none⟩ = some (.int .i64 t3) := cell_of (ho2.block 3 rfl) rfl
  have j4 : V.cell? ⟨gt, 4, none⟩ = some (.int .i64 t4) := cell_of (ho2.block 3 rfl) rfl
  have hbb := ByR.bytes 2 rfl ho2
  have HB : Hid (∀ (n : Nat), n < rest.length → ∃ g o, va = some ⟨g, o, none⟩ ∧ V.cell? ⟨g, o + n, none⟩ = some (.int .u8 (byN rest n))) := Lib.hid (fun n hn => by
    obtain ⟨g, o, e, hc⟩ := (hbb.src V ho2).plain (by omega) (by decide)
    exact ⟨g, o, e, hc n _ (u8s_get hn)⟩)
  have G := Lib.hid (ho2.sel2 (R1 := [_, _, _, _]) (R2 := R) [] (by decide) rfl)
  clear ho2 hbb
  by_cases hw : why = 0
  case neg =>
    have q := Lib.hid (show endsD ⟨t0, t1, t2, t3, t4⟩ b = false by rw [HE2.out, decide_eq_false hw]; rfl)
    have qw : (why == 0) = false := beq_eq_false_iff_ne.2 hw
    clear HT HTE HE2 HB hw
    go_wp2_with fail
    go_ret
    exact ⟨by rw [q.out]; rfl, G.out⟩
  have qw : (why == 0) = true := by rw [hw]; rfl
  have HT2 := HT hw
  by_cases hk : (⟨k0, k1, k2, k3, k4⟩ : Tup) = ⟨t0, t1, t2, t3, t4⟩
  case neg =>
    have q := Lib.hid (show endsD ⟨t0, t1, t2, t3, t4⟩ b = false by rw [HE2.out, decide_eq_false hk, Bool.false_and, Bool.and_false])
    have hte := HTE.out
    rw [decide_eq_false hk] at hte
    clear HT HTE HE2 HB hw HT2 hk
    go_wp2_with fail
    go_ret
    exact ⟨by rw [q.out]; rfl, G.out⟩
  have hte := HTE.out
  rw [decide_eq_true hk] at hte
  by_cases h6 : k2 = 6
  case neg =>
    have q := Lib.hid (show endsD ⟨t0, t1, t2, t3, t4⟩ b = false by rw [HE2.out, decide_eq_false h6, Bool.false_and, Bool.and_false, Bool.and_false])
    have q6 : (k2 == 6) = false := beq_eq_false_iff_ne.2 h6
    clear HT HTE HE2 HB hw HT2 hk h6
    go_wp2_with fail
    go_ret
    exact ⟨by rw [q.out]; rfl, G.out⟩
  have q6 : (k2 == 6) = true := by rw [h6]; rfl
  have hl := HT2 h6
  have HX : Hid (endsD ⟨t0, t1, t2, t3, t4⟩ b = decide (byN rest 13 &&& 5 ≠ 0)) := Lib.hid (by rw [HE2.out, decide_eq_true hw, decide_eq_true hk, decide_eq_true h6]; rfl)
  obtain ⟨g, o, rfl, hc13⟩ := HB.out 13 (by omega)
  have hl13 := byN_lt rest 13
  have qb : bits .and .u8 ((byN rest 13 : Nat) : Int) 5 = ((byN rest 13 &&& 5 : Nat) : Int) := bits_and_u8 _ 5 hl13 (by omega)
  have hix : (13 : Int) < (rest.length : Int) := by omega
  clear HT HTE HE2 HB hw HT2 hk h6 hl
  generalize byN rest 13 = y at *
  generalize y &&& 5 = z at *
  by_cases hz0 : z = 0
  · have q := Lib.hid (show endsD ⟨t0, t1, t2, t3, t4⟩ b = false by rw [HX.out, decide_eq_false (by omega)])
    have qz : ((z : Int) != 0) = false := by rw [hz0]; rfl
    clear HX hz0
    go_wp2_with fail
    go_ret
    exact ⟨by rw [q.out]; rfl, G.out⟩
  · have q := Lib.hid (show endsD ⟨t0, t1, t2, t3, t4⟩ b = true by rw [HX.out, decide_eq_true (by omega)])
    have qz : ((z : Int) != 0) = true := by rw [bne_iff_ne]; omega
    clear HX hz0
    go_wp2_with fail
    go_ret
    exact ⟨by rw [q.out]; rfl, G.out⟩
end
end Go.Proofs.YtgapbecddgfkmaaGreat
