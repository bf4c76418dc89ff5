/- What is proved here: contracts of the program's functions, and plain laws, on which the proof of StoreSure rests; without conditions. -/
import Derived.Test.YtogclkhpbjfadaaGreatSP25
import Derived.Test.YtogclkhpbjfadaaGreatSP26
import Derived.Test.YtogclkhpbjfadaaGreatSP19
namespace Go.Proofs.YtogclkhpbjfadaaGreat
open Go.RowKit Go.Shelf
open Go.Maps (Keyed)
set_option linter.unusedVariables false
set_option maxRecDepth 100000
section
variable {F0 : List Nat} {w0 w : World} {R : List Asrt}
theorem st4_all (g : Int) (A : Option Addr) (n c : Nat) : (#[.int .i64 g, .slice A n c, .slice none 0 0, .slice none 0 0] : Array Value).all (·.oneCell') = true := by simp [Value.oneCell']
theorem st4_all2 (g : Int) (A B C : Option Addr) (n c m d k e : Nat) : (#[.int .i64 g, .slice A n c, .slice B m d, .slice C k e] : Array Value).all (·.oneCell') = true := by simp [Value.oneCell']
theorem sd_get1 {dm : Nat} {M : List (Int × Int)} (h : In F0 w0 w R) (i : Nat) (hA : R[i]? = some (SDM dm M)) (hs : SrtD M) {x : Int × Int} (hx : x ∈ M) (hb : (Lit.int .i64 x.1).wf = true) : (Instr.lookup 154 (.map (some dm)) (.int .i64 x.1) false).run Tryz.prog w = .ok (.int .i64 x.2) w := by
  rcases tab_look h i hA intLawS Tryz.underlying154 (z := .int .i64 0) (by kernel_rfl) (Maps.keyOf_int_mk Tryz.underlying3 hb) false with ⟨y, hy, e, hr⟩ | ⟨hn, hr⟩
  · have : y = x := ek_inj (nodup_sdK hs) hy hx e
    rw [this] at hr; exact hr
  · exact absurd rfl (hn x hx)
def ViewRl (s : StD) (sb tb dm fm b2 : Nat) (a : Option Addr) (c' : Nat) (pa : Option Addr) (pc : Nat) (ka : Option Addr) (kc : Nat) (F0 : List Nat) (w0 : World) (R : List Asrt) (i : Value) (wr : World) : Prop :=
  ∃ (k : Nat) (va : Option Addr) (vc : Nat), k ≤ s.drs.length ∧ i = .int .i64 k ∧ In F0 w0 wr (RowA 166 2 (.slice va k vc) k (((s.drs.take k).map encDr).flatten) :: RowA 3 1 (.slice ka s.drs.length kc) s.drs.length ((s.drs.map (·.1)).map encZ) :: Cells tb #[.int .i64 s.gen, .slice pa s.bks.length pc, .slice va k vc, .slice none 0 0] 62 :: BkR (.slice pa s.bks.length pc) s.bks :: Cells b2 #[.int .i64 0, .slice none 0 0, .slice none 0 0, .slice none 0 0] 62 :: Cells sb (stC s (.slice a s.bks.length c') dm fm) 157 :: BkR (.slice a s.bks.length c') s.bks :: SDM dm s.drs :: SFM fm s.fls :: R)
def ViewCut (s : StD) (sb dm fm b2 : Nat) (a : Option Addr) (c' : Nat) (F0 : List Nat) (w0 : World) (R : List Asrt) (x3 : Value) (wx : World) : Prop :=
  ∃ tb A ac, x3 = .pointer (some ⟨tb, 0, none⟩) ∧ In F0 w0 wx (Cells tb #[.int .i64 s.gen, .slice A s.bks.length ac, .slice none 0 0, .slice none 0 0] 62 :: BkR (.slice A s.bks.length ac) s.bks :: Cells b2 #[.int .i64 0, .slice none 0 0, .slice none 0 0, .slice none 0 0] 62 :: Cells sb (stC s (.slice a s.bks.length c') dm fm) 157 :: BkR (.slice a s.bks.length c') s.bks :: SDM dm s.drs :: SFM fm s.fls :: R)
set_option maxHeartbeats 32000000 in
theorem o_stview {sb : Nat} {s : StD} (h : In F0 w0 w (StA sb s :: R)) : Calls Tryz.prog 34 #[pR sb] w fun e w' => ∃ A a D d F f, e = .returned (agSt s A a D d F f) ∧ In F0 w0 w' (BkR (.slice A s.bks.length a) s.bks :: DrR (.slice D s.drs.length d) s.drs :: RowA 67 8 (.slice F s.fls.length f) s.fls.length ((s.fls.map encFs).flatten) :: StA sb s :: R) := by
  obtain ⟨hok, dm, fm, a, c', g0⟩ := h.stOpen
  have hlen := (gensMay_len hok.bks).1
  have g1 := g0.cells #[.int .i64 0, .slice none 0 0, .slice none 0 0, .slice none 0 0] 62
  have g2 := g1.cells #[.int .i64 0, .slice none 0 0, .slice none 0 0, .slice none 0 0] 62
  simp only [World.size_alloc] at g2
  obtain ⟨Fv, rv⟩ := (g1.drewN 1).get 2 rfl
  obtain ⟨Fy, ry⟩ := (g2.drewN 1).get 3 rfl
  have K1 : Hid (Calls Tryz.prog 103 #[.slice a s.bks.length c'] (w.alloc (.cells #[.int .i64 0, .slice none 0 0, .slice none 0 0, .slice none 0 0] 62)).drew fun e w' => ∃ v, e = .returned v ∧ In F0 w0 w' (BkR v s.bks :: Cells w.heap.size #[.int .i64 0, .slice none 0 0, .slice none 0 0, .slice none 0 0] 62 :: Cells sb (stC s (.slice a s.bks.length c') dm fm) 157 :: BkR (.slice a s.bks.length c') s.bks :: SDM dm s.drs :: SFM fm s.fls :: R)) := Lib.hid (o_bkclone (g1.drewN 1) (fun e => RowA.noc rv e) rv.all (Nat.le_trans hlen (by decide)))
  have K2 : Hid (Calls Tryz.prog 103 #[.slice a s.bks.length c'] ((w.alloc (.cells #[.int .i64 0, .slice none 0 0, .slice none 0 0, .slice none 0 0] 62)).alloc (.cells #[.int .i64 0, .slice none 0 0, .slice none 0 0, .slice none 0 0] 62)).drew fun e w' => ∃ v, e = .returned v ∧ In F0 w0 w' (BkR v s.bks :: Cells (w.heap.size + 1) #[.int .i64 0, .slice none 0 0, .slice none 0 0, .slice none 0 0] 62 :: Cells w.heap.size #[.int .i64 0, .slice none 0 0, .slice none 0 0, .slice none 0 0] 62 :: Cells sb (stC s (.slice a s.bks.length c') dm fm) 157 :: BkR (.slice a s.bks.length c') s.bks :: SDM dm s.drs :: SFM fm s.fls :: R)) := Lib.hid (o_bkclone (g2.drewN 1) (fun e => RowA.noc ry e) ry.all (Nat.le_trans hlen (by decide)))
  have HY0 : Hid ((w.alloc (.cells #[.int .i64 0, .slice none 0 0, .slice none 0 0, .slice none 0 0] 62)).cell? ⟨sb, 0, none⟩ = some (.int .i64 s.gen) ∧ (w.alloc (.cells #[.int .i64 0, .slice none 0 0, .slice none 0 0, .slice none 0 0] 62)).cell? ⟨sb, 1, none⟩ = some (.slice a s.bks.length c')) := Lib.hid ⟨cell_of (g1.block 1 rfl) rfl, cell_of (g1.block 1 rfl) rfl⟩
  have HY1 : Hid (((w.alloc (.cells #[.int .i64 0, .slice none 0 0, .slice none 0 0, .slice none 0 0] 62)).alloc (.cells #[.int .i64 0, .slice none 0 0, .slice none 0 0, .slice none 0 0] 62)).cell? ⟨sb, 0, none⟩ = some (.int .i64 s.gen) ∧ ((w.alloc (.cells #[.int .i64 0, .slice none 0 0, .slice none 0 0, .slice none 0 0] 62)).alloc (.cells #[.int .i64 0, .slice none 0 0, .slice none 0 0, .slice none 0 0] 62)).cell? ⟨sb, 1, none⟩ = some (.slice a s.bks.length c')) := Lib.hid ⟨cell_of (g2.block 2 rfl) rfl, cell_of (g2.block 2 rfl) rfl⟩
  have HOK := Lib.hid hok
  clear h hok g0 g1 g2 rv ry hlen
  go_enter Tryz.func34, Tryz.ntmps34
  go_upto_region 3 with fail
  go_cut [3] (ViewCut s sb dm fm w.heap.size a c' F0 w0 R)
  case first =>
    refine e_start (fun w' => w'.cell? ⟨sb, 0, none⟩ = some (.int .i64 s.gen) ∧ w'.cell? ⟨sb, 1, none⟩ = some (.slice a s.bks.length c')) (by kernel_rfl) HY0.out (fun hS => ?_)
    refine e_take (i := 0) (v := ?_) rfl (by kernel_rfl) (fun _ _ _ h => h) (by rfl) ?_ hS ?_
    rotate_left
    · (intro w hSw; (try dsimp only at hSw); go_simp; try with_reducible rfl)
    try simp only [Act.put, List.setIfInBounds_toArray, List.set_cons_zero, List.set_cons_succ]
    refine e_take (i := 1) (v := ?_) rfl (by kernel_rfl) (fun _ _ _ h => h) (by rfl) ?_ hS ?_
    rotate_left
    · (intro w hSw; (try dsimp only at hSw); go_simp; try with_reducible rfl)
    try simp only [Act.put, List.setIfInBounds_toArray, List.set_cons_zero, List.set_cons_succ]
    refine e_take (i := 2) (v := ?_) rfl (by kernel_rfl) (fun _ _ _ h => h) (by rfl) ?_ hS ?_
    rotate_left
    · (intro w hSw; (try dsimp only at hSw); go_simp; try with_reducible rfl)
    try simp only [Act.put, List.setIfInBounds_toArray, List.set_cons_zero, List.set_cons_succ]
    refine e_take (i := 3) (v := ?_) rfl (by kernel_rfl) (fun _ _ _ h => h) (by rfl) ?_ hS ?_
    rotate_left
    · (intro w hSw; (try dsimp only at hSw); go_simp; try with_reducible rfl)
    try simp only [Act.put, List.setIfInBounds_toArray, List.set_cons_zero, List.set_cons_succ]
    refine e_take (i := 4) (v := ?_) rfl (by kernel_rfl) (fun _ _ _ h => h) (by rfl) ?_ hS ?_
    rotate_left
    · (intro w hSw; (try dsimp only at hSw); go_simp; try with_reducible rfl)
    try simp only [Act.put, List.setIfInBounds_toArray, List.set_cons_zero, List.set_cons_succ]
    refine e_take (i := 5) (v := ?_) rfl (by kernel_rfl) (fun _ _ _ h => h) (by rfl) ?_ hS ?_
    rotate_left
    · (intro w hSw; (try dsimp only at hSw); go_simp; try with_reducible rfl)
    try simp only [Act.put, List.setIfInBounds_toArray, List.set_cons_zero, List.set_cons_succ]
    refine e_take (i := 6) (v := ?_) rfl (by kernel_rfl) (fun _ _ _ h => h) (by rfl) ?_ hS ?_
    rotate_left
    · (intro w hSw; (try dsimp only at hSw); go_simp; try with_reducible rfl)
    try simp only [Act.put, List.setIfInBounds_toArray, List.set_cons_zero, List.set_cons_succ]
    refine e_take (i := 7) (v := ?_) rfl (by kernel_rfl) (fun _ _ _ h => h) (by rfl) ?_ hS ?_
    rotate_left
    · (intro w hSw; (try dsimp only at hSw); go_simp; try with_reducible rfl)
    try simp only [Act.put, List.setIfInBounds_toArray, List.set_cons_zero, List.set_cons_succ]
    refine e_two (i := 8) (j := 10) rfl rfl (by kernel_rfl) (fun K' hK => ?_) (fun K' hK => ?_)
    · go_simp
      go_at_call 103
      refine K1.out.mono ?_
      rintro e w2 ⟨v, rfl, g3⟩
      obtain ⟨Fz, rz⟩ := g3.get 0 rfl
      obtain ⟨pa, pc, rfl, -, -, -⟩ := RowA.shape rz
      have hz : w2.cell? ⟨sb, 0, none⟩ = some (.int .i64 s.gen) ∧ w2.cell? ⟨sb, 1, none⟩ = some (.slice a s.bks.length c') := ⟨cell_of (g3.block 2 rfl) rfl, cell_of (g3.block 2 rfl) rfl⟩
      have G3 := Lib.hid g3
      clear g3 hS rz
      refine hK.out _ _ hz (fun hS => ?_)
      clear hK K'
      try simp only [Act.put, List.setIfInBounds_toArray, List.set_cons_zero, List.set_cons_succ]
      refine e_take (i := 9) (v := ?_) rfl (by kernel_rfl) (fun _ _ _ h => h) (by rfl) ?_ hS ?_
      rotate_left
      · (intro w hSw; (try dsimp only at hSw); go_simp; try with_reducible rfl)
      try simp only [Act.put, List.setIfInBounds_toArray, List.set_cons_zero, List.set_cons_succ]
      have G8 := Lib.hid (G3.out.cells #[.int .i64 s.gen, .slice pa s.bks.length pc, .slice none 0 0, .slice none 0 0] 62)
      refine e_pin (i := 10) rfl (by kernel_rfl) (fun K' hK => ?_)
      go_simp
      refine hK.out _ _ (by have h9 := (G3.out.cells #[.int .i64 0, .slice none 0 0, .slice none 0 0, .slice none 0 0] 62); exact ⟨cell_of (h9.block 3 rfl) rfl, cell_of (h9.block 3 rfl) rfl⟩) (fun hS => ?_)
      clear hK K'
      try simp only [Act.put, List.setIfInBounds_toArray, List.set_cons_zero, List.set_cons_succ]
      refine e_last (i := 11) rfl (by kernel_rfl) (fun K' hK => ?_)
      go_simp
      refine hK.out _ _ ?_
      clear hK K'
      go_wp2_with fail
      go_meet
      exact ⟨_, _, _, rfl, G8.out⟩
    · go_simp
      clear hS
      refine hK.out _ _ HY1.out (fun hS => ?_)
      clear hK K'
      try simp only [Act.put, List.setIfInBounds_toArray, List.set_cons_zero, List.set_cons_succ]
      refine e_pin (i := 8) rfl (by kernel_rfl) (fun K' hK => ?_)
      go_simp
      go_at_call 103
      refine K2.out.mono ?_
      rintro e w2 ⟨v, rfl, g3⟩
      obtain ⟨Fz, rz⟩ := g3.get 0 rfl
      obtain ⟨pa, pc, rfl, -, -, -⟩ := RowA.shape rz
      have hz : w2.cell? ⟨sb, 0, none⟩ = some (.int .i64 s.gen) ∧ w2.cell? ⟨sb, 1, none⟩ = some (.slice a s.bks.length c') := ⟨cell_of (g3.block 3 rfl) rfl, cell_of (g3.block 3 rfl) rfl⟩
      have ht := there_of (g3.block 1 rfl)
      have g8 := g3.setFull 1 rfl (xs := [.int .i64 s.gen, .slice pa s.bks.length pc, .slice none 0 0, .slice none 0 0]) (b := w.heap.size + 1) (C := #[.int .i64 0, .slice none 0 0, .slice none 0 0, .slice none 0 0]) (T := 62) rfl
      have G8 := Lib.hid g8
      clear g3 g8 hS rz
      refine hK.out _ _ hz (fun hS => ?_)
      clear hK K'
      try simp only [Act.put, List.setIfInBounds_toArray, List.set_cons_zero, List.set_cons_succ]
      refine e_take (i := 9) (v := ?_) rfl (by kernel_rfl) (fun _ _ _ h => h) (by rfl) ?_ hS ?_
      rotate_left
      · (intro w hSw; (try dsimp only at hSw); go_simp; try with_reducible rfl)
      try simp only [Act.put, List.setIfInBounds_toArray, List.set_cons_zero, List.set_cons_succ]
      refine e_last (i := 11) rfl (by kernel_rfl) (fun K' hK => ?_)
      rw [if_pos (by rfl)]
      refine wp_store_mid 62 (.tmp 3) (.tmp 18) rfl (w.heap.size + 1) 0 #[.int .i64 s.gen, .slice pa s.bks.length pc, .slice none 0 0, .slice none 0 0] (by rfl) (by rfl) ht (by kernel_rfl) (st4_all _ _ _ _) ?_
      refine hK.out _ _ ?_
      clear hK K'
      go_wp2_with fail
      go_meet
      exact ⟨_, _, _, rfl, G8.out.sel2 (R1 := [_, _, _]) [1, 0, 2] (by decide) rfl⟩
  case rest =>
    obtain ⟨tb, pa, pc, rfl, hio⟩ := hcut
    have HD : Hid (s.drs.length ≤ 16 ∧ SrtD s.drs ∧ ∀ x ∈ s.drs, (Lit.int .i64 x.1).wf = true) := Lib.hid ⟨HOK.out.dlen, HOK.out.dsort, fun x hx => by have := (HOK.out.dmay x hx).1; exact wf_i64 (by omega) (by omega)⟩
    have KS := Lib.hid (o_keysS hio 5 rfl HOK.out.dsort (Nat.le_trans HOK.out.dlen (by decide)))
    have c2 : wc.cell? ⟨sb, 2, none⟩ = some (.map (some dm)) := cell_of (hio.block 3 rfl) rfl
    clear hio K1 K2 HY0 HY1
    go_wp2_with fail
    refine (keysS_call _ _).mono ?_
    rintro e w1 ⟨rfl, rfl⟩
    go_wp2_with fail
    refine KS.out.mono ?_
    rintro e w2 ⟨ka, kc, rfl, g5⟩
    have HR : Hid (ViewRl s sb tb dm fm w.heap.size a c' pa pc ka kc F0 w0 R (.int .i64 0) w2) := Lib.hid ⟨0, none, 0, Nat.zero_le _, rfl, (g5.rownil 166 2)⟩
    clear g5 KS c2
    go_wp2_with fail
    go_loopw [26] (ViewRl s sb tb dm fm w.heap.size a c' pa pc ka kc F0 w0 R) (fun k _ => s.drs.length - (intOf k).toNat)
    case atStart => exact HR.out
    case round =>
      obtain ⟨k, va, vc, hk, rfl, hio⟩ := hrel
      clear HR
      by_cases hlt : k < s.drs.length
      · obtain ⟨x, hx⟩ : ∃ x, s.drs[k]? = some x := ⟨s.drs[k], List.getElem?_eq_getElem hlt⟩
        obtain ⟨Fs, hs⟩ := hio.get 1 rfl
        obtain ⟨ba, rfl, c0⟩ := hs.at.2 k (.int .i64 x.1) (by simp [hx, encZ])
        have hlt' : (k : Int) < (s.drs.length : Int) := Int.ofNat_lt.2 hlt
        have hk16 := HD.out.1
        have hw2 : wrap64 ((k : Int) + 1) = (k : Int) + 1 := by unfold wrap64; omega
        have hdr := hio.drewN 1
        change In F0 w0 wr.drew _ at hdr
        have HS : Hid (∀ w' R', In F0 w0 w' (R' ++ []) → True) := Lib.hid fun _ _ _ => trivial
        have HX := Lib.hid hx
        have HIO := Lib.hid hio
        have HWF := Lib.hid (HD.out.2.2 x (List.mem_of_getElem? hx))
        have m0 := sd_get1 hdr 7 rfl HD.out.2.1 (List.mem_of_getElem? hx) HWF.out
        have H8 := Lib.hid (hdr.cells #[.int .i64 x.1, .int .i64 x.2] 166)
        have HY : Hid (wr.drew.cell? ⟨tb, 2, none⟩ = some (.slice va k vc) ∧ wr.drew.cell? ⟨sb, 2, none⟩ = some (.map (some dm)) ∧ (Instr.lookup 154 (.map (some dm)) (.int .i64 x.1) false).run Tryz.prog wr.drew = .ok (.int .i64 x.2) wr.drew) := Lib.hid ⟨cell_of (hdr.block 2 rfl) rfl, cell_of (hdr.block 5 rfl) rfl, m0⟩
        have HY8 : Hid ((wr.drew.alloc (.cells #[.int .i64 x.1, .int .i64 x.2] 166)).cell? ⟨tb, 2, none⟩ = some (.slice va k vc) ∧ (wr.drew.alloc (.cells #[.int .i64 x.1, .int .i64 x.2] 166)).cell? ⟨sb, 2, none⟩ = some (.map (some dm)) ∧ (Instr.lookup 154 (.map (some dm)) (.int .i64 x.1) false).run Tryz.prog (wr.drew.alloc (.cells #[.int .i64 x.1, .int .i64 x.2] 166)) = .ok (.int .i64 x.2) (wr.drew.alloc (.cells #[.int .i64 x.1, .int .i64 x.2] 166))) := Lib.hid ⟨cell_of (H8.out.block 3 rfl) rfl, cell_of (H8.out.block 6 rfl) rfl, sd_get1 H8.out 8 rfl HD.out.2.1 (List.mem_of_getElem? hx) HWF.out⟩
        have HK : Hid (k ≤ 16) := Lib.hid (by have := HD.out.1; omega)
        clear hio hdr hs hx hk hlt m0 HS hk16
        go_upto_region 7 with fail
        refine e_start (fun w' => w'.cell? ⟨tb, 2, none⟩ = some (.slice va k vc) ∧ w'.cell? ⟨sb, 2, none⟩ = some (.map (some dm)) ∧ (Instr.lookup 154 (.map (some dm)) (.int .i64 x.1) false).run Tryz.prog w' = .ok (.int .i64 x.2) w') (by kernel_rfl) HY.out (fun hS => ?_)
        refine e_take (i := 0) (v := ?_) rfl (by kernel_rfl) (fun _ _ _ h => h) (by rfl) ?_ hS ?_
        rotate_left
        · (intro w hSw; (try dsimp only at hSw); go_simp; try with_reducible rfl)
        try simp only [Act.put, List.setIfInBounds_toArray, List.set_cons_zero, List.set_cons_succ]
        refine e_take (i := 1) (v := ?_) rfl (by kernel_rfl) (fun _ _ _ h => h) (by rfl) ?_ hS ?_
        rotate_left
        · (intro w hSw; (try dsimp only at hSw); go_simp; try with_reducible rfl)
        try simp only [Act.put, List.setIfInBounds_toArray, List.set_cons_zero, List.set_cons_succ]
        refine e_take (i := 2) (v := ?_) rfl (by kernel_rfl) (fun _ _ _ h => h) (by rfl) ?_ hS ?_
        rotate_left
        · (intro w hSw; (try dsimp only at hSw); go_simp; try with_reducible rfl)
        try simp only [Act.put, List.setIfInBounds_toArray, List.set_cons_zero, List.set_cons_succ]
        refine e_take (i := 3) (v := ?_) rfl (by kernel_rfl) (fun _ _ _ h => h) (by rfl) ?_ hS ?_
        rotate_left
        · (intro w hSw; (try dsimp only at hSw); go_simp; try with_reducible rfl)
        try simp only [Act.put, List.setIfInBounds_toArray, List.set_cons_zero, List.set_cons_succ]
        refine e_take (i := 4) (v := ?_) rfl (by kernel_rfl) (fun _ _ _ h => h) (by rfl) ?_ hS ?_
        rotate_left
        · (intro w hSw; (try dsimp only at hSw); go_simp; try with_reducible rfl)
        try simp only [Act.put, List.setIfInBounds_toArray, List.set_cons_zero, List.set_cons_succ]
        refine e_take (i := 5) (v := ?_) rfl (by kernel_rfl) (fun _ _ _ h => h) (by rfl) ?_ hS ?_
        rotate_left
        · (intro w hSw; (try dsimp only at hSw); go_simp; try with_reducible rfl)
        try simp only [Act.put, List.setIfInBounds_toArray, List.set_cons_zero, List.set_cons_succ]
        refine e_take (i := 6) (v := ?_) rfl (by kernel_rfl) (fun _ _ _ h => h) (by rfl) ?_ hS ?_
        rotate_left
        · (intro w hSw; (try dsimp only at hSw); go_simp; try with_reducible rfl)
        try simp only [Act.put, List.setIfInBounds_toArray, List.set_cons_zero, List.set_cons_succ]
        refine e_take (i := 7) (v := ?_) rfl (by kernel_rfl) (fun _ _ _ h => h) (by rfl) ?_ hS ?_
        rotate_left
        · (intro w hSw; (try dsimp only at hSw); go_simp; try with_reducible rfl)
        try simp only [Act.put, List.setIfInBounds_toArray, List.set_cons_zero, List.set_cons_succ]
        refine e_take (i := 8) (v := ?_) rfl (by kernel_rfl) (fun _ _ _ h => h) (by rfl) ?_ hS ?_
        rotate_left
        · (intro w hSw; (try dsimp only at hSw); go_simp; try with_reducible rfl)
        try simp only [Act.put, List.setIfInBounds_toArray, List.set_cons_zero, List.set_cons_succ]
        refine e_take (i := 9) (v := ?_) rfl (by kernel_rfl) (fun _ _ _ h => h) (by rfl) ?_ hS ?_
        rotate_left
        · (intro w hSw; (try dsimp only at hSw); go_simp; try with_reducible rfl)
        try simp only [Act.put, List.setIfInBounds_toArray, List.set_cons_zero, List.set_cons_succ]
        refine e_pin (i := 10) rfl (by kernel_rfl) (fun K' hK => ?_)
        go_simp
        refine hK.out _ _ HY8.out (fun hS => ?_)
        clear hK K'
        try simp only [Act.put, List.setIfInBounds_toArray, List.set_cons_zero, List.set_cons_succ]
        refine e_pin (i := 11) rfl (by kernel_rfl) (fun K' hK => ?_)
        refine app_step rfl (by exact H8.out) 1 rfl (.tmp 31) (.tmp 40) 59 (by rfl) Tryz.underlying59 infoDrS (by decide) (by decide) (by rfl) (by rfl) (by exact Src.of_block (H8.out.block 0 rfl) rfl) (fun u hu => by simp at hu; rcases hu with rfl | rfl <;> rfl) (by have := HK.out; omega) ?_
        intro v1 w3 ho1 hg1
        obtain ⟨Fo, r1⟩ := ho1.get 1 rfl
        obtain ⟨vb, vd, rfl, -, -, -⟩ := RowA.shape r1
        have hz : w3.cell? ⟨tb, 2, none⟩ = some (.slice va k vc) ∧ w3.cell? ⟨sb, 2, none⟩ = some (.map (some dm)) ∧ (Instr.lookup 154 (.map (some dm)) (.int .i64 x.1) false).run Tryz.prog w3 = .ok (.int .i64 x.2) w3 := ⟨cell_of (ho1.block 3 rfl) rfl, cell_of (ho1.block 6 rfl) rfl, sd_get1 ho1 8 rfl HD.out.2.1 (List.mem_of_getElem? HX.out) HWF.out⟩
        have d2 : w3.cell? ⟨tb, 2, none⟩ = some (.slice va k vc) := hz.1
        have f2 : w3.frozen? ⟨tb, 2, none⟩ = false := free_of (ho1.block 3 rfl)
        have HR2 : Hid (ViewRl s sb tb dm fm w.heap.size a c' pa pc (some ⟨ba, 0, none⟩) kc F0 w0 R (.int .i64 ((k : Int) + 1)) (w3.setCell ⟨tb, 2, none⟩ (.slice vb (k + 1) vd))) := Lib.hid (by
          refine ⟨k + 1, vb, vd, (List.getElem?_eq_some_iff.1 HX.out).1, by rw [Int.natCast_add]; rfl, ?_⟩
          have g6 := (ho1.put (b := tb) (T := 62) 3 rfl 2 (.slice vb (k + 1) vd)).drop
          rw [List.take_add_one, HX.out, Option.toList_some, List.map_append, List.flatten_append]
          exact g6)
        clear ho1 r1 hg1 H8 HY HY8 hS
        refine hK.out _ _ hz (fun hS => ?_)
        clear hK K' hz
        try simp only [Act.put, List.setIfInBounds_toArray, List.set_cons_zero, List.set_cons_succ]
        refine e_take (i := 12) (v := ?_) rfl (by kernel_rfl) (fun _ _ _ h => h) (by rfl) ?_ hS ?_
        rotate_left
        · (intro w hSw; (try dsimp only at hSw); go_simp; try with_reducible rfl)
        try simp only [Act.put, List.setIfInBounds_toArray, List.set_cons_zero, List.set_cons_succ]
        refine e_last (i := 13) rfl (by kernel_rfl) (fun K' hK => ?_)
        go_simp
        refine hK.out _ _ ?_
        clear hK K' hS
        go_wp2_with fail
        go_roundw
        case rel => (try rw [hw2]); exact HR2.out
        case measure => (try rw [hw2]); exact meas_lt hlt'
      · have hkl : k = s.drs.length := by omega
        subst hkl
        rw [List.take_length] at hio
        have c3 : wr.cell? ⟨sb, 3, none⟩ = some (.map (some fm)) := cell_of (hio.block 5 rfl) rfl
        have KF := Lib.hid (o_flsort hio 8 rfl HOK.out.fsort (Nat.le_trans HOK.out.flen (by decide)))
        have hge : decide ((s.drs.length : Int) < (s.drs.length : Int)) = false := decide_eq_false (by omega)
        clear hio hlt hk HD
        go_wp2_with fail
        refine (values_call _ _).mono ?_
        rintro e w1 ⟨rfl, rfl⟩
        go_wp2_with fail
        refine KF.out.mono ?_
        rintro e w4 ⟨fa, fc, rfl, g7⟩
        have d3 : w4.cell? ⟨tb, 3, none⟩ = some (.slice none 0 0) := cell_of (g7.block 3 rfl) rfl
        have f3 : w4.frozen? ⟨tb, 3, none⟩ = false := free_of (g7.block 3 rfl)
        have g8 := g7.put (b := tb) (T := 62) 3 rfl 3 (.slice fa s.fls.length fc)
        have Q0 : Hid ((w4.setCell ⟨tb, 3, none⟩ (.slice fa s.fls.length fc)).heap[tb]? = some (.cells #[.int .i64 s.gen, .slice pa s.bks.length pc, .slice va s.drs.length vc, .slice fa s.fls.length fc] 62 (0, 0))) := Lib.hid (g8.block 3 rfl)
        have Q1 := Lib.hid (there_of (g8.block 5 rfl))
        have G := Lib.hid (g8.setFull 5 rfl (xs := [.int .i64 s.gen, .slice pa s.bks.length pc, .slice va s.drs.length vc, .slice fa s.fls.length fc]) (b := w.heap.size) (C := #[.int .i64 0, .slice none 0 0, .slice none 0 0, .slice none 0 0]) (T := 62) rfl)
        clear g7 g8 KF c3
        go_wp2_with (first | (refine wpList_load_row rfl 62 (.tmp 3) rfl tb rfl 62 _ (0, 0) _ Q0.out Tryz.underlying62 rfl (by kernel_rfl) ?_) | (refine wpList_store_mid (op := ⟨none, Op.store 62 (.tmp 2) (.tmp 51), _, _, _, _⟩) (by rfl) 62 (.tmp 2) (.tmp 51) rfl w.heap.size 0 #[.int .i64 s.gen, .slice pa s.bks.length pc, .slice va s.drs.length vc, .slice fa s.fls.length fc] (by rfl) (by rfl) Q1.out (by kernel_rfl) (st4_all2 _ _ _ _ _ _ _ _ _ _) ?_))
        exact bodyPost_ret (results_cell_row Tryz.results34 _ _ w.heap.size 62 _ (0, 0) _ rfl (G.out.block 5 rfl) Tryz.underlying62 rfl (by kernel_rfl)) rfl ⟨_, _, _, _, _, _, rfl, (In.stClose (s := s) (dm := dm) (fm := fm) HOK.out (G.out.sel2 (R1 := [_, _, _, _, _, _, _, _, _, _]) [6, 7, 8, 9, 4, 1, 0] (by decide) rfl)).sel2 (R1 := [_, _, _, _]) [1, 2, 3, 0] (by decide) rfl⟩
end
end Go.Proofs.YtogclkhpbjfadaaGreat
namespace Go.Proofs.YtogclkhpbjfadaaGreat
open Go.RowKit
set_option linter.unusedVariables false
set_option maxRecDepth 100000
abbrev FlR (v : Value) (l : List Fl) : Asrt := RowA 67 8 v l.length ((l.map encFs).flatten)
theorem OkSt.lens {s : StD} (h : OkSt s) : s.bks.length ≤ 16 ∧ s.drs.length ≤ 16 ∧ s.fls.length ≤ 256 := ⟨(gensMay_len h.bks).1, h.dlen, h.flen⟩
section
variable {F0 : List Nat} {w0 w : World} {R : List Asrt} {sb : Nat} {s : StD}
theorem stV_of {A D G : Option Addr} {a d g : Nat} (i j k : Nat) (hb : R[i]? = some (BkR (.slice A s.bks.length a) s.bks)) (hd : R[j]? = some (DrR (.slice D s.drs.length d) s.drs)) (hf : R[k]? = some (FlR (.slice G s.fls.length g) s.fls)) : AStV F0 w0 R s A D G :=
  ⟨fun w' h' => by obtain ⟨F, r⟩ := h'.get i hb; exact r.all, fun w' h' => by obtain ⟨F, r⟩ := h'.get j hd; exact r.all, fun w' h' => by obtain ⟨F, r⟩ := h'.get k hf; exact r.all⟩
theorem AStV.more {A D G : Option Addr} (v : AStV F0 w0 R s A D G) (X : Asrt) : AStV F0 w0 (X :: R) s A D G := ⟨fun w' h' => v.bks w' h'.drop, fun w' h' => v.drs w' h'.drop, fun w' h' => v.fls w' h'.drop⟩
end
end Go.Proofs.YtogclkhpbjfadaaGreat
