/- Rows.PathStaysSaid -/
import Derived.Test.YtgapbecddgfkmaaGreatPS9
import Derived.Test.YtgapbecddgfkmaaGreatPS16
import Derived.Test.YtgapbecddgfkmaaGreatPS18
import Derived.Deep.CutBlock
namespace Go.Proofs.YtgapbecddgfkmaaGreat
open Go.RowKit
set_option linter.unusedVariables false
set_option maxHeartbeats 64000000
set_option maxRecDepth 100000
theorem r1_folded {s : Nat} (hs : s < 4294967296) (w : World) : Calls Tryz.prog 137 #[.int .u32 s] w fun e w' => e = .returned (.int .u32 (foldN s)) ∧ w' = w := by
  have HS := Lib.hid hs
  clear hs
  go_enter Tryz.func137, Tryz.ntmps137
  go_wp2_with fail
  go_loop [0] (FoldRel s) (fun v => (intOf v).toNat)
  case atStart => exact ⟨s, rfl, HS.out, rfl⟩
  case round =>
    obtain ⟨r, rfl, hr, he⟩ := hrel
    by_cases hlt : 65535 < r
    · have q1 : (65535 : Int) < (r : Int) := by omega
      have q2 := and_low hr
      have HE := Lib.hid he
      have HR := Lib.hid (And.intro hr hlt)
      clear he hr hlt
      go_wp2_with fail
      go_round
      case rel => exact ⟨r / 65536 + r % 65536, by have := HR.out; go_num, by have := HR.out; omega, by rw [foldN_step]; exact HE.out⟩
      case measure =>
        obtain ⟨h1, h2⟩ := HR.out
        show (((r : Int) / 65536 + (r : Int) % 65536) % 4294967296).toNat < (r : Int).toNat
        rw [Int.emod_eq_of_lt (by omega) (by omega)]; omega
    · have q1 : (r : Int) ≤ 65535 := by omega
      have HE : Hid (foldN s = r) := Lib.hid (by rw [← he]; exact foldN_id (by omega))
      clear he hr hlt
      go_wp2_with fail
      go_ret
      exact ⟨by rw [HE.out]; rfl, rfl⟩
theorem r1_part {w : World} {A : Option Addr} {bs : List UInt8} {c s : Nat} (h : Src w A bs.length 1 (u8s bs)) (hl : bs.length ≤ 100000000) (hs : s < 4294967296) :
    Calls Tryz.prog 106 #[.int .u32 s, .slice A bs.length c] w fun e w' => e = .returned (.int .u32 (foldN (s + words bs))) ∧ w' = w := by
  have H := Lib.hid h
  have K := Lib.hid (fun n (hn : n < 4294967296) => r1_folded hn w)
  have HS := Lib.hid (r1_folded hs w)
  clear h hs
  go_enter Tryz.func106, Tryz.ntmps106
  go_wp2_with fail
  refine HS.out.mono ?_
  rintro e w1 ⟨rfl, rfl⟩
  clear HS
  go_wp2_with fail
  go_loop [0, 5] (PartRel s bs) (fun _ k => bs.length + 1 - (intOf k).toNat)
  case atStart => exact ⟨0, rfl, by omega, rfl, by simp [words]⟩
  case round =>
    obtain ⟨i, hi2, hi, rfl, rfl⟩ := hrel
    have hb := foldN_le (s + words (bs.take i))
    have HA : Hid (∀ n, foldN (foldN (s + words (bs.take i)) + n) = foldN (s + (words (bs.take i) + n))) := Lib.hid fun n => by rw [foldN_add, Nat.add_assoc]
    by_cases hlt : i < bs.length
    · obtain ⟨x, hx, hxe⟩ := get_of_lt hlt
      obtain ⟨g, o, rfl, hc⟩ := H.out.plain (by omega) (by decide)
      have c0 := hc i _ (u8s_get hlt)
      have hlt' : (i : Int) < (bs.length : Int) := by omega
      have hxl := byN_lt bs i
      have w1 : wrap64 ((i : Int) + 1) = (i : Int) + 1 := by unfold wrap64; omega
      have w2 : wrap64 ((i : Int) + 2) = (i : Int) + 2 := by unfold wrap64; omega
      by_cases hl2 : i + 1 < bs.length
      · obtain ⟨y, hy, hye⟩ := get_of_lt hl2
        have c1 := hc (i + 1) _ (u8s_get hl2)
        have hyl := byN_lt bs (i + 1)
        have HX : Hid (words (bs.take (i + 2)) = words (bs.take i) + (byN bs i * 256 + byN bs (i + 1))) := Lib.hid (by rw [words_take2 hi2 hx hy, hxe, hye])
        have hl2' : (i : Int) + 1 < (bs.length : Int) := by omega
        clear hx hxe hy hye hc
        generalize byN bs i = x at *
        generalize byN bs (i + 1) = y at *
        have q1 : IntKind.u32.wrap ((x : Int) * 256) = (x : Int) * 256 := u32_small (by omega) (by omega)
        have q2 := or_pair hxl hyl
        have HB := Lib.hid (HA.out (x * 256 + y))
        generalize foldN (s + words (bs.take i)) = f at *
        have q3 : IntKind.u32.wrap ((f : Int) + ((x * 256 + y : Nat) : Int)) = ((f + (x * 256 + y) : Nat) : Int) := by rw [u32_small (by omega) (by omega)]; omega
        have K2 := Lib.hid (K.out (f + (x * 256 + y)) (by omega))
        clear HA K
        go_wp2_with fail
        refine K2.out.mono ?_
        rintro e w1 ⟨rfl, rfl⟩
        clear K2
        go_wp2_with fail
        go_round
        case rel => exact ⟨i + 2, by omega, by omega, by go_num, by rw [HB.out, HX.out]⟩
        case measure => simp [intOf]; omega
      · have HX : Hid (words (bs.take (i + 2)) = words (bs.take i) + byN bs i * 256) := Lib.hid (by rw [words_take1 hi2 hx (by omega), hxe])
        have hl2' : (bs.length : Int) ≤ (i : Int) + 1 := by omega
        clear hx hxe hc hl2
        generalize byN bs i = x at *
        have q1 : IntKind.u32.wrap ((x : Int) * 256) = (x : Int) * 256 := u32_small (by omega) (by omega)
        have HB := Lib.hid (HA.out (x * 256))
        generalize foldN (s + words (bs.take i)) = f at *
        have q3 : IntKind.u32.wrap ((f : Int) + (x : Int) * 256) = ((f + x * 256 : Nat) : Int) := by rw [u32_small (by omega) (by omega)]; omega
        have K2 := Lib.hid (K.out (f + x * 256) (by omega))
        clear HA K
        go_wp2_with fail
        refine K2.out.mono ?_
        rintro e w1 ⟨rfl, rfl⟩
        clear K2
        go_wp2_with fail
        go_round
        case rel => exact ⟨i + 2, by omega, by omega, by go_num, by rw [HB.out, HX.out]⟩
        case measure => simp [intOf]; omega
    · have HE : Hid (foldN (s + words bs) = foldN (s + words (bs.take i))) := Lib.hid (by rw [take_all2 hlt])
      have hge : (bs.length : Int) ≤ (i : Int) := by omega
      clear HA hlt
      generalize foldN (s + words (bs.take i)) = f at *
      go_wp2_with fail
      go_ret
      exact ⟨by rw [HE.out]; rfl, rfl⟩
theorem r1_fold {s : Nat} (hs : s < 4294967296) (w : World) : Calls Tryz.prog 105 #[.int .u32 s] w fun e w' => e = .returned (.int .u16 ((65535 - foldN s : Nat) : Int)) ∧ w' = w := by
  have HS := Lib.hid (r1_folded hs w)
  have hb := not16 (foldN_le s)
  have hw16 : IntKind.u16.wrap ((foldN s : Nat) : Int) = ((foldN s : Nat) : Int) := u16_small (foldN_le s)
  have HE : Hid (∀ v : Int, v = ((65535 - foldN s : Nat) : Int) → Ending.returned (.int .u16 v) = .returned (.int .u16 ((65535 - foldN s : Nat) : Int))) := Lib.hid fun v h => by rw [h]
  clear hs
  go_enter Tryz.func105, Tryz.ntmps105
  go_wp2_with fail
  refine HS.out.mono ?_
  rintro e w1 ⟨rfl, rfl⟩
  clear HS
  go_wp2_with fail
  go_ret
  exact ⟨rfl, rfl⟩
theorem r1_net {w : World} {A : Option Addr} {bs : List UInt8} {c : Nat} (h : Src w A bs.length 1 (u8s bs)) (hl : bs.length ≤ 100000000) :
    Calls Tryz.prog 72 #[.slice A bs.length c] w fun e w' => e = .returned (.int .u16 (netN bs)) ∧ w' = w := by
  have K := Lib.hid (r1_part (c := c) (s := 0) h hl (by omega))
  rw [Nat.zero_add] at K
  have K2 := Lib.hid (fun w => r1_fold (s := foldN (words bs)) (by have := foldN_le (words bs); omega) w)
  have HE : Hid (netN bs = 65535 - foldN (foldN (words bs))) := Lib.hid (by rw [foldN_id (foldN_le _)]; rfl)
  clear h hl
  go_enter Tryz.func72, Tryz.ntmps72
  go_wp2_with fail
  refine K.out.mono ?_
  rintro e w1 ⟨rfl, rfl⟩
  go_wp2_with fail
  refine (K2.out _).mono ?_
  rintro e w1 ⟨rfl, rfl⟩
  clear K K2
  go_wp2_with fail
  go_ret
  exact ⟨by rw [HE.out]; rfl, rfl⟩
theorem u64_div256 (n : Int) : n / 256 % 256 = ((u64 n / 256 % 256 : Nat) : Int) := by unfold u64; omega
theorem u64_mod256 (n : Int) : n % 256 = ((u64 n % 256 : Nat) : Int) := by unfold u64; omega
theorem headL_set (h : Hd) {s : Nat} : ((headL h 0).set 10 (UInt8.ofNat (s / 256))).set 11 (UInt8.ofNat s) = headL h s := by
  rw [headL_eq, headL_eq]; rfl
section
variable {F0 : List Nat} {w0 w : World} {R : List Asrt}
theorem two_row (h : In F0 w0 w R) (n : Int) : In F0 w0 (w.alloc (.cells #[.int .u8 (n / 256 % 256), .int .u8 (n % 256)] 5)) (ByR (.slice (some ⟨w.heap.size, 0, none⟩) 2 2) (be (u64 n) 2) :: R) := by
  have g := (h.cells #[.int .u8 (n / 256 % 256), .int .u8 (n % 256)] 5).rowFull 0 (n := 2) (k := 1) rfl rfl (by decide)
  have e : (#[.int .u8 (n / 256 % 256), .int .u8 (n % 256)] : Array Value).toList = u8s (be (u64 n) 2) := by
    rw [u64_div256, u64_mod256, be2]; simp only [u8s, List.map_cons, List.map_nil, lo8_nat]
  rw [e] at g
  exact g
theorem md_u16 (n : Int) (h : In F0 w0 w R) : Calls Tryz.prog 70 #[.int .i64 n] w fun e w' => ∃ a c, e = .returned (.slice a 2 c) ∧ In F0 w0 w' (ByR (.slice a 2 c) (be (u64 n) 2) :: R) := by
  have G := Lib.hid (two_row h n)
  clear h
  go_enter Tryz.func70, Tryz.ntmps70
  go_wp2_with fail
  go_ret
  exact ⟨_, _, rfl, G.out⟩
theorem md_b2 (n : Int) (h : In F0 w0 w R) : Calls Tryz.prog 34 #[.int .i64 n] w fun e w' => ∃ a c, e = .returned (.slice a 2 c) ∧ In F0 w0 w' (ByR (.slice a 2 c) (be (u64 n) 2) :: R) := by
  have G := Lib.hid (two_row h n)
  clear h
  go_enter Tryz.func34, Tryz.ntmps34
  go_wp2_with fail
  go_ret
  exact ⟨_, _, rfl, G.out⟩
theorem md_u32 {n : Int} (h0 : 0 ≤ n) (h1 : n < 4294967296) (h : In F0 w0 w R) : Calls Tryz.prog 71 #[.int .u32 n] w fun e w' => ∃ a c, e = .returned (.slice a 4 c) ∧ In F0 w0 w' (ByR (.slice a 4 c) (be (u64 n) 4) :: R) := by
  have g := (h.cells #[.int .u8 (n / 16777216), .int .u8 (n / 65536 % 256), .int .u8 (n / 256 % 256), .int .u8 (n % 256)] 5).rowFull 0 (n := 4) (k := 1) rfl rfl (by decide)
  have e : (#[.int .u8 (n / 16777216), .int .u8 (n / 65536 % 256), .int .u8 (n / 256 % 256), .int .u8 (n % 256)] : Array Value).toList = u8s (be (u64 n) 4) := by
    rw [be4]
    simp only [u8s, List.map_cons, List.map_nil, lo8_nat]
    have e1 : n / 16777216 = ((u64 n / 16777216 % 256 : Nat) : Int) := by unfold u64; omega
    have e2 : n / 65536 % 256 = ((u64 n / 65536 % 256 : Nat) : Int) := by unfold u64; omega
    rw [e1, e2, u64_div256 n, u64_mod256 n]
  rw [e] at g
  have G := Lib.hid g
  clear h g e
  go_enter Tryz.func71, Tryz.ntmps71
  go_wp2_with fail
  go_ret
  exact ⟨_, _, rfl, G.out⟩
theorem o_r20build (h : In F0 w0 w R) {a0 a1 a2 a3 a6 a7 a8 a9 a10 : Int} {fl : Nat} (hf : fl < 8) (s0 : 0 ≤ a9) (s1 : a9 < 4294967296) (d0 : 0 ≤ a10) (d1 : a10 < 4294967296) :
    Calls Tryz.prog 35 #[.agg (hC a0 a1 a2 a3 fl 0 a6 a7 a8 a9 a10)] w fun e w' => ∃ v, e = .returned v ∧ In F0 w0 w' (ByR v (buildD ⟨a0, a1, a2, a3, fl, 0, a6, a7, a8, a9, a10⟩) :: R) := by
  have h1 := h.cells (hC a0 a1 a2 a3 fl 0 a6 a7 a8 a9 a10) 84
  have g := (h1.cells #[.int .u8 69, .int .u8 (a1 % 256)] 5).rowFull 0 (n := 2) (k := 1) rfl rfl (by decide)
  have e : (#[.int .u8 69, .int .u8 (a1 % 256)] : Array Value).toList = u8s ([69, lo8 (u64 a1)]) := by
    rw [u64_mod256]; simp only [u8s, List.map_cons, List.map_nil, lo8_nat]; rfl
  rw [e] at g
  have g1 : In F0 w0 _ (ByR (.slice (some ⟨(w.alloc (.cells (hC a0 a1 a2 a3 fl 0 a6 a7 a8 a9 a10) 84)).heap.size, 0, none⟩) 2 2) [69, lo8 (u64 a1)] :: Cells w.heap.size (hC a0 a1 a2 a3 fl 0 a6 a7 a8 a9 a10) 84 :: R) := g
  simp only [World.size_alloc] at g1
  have HU := Lib.hid (fun (n : Int) W R' (hW : In F0 w0 W R') => md_u16 n hW)
  have HU3 := Lib.hid (fun (n : Int) (h0 : 0 ≤ n) (h1 : n < 4294967296) W R' (hW : In F0 w0 W R') => md_u32 h0 h1 hW)
  have HSD := Lib.hid (And.intro (And.intro s0 s1) (And.intro d0 d1))
  have q0 : bits .and .i64 (fl : Int) 7 = (fl : Int) := by
    have := bits_and_mask fl 3 (by omega) (by omega)
    rw [show ((fl % 2 ^ 3 : Nat) : Int) = (fl : Int) by omega] at this
    exact this
  have q1 : IntKind.i64.wrap ((fl : Int) * 8192) = (fl : Int) * 8192 := IntWalk.i64_in _ (by omega)
  have q2 : bits .or .i64 ((fl : Int) * 8192) 0 = (fl : Int) * 8192 := by
    have := bits_or_i64 (fl * 8192) 0 (by omega) (by omega)
    rw [Nat.or_zero, show (((fl * 8192 : Nat)) : Int) = (fl : Int) * 8192 by omega] at this
    exact this
  have q3 : bits .and .i64 0 8191 = 0 := by decide
  clear h h1 e g hf s0 s1 d0 d1
  go_enter Tryz.func35, Tryz.ntmps35
  go_upto_region 2 with fail
  generalize w.heap.size = gb at *
  generalize (w.alloc (.cells (hC a0 a1 a2 a3 fl 0 a6 a7 a8 a9 a10) 84)).alloc _ = w1 at *
  have X0 := Lib.hid g1
  clear g1
  have hS : w1.drew.cell? ⟨gb, 2, none⟩ = some (.int .i64 a2) ∧ w1.drew.cell? ⟨gb, 3, none⟩ = some (.int .i64 a3) := ⟨cell_of ((X0.out.drewN 1).block 1 rfl) rfl, cell_of ((X0.out.drewN 1).block 1 rfl) rfl⟩
  have K1 := Lib.hid (HU.out a2 _ _ (X0.out.drewN 1))
  clear X0
  refine e_start (fun w' => w'.cell? ⟨gb, 2, none⟩ = some (.int .i64 a2) ∧ w'.cell? ⟨gb, 3, none⟩ = some (.int .i64 a3)) (by kernel_rfl) hS (fun hS => ?_)
  refine e_take (i := 0) (v := ?_) rfl (by kernel_rfl) (fun _ _ _ h => h) (by rfl) ?_ hS ?_
  rotate_left
  · (intro w hSw; (try dsimp only at hSw); go_simp; try with_reducible rfl)
  try simp only [Act.put, List.setIfInBounds_toArray, List.set_cons_zero, List.set_cons_succ]
  refine e_take (i := 1) (v := ?_) rfl (by kernel_rfl) (fun _ _ _ h => h) (by rfl) ?_ hS ?_
  rotate_left
  · (intro w hSw; (try dsimp only at hSw); go_simp; try with_reducible rfl)
  try simp only [Act.put, List.setIfInBounds_toArray, List.set_cons_zero, List.set_cons_succ]
  refine e_take (i := 2) (v := ?_) rfl (by kernel_rfl) (fun _ _ _ h => h) (by rfl) ?_ hS ?_
  rotate_left
  · (intro w hSw; (try dsimp only at hSw); go_simp; try with_reducible rfl)
  try simp only [Act.put, List.setIfInBounds_toArray, List.set_cons_zero, List.set_cons_succ]
  refine e_take (i := 5) (v := ?_) rfl (by kernel_rfl) (fun _ _ _ h => h) (by rfl) ?_ hS ?_
  rotate_left
  · (intro w hSw; (try dsimp only at hSw); go_simp; try with_reducible rfl)
  try simp only [Act.put, List.setIfInBounds_toArray, List.set_cons_zero, List.set_cons_succ]
  refine e_take (i := 6) (v := ?_) rfl (by kernel_rfl) (fun _ _ _ h => h) (by rfl) ?_ hS ?_
  rotate_left
  · (intro w hSw; (try dsimp only at hSw); go_simp; try with_reducible rfl)
  try simp only [Act.put, List.setIfInBounds_toArray, List.set_cons_zero, List.set_cons_succ]
  refine e_pin (i := 3) rfl (by kernel_rfl) (fun K' hK => ?_)
  go_simp
  go_at_call 70
  refine K1.out.mono ?_
  rintro e x1 ⟨pa, pc, rfl, ho⟩
  have hz : x1.cell? ⟨gb, 2, none⟩ = some (.int .i64 a2) ∧ x1.cell? ⟨gb, 3, none⟩ = some (.int .i64 a3) := ⟨cell_of (ho.block 2 rfl) rfl, cell_of (ho.block 2 rfl) rfl⟩
  have X1 := Lib.hid ho
  clear ho hS K1
  refine hK.out _ _ hz (fun hS => ?_)
  clear hK K' hz
  try simp only [Act.put, List.setIfInBounds_toArray, List.set_cons_zero, List.set_cons_succ]
  refine e_pin (i := 4) rfl (by kernel_rfl) (fun K' hK => ?_)
  refine app_step rfl X1.out 1 rfl (.tmp 9) (.tmp 12) 35 (by rfl) Tryz.underlying35 infoByte (by decide) (by decide) (by rfl) (by rfl) (ByR.src X1.out 0 rfl) (u8s_one _) (by simp [be, beTo_length]) ?_
  intro y1 x2 ho hg
  have hA := by_app (ho.sel2 (R1 := [_, _, _]) (R2 := R) [1, 2] (by decide) rfl)
  obtain ⟨ya, yc, hy⟩ := ByR.shape hA
  rw [show (([69, lo8 (u64 a1)] : List UInt8) ++ be (u64 a2) 2).length = 4 by simp [be, beTo_length]] at hy
  subst hy
  have hz : x2.cell? ⟨gb, 2, none⟩ = some (.int .i64 a2) ∧ x2.cell? ⟨gb, 3, none⟩ = some (.int .i64 a3) := ⟨cell_of (hA.block 1 rfl) rfl, cell_of (hA.block 1 rfl) rfl⟩
  have X2 := Lib.hid hA
  have K2 := Lib.hid (HU.out a3 _ _ hA)
  clear ho hg hA hS X1
  refine hK.out _ _ hz (fun hS => ?_)
  clear hK K' hz
  try simp only [Act.put, List.setIfInBounds_toArray, List.set_cons_zero, List.set_cons_succ]
  refine e_pin (i := 7) rfl (by kernel_rfl) (fun K' hK => ?_)
  go_simp
  go_at_call 70
  refine K2.out.mono ?_
  rintro e x3 ⟨pa2, pc2, rfl, ho⟩
  have hz : x3.cell? ⟨gb, 2, none⟩ = some (.int .i64 a2) ∧ x3.cell? ⟨gb, 3, none⟩ = some (.int .i64 a3) := ⟨cell_of (ho.block 2 rfl) rfl, cell_of (ho.block 2 rfl) rfl⟩
  have X3 := Lib.hid ho
  clear ho hS K2
  refine hK.out _ _ hz (fun hS => ?_)
  clear hK K' hz
  try simp only [Act.put, List.setIfInBounds_toArray, List.set_cons_zero, List.set_cons_succ]
  refine e_pin (i := 8) rfl (by kernel_rfl) (fun K' hK => ?_)
  refine app_step rfl X3.out 1 rfl (.tmp 13) (.tmp 16) 35 (by rfl) Tryz.underlying35 infoByte (by decide) (by decide) (by rfl) (by rfl) (ByR.src X3.out 0 rfl) (u8s_one _) (by simp [be, beTo_length]) ?_
  intro y2 x4 ho hg
  have hA := by_app (ho.sel2 (R1 := [_, _, _]) (R2 := R) [1, 2] (by decide) rfl)
  obtain ⟨za, zc, hy⟩ := ByR.shape hA
  rw [show ((([69, lo8 (u64 a1)] : List UInt8) ++ be (u64 a2) 2) ++ be (u64 a3) 2).length = 6 by simp [be, beTo_length]] at hy
  subst hy
  have hz : x4.cell? ⟨gb, 2, none⟩ = some (.int .i64 a2) ∧ x4.cell? ⟨gb, 3, none⟩ = some (.int .i64 a3) := ⟨cell_of (hA.block 1 rfl) rfl, cell_of (hA.block 1 rfl) rfl⟩
  have X4 := Lib.hid hA
  clear ho hg hA hS X3
  refine hK.out _ _ hz (fun hS => ?_)
  clear hK K' hz
  try simp only [Act.put, List.setIfInBounds_toArray, List.set_cons_zero, List.set_cons_succ]
  refine e_last (i := 9) rfl (by kernel_rfl) (fun K' hK => ?_)
  go_simp
  refine hK.out _ _ ?_
  clear hK K' hS
  obtain ⟨l2, hl2⟩ : ∃ l2 : List UInt8, l2 = ((([69, lo8 (u64 a1)] : List UInt8) ++ be (u64 a2) 2) ++ be (u64 a3) 2) := ⟨_, rfl⟩
  have nl2 : l2.length = 6 := by rw [hl2]; simp [be, beTo_length]
  have hX := X4.out
  rw [← hl2] at hX
  have Y4 := Lib.hid hX
  have El2 := Lib.hid hl2
  have Nl2 := Lib.hid nl2
  clear hX hl2 nl2 X4
  go_upto_region 3 with fail
  have i4 : x4.cell? ⟨gb, 4, none⟩ = some (.int .i64 fl) := cell_of (Y4.out.block 1 rfl) rfl
  have i5 : x4.cell? ⟨gb, 5, none⟩ = some (.int .i64 0) := cell_of (Y4.out.block 1 rfl) rfl
  have K3 := Lib.hid (HU.out ((fl : Int) * 8192) _ _ Y4.out)
  clear Y4
  go_wp2_with fail
  refine K3.out.mono ?_
  rintro e x5 ⟨pa3, pc3, rfl, ho⟩
  have X5 := Lib.hid ho
  clear ho K3 i4 i5
  go_wp2_with (at_builtin; refine app_list rfl X5.out 1 rfl (.tmp 18) (.tmp 27) 35 (by rfl) Tryz.underlying35 infoByte (by decide) (by decide) (by rfl) (by rfl) (ByR.src X5.out 0 rfl) (u8s_one _) (by rw [Nl2.out]; simp [be, beTo_length]) ?_)
  intro y5 x6 ho hg
  have hA := by_app (ho.sel2 (R1 := [_, _, _]) (R2 := R) [1, 2] (by decide) rfl)
  obtain ⟨ta, tc, hy⟩ := ByR.shape hA
  rw [show (l2 ++ be (u64 ((fl : Int) * 8192)) 2).length = 8 by simp [Nl2.out, be, beTo_length]] at hy
  subst hy
  obtain ⟨l3, hl3⟩ : ∃ l3 : List UInt8, l3 = (l2 ++ be (u64 ((fl : Int) * 8192)) 2) := ⟨_, rfl⟩
  have nl3 : l3.length = 8 := by rw [hl3]; simp [Nl2.out, be, beTo_length]
  rw [← hl3] at hA
  have El3 := Lib.hid hl3
  have Nl3 := Lib.hid nl3
  clear hl3 nl3
  have i6 : x6.cell? ⟨gb, 6, none⟩ = some (.int .i64 a6) := cell_of (hA.block 1 rfl) rfl
  have i7 : x6.cell? ⟨gb, 7, none⟩ = some (.int .i64 a7) := cell_of (hA.block 1 rfl) rfl
  have X6 := Lib.hid hA
  have g7 := (hA.cells #[.int .u8 (a6 % 256), .int .u8 (a7 % 256), .int .u8 0, .int .u8 0] 5).rowFull 0 (n := 4) (k := 1) rfl rfl (by decide)
  have e7 : (#[.int .u8 (a6 % 256), .int .u8 (a7 % 256), .int .u8 0, .int .u8 0] : Array Value).toList = u8s ([lo8 (u64 a6), lo8 (u64 a7), 0, 0]) := by
    rw [u64_mod256 a6, u64_mod256 a7]; simp only [u8s, List.map_cons, List.map_nil, lo8_nat]; rfl
  rw [e7] at g7
  have g8 : In F0 w0 _ (ByR (.slice (some ⟨x6.heap.size, 0, none⟩) 4 4) [lo8 (u64 a6), lo8 (u64 a7), 0, 0] :: ByR (.slice ta 8 tc) l3 :: Cells gb (hC a0 a1 a2 a3 fl 0 a6 a7 a8 a9 a10) 84 :: R) := g7
  have X7 := Lib.hid g8
  clear ho hg hA X5 g7 e7 g8
  go_wp2_with (at_builtin; refine app_list rfl X7.out 1 rfl (.tmp 29) (.tmp 36) 35 (by rfl) Tryz.underlying35 infoByte (by decide) (by decide) (by rfl) (by rfl) (ByR.src X7.out 0 rfl) (u8s_one _) (by rw [Nl3.out]; simp) ?_)
  intro y7 x8 ho hg
  have hA := by_app (ho.sel2 (R1 := [_, _, _]) (R2 := R) [1, 2] (by decide) rfl)
  obtain ⟨ua, uc, hy⟩ := ByR.shape hA
  rw [show (l3 ++ [lo8 (u64 a6), lo8 (u64 a7), 0, 0]).length = 12 by simp [Nl3.out]] at hy
  subst hy
  obtain ⟨l4, hl4⟩ : ∃ l4 : List UInt8, l4 = (l3 ++ [lo8 (u64 a6), lo8 (u64 a7), 0, 0]) := ⟨_, rfl⟩
  have nl4 : l4.length = 12 := by rw [hl4]; simp [Nl3.out, be, beTo_length]
  rw [← hl4] at hA
  have El4 := Lib.hid hl4
  have Nl4 := Lib.hid nl4
  clear hl4 nl4
  have X0 := Lib.hid hA
  clear ho hg hA X6 X7 i6 i7
  go_upto_region 5 with fail
  have hS : x8.drew.cell? ⟨gb, 9, none⟩ = some (.int .u32 a9) ∧ x8.drew.cell? ⟨gb, 10, none⟩ = some (.int .u32 a10) := ⟨cell_of ((X0.out.drewN 1).block 1 rfl) rfl, cell_of ((X0.out.drewN 1).block 1 rfl) rfl⟩
  have K1 := Lib.hid (HU3.out a9 HSD.out.1.1 HSD.out.1.2 _ _ (X0.out.drewN 1))
  clear X0
  refine e_start (fun w' => w'.cell? ⟨gb, 9, none⟩ = some (.int .u32 a9) ∧ w'.cell? ⟨gb, 10, none⟩ = some (.int .u32 a10)) (by kernel_rfl) hS (fun hS => ?_)
  refine e_take (i := 0) (v := ?_) rfl (by kernel_rfl) (fun _ _ _ h => h) (by rfl) ?_ hS ?_
  rotate_left
  · (intro w hSw; (try dsimp only at hSw); go_simp; try with_reducible rfl)
  try simp only [Act.put, List.setIfInBounds_toArray, List.set_cons_zero, List.set_cons_succ]
  refine e_take (i := 1) (v := ?_) rfl (by kernel_rfl) (fun _ _ _ h => h) (by rfl) ?_ hS ?_
  rotate_left
  · (intro w hSw; (try dsimp only at hSw); go_simp; try with_reducible rfl)
  try simp only [Act.put, List.setIfInBounds_toArray, List.set_cons_zero, List.set_cons_succ]
  refine e_take (i := 2) (v := ?_) rfl (by kernel_rfl) (fun _ _ _ h => h) (by rfl) ?_ hS ?_
  rotate_left
  · (intro w hSw; (try dsimp only at hSw); go_simp; try with_reducible rfl)
  try simp only [Act.put, List.setIfInBounds_toArray, List.set_cons_zero, List.set_cons_succ]
  refine e_take (i := 5) (v := ?_) rfl (by kernel_rfl) (fun _ _ _ h => h) (by rfl) ?_ hS ?_
  rotate_left
  · (intro w hSw; (try dsimp only at hSw); go_simp; try with_reducible rfl)
  try simp only [Act.put, List.setIfInBounds_toArray, List.set_cons_zero, List.set_cons_succ]
  refine e_take (i := 6) (v := ?_) rfl (by kernel_rfl) (fun _ _ _ h => h) (by rfl) ?_ hS ?_
  rotate_left
  · (intro w hSw; (try dsimp only at hSw); go_simp; try with_reducible rfl)
  try simp only [Act.put, List.setIfInBounds_toArray, List.set_cons_zero, List.set_cons_succ]
  refine e_pin (i := 3) rfl (by kernel_rfl) (fun K' hK => ?_)
  go_simp
  go_at_call 71
  refine K1.out.mono ?_
  rintro e x1 ⟨pa, pc, rfl, ho⟩
  have hz : x1.cell? ⟨gb, 9, none⟩ = some (.int .u32 a9) ∧ x1.cell? ⟨gb, 10, none⟩ = some (.int .u32 a10) := ⟨cell_of (ho.block 2 rfl) rfl, cell_of (ho.block 2 rfl) rfl⟩
  have X1 := Lib.hid ho
  clear ho hS K1
  refine hK.out _ _ hz (fun hS => ?_)
  clear hK K' hz
  try simp only [Act.put, List.setIfInBounds_toArray, List.set_cons_zero, List.set_cons_succ]
  refine e_pin (i := 4) rfl (by kernel_rfl) (fun K' hK => ?_)
  refine app_step rfl X1.out 1 rfl (.tmp 38) (.tmp 41) 35 (by rfl) Tryz.underlying35 infoByte (by decide) (by decide) (by rfl) (by rfl) (ByR.src X1.out 0 rfl) (u8s_one _) (by simp [Nl4.out, be, beTo_length]) ?_
  intro y1 x2 ho hg
  have hA := by_app (ho.sel2 (R1 := [_, _, _]) (R2 := R) [1, 2] (by decide) rfl)
  obtain ⟨ya, yc, hy⟩ := ByR.shape hA
  rw [show (l4 ++ be (u64 a9) 4).length = 16 by simp [Nl4.out, be, beTo_length]] at hy
  subst hy
  have hz : x2.cell? ⟨gb, 9, none⟩ = some (.int .u32 a9) ∧ x2.cell? ⟨gb, 10, none⟩ = some (.int .u32 a10) := ⟨cell_of (hA.block 1 rfl) rfl, cell_of (hA.block 1 rfl) rfl⟩
  have X2 := Lib.hid hA
  have K2 := Lib.hid (HU3.out a10 HSD.out.2.1 HSD.out.2.2 _ _ hA)
  clear ho hg hA hS X1
  refine hK.out _ _ hz (fun hS => ?_)
  clear hK K' hz
  try simp only [Act.put, List.setIfInBounds_toArray, List.set_cons_zero, List.set_cons_succ]
  refine e_pin (i := 7) rfl (by kernel_rfl) (fun K' hK => ?_)
  go_simp
  go_at_call 71
  refine K2.out.mono ?_
  rintro e x3 ⟨pa2, pc2, rfl, ho⟩
  have hz : x3.cell? ⟨gb, 9, none⟩ = some (.int .u32 a9) ∧ x3.cell? ⟨gb, 10, none⟩ = some (.int .u32 a10) := ⟨cell_of (ho.block 2 rfl) rfl, cell_of (ho.block 2 rfl) rfl⟩
  have X3 := Lib.hid ho
  clear ho hS K2
  refine hK.out _ _ hz (fun hS => ?_)
  clear hK K' hz
  try simp only [Act.put, List.setIfInBounds_toArray, List.set_cons_zero, List.set_cons_succ]
  refine e_pin (i := 8) rfl (by kernel_rfl) (fun K' hK => ?_)
  refine app_step rfl X3.out 1 rfl (.tmp 42) (.tmp 45) 35 (by rfl) Tryz.underlying35 infoByte (by decide) (by decide) (by rfl) (by rfl) (ByR.src X3.out 0 rfl) (u8s_one _) (by simp [Nl4.out, be, beTo_length]) ?_
  intro y2 x4 ho hg
  have hA := by_app (ho.sel2 (R1 := [_, _, _]) (R2 := R) [1, 2] (by decide) rfl)
  obtain ⟨za, zc, hy⟩ := ByR.shape hA
  rw [show ((l4 ++ be (u64 a9) 4) ++ be (u64 a10) 4).length = 20 by simp [Nl4.out, be, beTo_length]] at hy
  subst hy
  have hz : x4.cell? ⟨gb, 9, none⟩ = some (.int .u32 a9) ∧ x4.cell? ⟨gb, 10, none⟩ = some (.int .u32 a10) := ⟨cell_of (hA.block 1 rfl) rfl, cell_of (hA.block 1 rfl) rfl⟩
  have X4 := Lib.hid hA
  clear ho hg hA hS X3
  refine hK.out _ _ hz (fun hS => ?_)
  clear hK K' hz
  try simp only [Act.put, List.setIfInBounds_toArray, List.set_cons_zero, List.set_cons_succ]
  refine e_last (i := 9) rfl (by kernel_rfl) (fun K' hK => ?_)
  go_simp
  refine hK.out _ _ ?_
  clear hK K' hS
  have hL : ((l4 ++ be (u64 a9) 4) ++ be (u64 a10) 4) = headL ⟨a0, a1, a2, a3, fl, 0, a6, a7, a8, a9, a10⟩ 0 := by
    rw [El4.out, El3.out, El2.out, headL_eq]; unfold foNat; simp only [be2, be4, Int.add_zero]; rfl
  have h8 := X4.out
  clear X4
  rw [hL] at h8
  have h9 : In F0 w0 x4 (ByR (.slice za 20 zc) (headL ⟨a0, a1, a2, a3, fl, 0, a6, a7, a8, a9, a10⟩ 0) :: Cells gb (hC a0 a1 a2 a3 fl 0 a6 a7 a8 a9 a10) 84 :: R) := h8
  clear h8 hL
  have HH := Lib.hid (headL_set ⟨a0, a1, a2, a3, fl, 0, a6, a7, a8, a9, a10⟩ (s := netN (headL ⟨a0, a1, a2, a3, fl, 0, a6, a7, a8, a9, a10⟩ 0)))
  have HD : Hid (buildD ⟨a0, a1, a2, a3, fl, 0, a6, a7, a8, a9, a10⟩ = headL ⟨a0, a1, a2, a3, fl, 0, a6, a7, a8, a9, a10⟩ (netN (headL ⟨a0, a1, a2, a3, fl, 0, a6, a7, a8, a9, a10⟩ 0))) := Lib.hid rfl
  have hn := netN_lt (headL ⟨a0, a1, a2, a3, fl, 0, a6, a7, a8, a9, a10⟩ 0)
  have KN := Lib.hid (r1_net (c := zc) (ByR.src h9 0 rfl) (by rw [headL_length]; omega))
  have hl := headL_length ⟨a0, a1, a2, a3, fl, 0, a6, a7, a8, a9, a10⟩ 0
  generalize netN (headL ⟨a0, a1, a2, a3, fl, 0, a6, a7, a8, a9, a10⟩ 0) = nn at *
  generalize headL ⟨a0, a1, a2, a3, fl, 0, a6, a7, a8, a9, a10⟩ 0 = HL0 at *
  obtain ⟨g, rfl⟩ : ∃ g, za = some ⟨g, 0, none⟩ := by
    obtain ⟨F, r⟩ := h9.get 0 rfl
    obtain ⟨a', c', e, _, _, hat⟩ := RowA.shape r
    rw [Value.slice.injEq] at e
    obtain ⟨g, e2, _⟩ := hat 0 _ (u8s_get (by omega))
    exact ⟨g, e.1.trans e2⟩
  rw [hl] at KN
  obtain ⟨c10, f10⟩ := row_byte h9 0 rfl (k := 10) (by omega)
  obtain ⟨c11, f11⟩ := row_byte h9 0 rfl (k := 11) (by omega)
  have hv1 : (nn : Int) / 256 = (((UInt8.ofNat (nn / 256)).toNat : Nat) : Int) := by simp; omega
  have hv2 : (nn : Int) % 256 = (((UInt8.ofNat nn).toNat : Nat) : Int) := by simp
  have h10 := row_setb h9 0 rfl (k := 10) (by omega) (UInt8.ofNat (nn / 256)) hv1
  have h11 := row_setb h10 0 rfl (k := 11) (by rw [List.length_set]; omega) (UInt8.ofNat nn) hv2
  have G := Lib.hid (h11.sel2 (R1 := [_, _]) (R2 := R) [0] (by decide) rfl)
  clear h9 h10 h11 hv1 hv2
  clear hl
  go_wp2_with fail
  refine KN.out.mono ?_
  rintro e w9 ⟨rfl, rfl⟩
  clear KN
  go_wp2_with fail
  go_ret
  exact ⟨_, rfl, by rw [HD.out, ← HH.out]; exact G.out⟩
end
section
variable {F0 : List Nat} {w0 w : World} {R : List Asrt} {body : List UInt8}
def headK (k : Tup) (flags : Int) (n : Nat) : List UInt8 := be (u64 k.sport) 2 ++ be (u64 k.dport) 2 ++ (if k.proto = 6 then [0, 0, 0, 0, 0, 0, 0, 0, 80, UInt8.ofNat (u64 flags), 0, 0, 0, 0, 0, 0] else be (8 + n) 2 ++ [0, 0])
theorem headK_inner (k : Tup) (flags : Int) (body : List UInt8) : headK k flags body.length ++ body = innerL k flags body := rfl
theorem headK_length (k : Tup) (flags : Int) (n : Nat) : (headK k flags n).length ≤ 20 := by unfold headK; split <;> simp [be, beTo_length]
theorem made_app (k : Tup) (ttl flags : Int) (body : List UInt8) : buildD ⟨0, 0, 20 + ((innerL k flags body).length : Int), 0, 0, 0, ttl, k.proto, 0, k.src, k.dst⟩ ++ innerL k flags body = madeD k ttl flags body := rfl
def MadeMid (k : Tup) (flags : Int) (n gk : Nat) (F0 : List Nat) (w0 : World) (R : List Asrt) (v : Value) (wx : World) : Prop :=
  ∃ a c, v = .slice a (headK k flags n).length c ∧ In F0 w0 wx (ByR (.slice a (headK k flags n).length c) (headK k flags n) :: Cells gk (encT k) 24 :: R)
theorem o_made (h : In F0 w0 w R) {k : Tup} (hk : WfT k) (ttl flags : Int) {A : Option Addr} {c : Nat} (hb : Bytes F0 w0 R A c body) (hm : body.length ≤ 100000) :
    Calls Tryz.prog 10 #[.agg (encT k), .int .i64 ttl, .int .i64 flags, .slice A body.length c] w fun e w' => ∃ v, e = .returned v ∧ In F0 w0 w' (ByR v (madeD k ttl flags body) :: R) := by
  have h1 := h.cells (encT k) 24
  have HU := Lib.hid (fun (n : Int) W R' (hW : In F0 w0 W R') => md_b2 n hW)
  have HB := Lib.hid hb
  have HM := Lib.hid hm
  have HSD := Lib.hid (And.intro (And.intro hk.1 hk.2) (And.intro hk.3 hk.4))
  have HI := Lib.hid (headK_inner k flags body)
  have HA := Lib.hid (made_app k ttl flags body)
  have HHL := Lib.hid (headK_length k flags body.length)
  have HK : Hid (headK k flags body.length = be (u64 k.sport) 2 ++ be (u64 k.dport) 2 ++ (if k.proto = 6 then [0, 0, 0, 0, 0, 0, 0, 0, 80, UInt8.ofNat (u64 flags), 0, 0, 0, 0, 0, 0] else be (8 + body.length) 2 ++ [0, 0])) := Lib.hid rfl
  clear h hb hm hk
  obtain ⟨k0, k1, k2, k3, k4⟩ := k
  go_enter Tryz.func10, Tryz.ntmps10
  go_upto_region 1 with fail
  generalize w.heap.size = gk at *
  generalize (w.alloc (.cells #[.int .u32 k0, .int .u32 k1, .int .i64 k2, .int .i64 k3, .int .i64 k4] 24)) = w1 at *
  have X0 := Lib.hid h1
  have hS : w1.drew.cell? ⟨gk, 3, none⟩ = some (.int .i64 k3) ∧ w1.drew.cell? ⟨gk, 4, none⟩ = some (.int .i64 k4) := ⟨cell_of ((X0.out.drewN 1).block 0 rfl) rfl, cell_of ((X0.out.drewN 1).block 0 rfl) rfl⟩
  have K1 := Lib.hid (HU.out k3 _ _ (X0.out.drewN 1))
  clear h1 X0
  refine e_start (fun w' => w'.cell? ⟨gk, 3, none⟩ = some (.int .i64 k3) ∧ w'.cell? ⟨gk, 4, none⟩ = some (.int .i64 k4)) (by kernel_rfl) hS (fun hS => ?_)
  refine e_take (i := 0) (v := ?_) rfl (by kernel_rfl) (fun _ _ _ h => h) (by rfl) ?_ hS ?_
  rotate_left
  · (intro w hSw; (try dsimp only at hSw); go_simp; try with_reducible rfl)
  try simp only [Act.put, List.setIfInBounds_toArray, List.set_cons_zero, List.set_cons_succ]
  refine e_take (i := 1) (v := ?_) rfl (by kernel_rfl) (fun _ _ _ h => h) (by rfl) ?_ hS ?_
  rotate_left
  · (intro w hSw; (try dsimp only at hSw); go_simp; try with_reducible rfl)
  try simp only [Act.put, List.setIfInBounds_toArray, List.set_cons_zero, List.set_cons_succ]
  refine e_take (i := 3) (v := ?_) rfl (by kernel_rfl) (fun _ _ _ h => h) (by rfl) ?_ hS ?_
  rotate_left
  · (intro w hSw; (try dsimp only at hSw); go_simp; try with_reducible rfl)
  try simp only [Act.put, List.setIfInBounds_toArray, List.set_cons_zero, List.set_cons_succ]
  refine e_take (i := 4) (v := ?_) rfl (by kernel_rfl) (fun _ _ _ h => h) (by rfl) ?_ hS ?_
  rotate_left
  · (intro w hSw; (try dsimp only at hSw); go_simp; try with_reducible rfl)
  try simp only [Act.put, List.setIfInBounds_toArray, List.set_cons_zero, List.set_cons_succ]
  refine e_pin (i := 2) rfl (by kernel_rfl) (fun K' hK => ?_)
  go_simp
  go_at_call 34
  refine K1.out.mono ?_
  rintro e x1 ⟨pa, pac, rfl, ho⟩
  have hz : x1.cell? ⟨gk, 3, none⟩ = some (.int .i64 k3) ∧ x1.cell? ⟨gk, 4, none⟩ = some (.int .i64 k4) := ⟨cell_of (ho.block 1 rfl) rfl, cell_of (ho.block 1 rfl) rfl⟩
  have X1 := Lib.hid ho
  have K2 := Lib.hid (HU.out k4 _ _ ho)
  clear ho hS K1
  refine hK.out _ _ hz (fun hS => ?_)
  clear hK K' hz
  try simp only [Act.put, List.setIfInBounds_toArray, List.set_cons_zero, List.set_cons_succ]
  refine e_pin (i := 5) rfl (by kernel_rfl) (fun K' hK => ?_)
  go_simp
  go_at_call 34
  refine K2.out.mono ?_
  rintro e x2 ⟨pb, pbc, rfl, ho⟩
  have hz : x2.cell? ⟨gk, 3, none⟩ = some (.int .i64 k3) ∧ x2.cell? ⟨gk, 4, none⟩ = some (.int .i64 k4) := ⟨cell_of (ho.block 2 rfl) rfl, cell_of (ho.block 2 rfl) rfl⟩
  have X2 := Lib.hid ho
  clear ho hS K2
  refine hK.out _ _ hz (fun hS => ?_)
  clear hK K' hz
  try simp only [Act.put, List.setIfInBounds_toArray, List.set_cons_zero, List.set_cons_succ]
  refine e_pin (i := 6) rfl (by kernel_rfl) (fun K' hK => ?_)
  refine app_step rfl X2.out 1 rfl (.tmp 13) (.tmp 16) 35 (by rfl) Tryz.underlying35 infoByte (by decide) (by decide) (by rfl) (by rfl) (ByR.src X2.out 0 rfl) (u8s_one _) (by simp [be, beTo_length]) ?_
  intro y1 x3 ho hg
  have hA := by_app (ho.sel2 (R1 := [_, _, _]) (R2 := R) [1, 2] (by decide) rfl)
  obtain ⟨ya, yc, hy⟩ := ByR.shape hA
  rw [show (be (u64 k3) 2 ++ be (u64 k4) 2).length = 4 by simp [be, beTo_length]] at hy
  subst hy
  have hz : x3.cell? ⟨gk, 3, none⟩ = some (.int .i64 k3) ∧ x3.cell? ⟨gk, 4, none⟩ = some (.int .i64 k4) := ⟨cell_of (hA.block 1 rfl) rfl, cell_of (hA.block 1 rfl) rfl⟩
  obtain ⟨l1, hl1⟩ : ∃ l1 : List UInt8, l1 = be (u64 k3) 2 ++ be (u64 k4) 2 := ⟨_, rfl⟩
  have n1 : l1.length = 4 := by rw [hl1]; simp [be, beTo_length]
  rw [← hl1] at hA
  have X3 := Lib.hid (show In F0 w0 x3 (ByR (.slice ya 4 yc) l1 :: Cells gk #[.int .u32 k0, .int .u32 k1, .int .i64 k2, .int .i64 k3, .int .i64 k4] 24 :: R) from hA)
  have E1 := Lib.hid hl1
  have N1 := Lib.hid n1
  clear ho hg hA hS X1 X2 hl1 n1
  refine hK.out _ _ hz (fun hS => ?_)
  clear hK K' hz
  try simp only [Act.put, List.setIfInBounds_toArray, List.set_cons_zero, List.set_cons_succ]
  refine e_last (i := 7) rfl (by kernel_rfl) (fun K' hK => ?_)
  go_simp
  refine hK.out _ _ ?_
  clear hK K' hS
  have j2 : x3.cell? ⟨gk, 2, none⟩ = some (.int .i64 k2) := cell_of (X3.out.block 1 rfl) rfl
  go_upto_if 20 with fail
  go_cut [9] (fun v9 wx => MadeMid ⟨k0, k1, k2, k3, k4⟩ flags body.length gk F0 w0 R v9 wx)
  case first =>
    by_cases h6 : k2 = 6
    · have q6 : (k2 == 6) = true := by rw [h6]; rfl
      have hq : headK ⟨k0, k1, k2, k3, k4⟩ flags body.length = l1 ++ [0, 0, 0, 0, 0, 0, 0, 0, 80, UInt8.ofNat (u64 flags), 0, 0, 0, 0, 0, 0] := by rw [HK.out, E1.out]; simp only [h6, if_true]
      have g7 := (X3.out.cells #[.int .u8 0, .int .u8 0, .int .u8 0, .int .u8 0, .int .u8 0, .int .u8 0, .int .u8 0, .int .u8 0, .int .u8 80, .int .u8 (flags % 256), .int .u8 0, .int .u8 0, .int .u8 0, .int .u8 0, .int .u8 0, .int .u8 0] 5).rowFull 0 (n := 16) (k := 1) rfl rfl (by decide)
      have e7 : (#[.int .u8 0, .int .u8 0, .int .u8 0, .int .u8 0, .int .u8 0, .int .u8 0, .int .u8 0, .int .u8 0, .int .u8 80, .int .u8 (flags % 256), .int .u8 0, .int .u8 0, .int .u8 0, .int .u8 0, .int .u8 0, .int .u8 0] : Array Value).toList = u8s [0, 0, 0, 0, 0, 0, 0, 0, 80, UInt8.ofNat (u64 flags), 0, 0, 0, 0, 0, 0] := by
        rw [u64_mod256 flags]; simp only [u8s, List.map_cons, List.map_nil]
        rw [show (UInt8.ofNat (u64 flags)).toNat = u64 flags % 256 from lo8_nat _]; rfl
      rw [e7] at g7
      have X4 := Lib.hid (show In F0 w0 _ (ByR (.slice (some ⟨x3.heap.size, 0, none⟩) 16 16) [0, 0, 0, 0, 0, 0, 0, 0, 80, UInt8.ofNat (u64 flags), 0, 0, 0, 0, 0, 0] :: ByR (.slice ya 4 yc) l1 :: Cells gk #[.int .u32 k0, .int .u32 k1, .int .i64 k2, .int .i64 k3, .int .i64 k4] 24 :: R) from g7)
      have HQ := Lib.hid hq
      clear hq h6 g7 e7
      go_wp2_with (at_builtin; refine app_list rfl X4.out 1 rfl (.tmp 21) (.tmp 24) 35 (by rfl) Tryz.underlying35 infoByte (by decide) (by decide) (by rfl) (by rfl) (ByR.src X4.out 0 rfl) (u8s_one _) (by rw [N1.out]; simp) ?_)
      intro y7 x8 ho hg
      have hA := by_app (ho.sel2 (R1 := [_, _, _]) (R2 := R) [1, 2] (by decide) rfl)
      have hB : In F0 w0 x8 (ByR y7 (headK ⟨k0, k1, k2, k3, k4⟩ flags body.length) :: Cells gk #[.int .u32 k0, .int .u32 k1, .int .i64 k2, .int .i64 k3, .int .i64 k4] 24 :: R) := by rw [HQ.out]; exact hA
      obtain ⟨za, zc, rfl⟩ := ByR.shape hB
      have HF : Hid (MadeMid ⟨k0, k1, k2, k3, k4⟩ flags body.length gk F0 w0 R (.slice za (headK ⟨k0, k1, k2, k3, k4⟩ flags body.length).length zc) x8) := Lib.hid ⟨_, _, rfl, hB⟩
      clear ho hg hA hB X4
      go_wp2_with fail
      go_meet
      exact HF.out
    · have q6 : (k2 == 6) = false := beq_eq_false_iff_ne.2 h6
      have hq : headK ⟨k0, k1, k2, k3, k4⟩ flags body.length = (l1 ++ be (u64 (8 + (body.length : Int))) 2) ++ [0, 0] := by
        have hmm := HM.out
        have e8 : u64 (8 + (body.length : Int)) = 8 + body.length := by unfold u64; omega
        rw [HK.out, E1.out, e8]; simp only [h6, if_false, List.append_assoc]
      have HQ := Lib.hid hq
      have w8 : wrap64 (8 + (body.length : Int)) = 8 + (body.length : Int) := by have := HM.out; unfold wrap64; omega
      have w8' : IntKind.i64.wrap (8 + (body.length : Int)) = 8 + (body.length : Int) := by have := HM.out; exact IntWalk.i64_in _ (by omega)
      have K4 := Lib.hid (HU.out (8 + (body.length : Int)) _ _ X3.out)
      clear hq h6
      go_wp2_with fail
      refine K4.out.mono ?_
      rintro e x4 ⟨pc, pcc, rfl, ho⟩
      have X4 := Lib.hid ho
      clear ho K4
      go_wp2_with (at_builtin; refine app_list rfl X4.out 1 rfl (.tmp 26) (.tmp 30) 35 (by rfl) Tryz.underlying35 infoByte (by decide) (by decide) (by rfl) (by rfl) (ByR.src X4.out 0 rfl) (u8s_one _) (by rw [N1.out]; simp [be, beTo_length]) ?_)
      intro y5 x5 ho hg
      have hA := by_app (ho.sel2 (R1 := [_, _, _]) (R2 := R) [1, 2] (by decide) rfl)
      obtain ⟨l2, hl2⟩ : ∃ l2 : List UInt8, l2 = l1 ++ be (u64 (8 + (body.length : Int))) 2 := ⟨_, rfl⟩
      have n2 : l2.length = 6 := by rw [hl2]; simp [N1.out, be, beTo_length]
      rw [← hl2] at hA
      obtain ⟨ta, tc, hy⟩ := ByR.shape hA
      rw [n2] at hy
      subst hy
      have HQ2 : Hid (headK ⟨k0, k1, k2, k3, k4⟩ flags body.length = l2 ++ [0, 0]) := Lib.hid (by rw [hl2]; exact HQ.out)
      have g7 := (hA.cells #[.int .u8 0, .int .u8 0] 5).rowFull 0 (n := 2) (k := 1) rfl rfl (by decide)
      have X5 := Lib.hid (show In F0 w0 _ (ByR (.slice (some ⟨x5.heap.size, 0, none⟩) 2 2) [0, 0] :: ByR (.slice ta 6 tc) l2 :: Cells gk #[.int .u32 k0, .int .u32 k1, .int .i64 k2, .int .i64 k3, .int .i64 k4] 24 :: R) from g7)
      have N2 := Lib.hid n2
      clear ho hg hA hl2 n2 g7 X4 HQ
      go_wp2_with (at_builtin; refine app_list rfl X5.out 1 rfl (.tmp 31) (.tmp 32) 35 (by rfl) Tryz.underlying35 infoByte (by decide) (by decide) (by rfl) (by rfl) (ByR.src X5.out 0 rfl) (u8s_one _) (by rw [N2.out]; simp) ?_)
      intro y7 x8 ho hg
      have hA := by_app (ho.sel2 (R1 := [_, _, _]) (R2 := R) [1, 2] (by decide) rfl)
      have hB : In F0 w0 x8 (ByR y7 (headK ⟨k0, k1, k2, k3, k4⟩ flags body.length) :: Cells gk #[.int .u32 k0, .int .u32 k1, .int .i64 k2, .int .i64 k3, .int .i64 k4] 24 :: R) := by rw [HQ2.out]; exact hA
      obtain ⟨za, zc, rfl⟩ := ByR.shape hB
      have HF : Hid (MadeMid ⟨k0, k1, k2, k3, k4⟩ flags body.length gk F0 w0 R (.slice za (headK ⟨k0, k1, k2, k3, k4⟩ flags body.length).length zc) x8) := Lib.hid ⟨_, _, rfl, hB⟩
      clear ho hg hA hB X5
      go_wp2_with fail
      go_meet
      exact HF.out
  case rest =>
  obtain ⟨ma, mc, rfl, ho⟩ := hcut
  have X4 := Lib.hid ho
  have hl := HHL.out
  obtain ⟨l3, hl3⟩ : ∃ l3 : List UInt8, l3 = headK ⟨k0, k1, k2, k3, k4⟩ flags body.length := ⟨_, rfl⟩
  rw [← hl3] at HI X4 hl
  rw [← hl3]
  have HL3 := Lib.hid hl
  clear ho hl hl3 HK E1 N1 X3 j2 HHL
  have HL4 : Hid (l3.length + body.length ≤ 1000000000) := Lib.hid (by have := HL3.out; have := HM.out; omega)
  go_wp2_with (at_builtin; refine app_list rfl X4.out 0 rfl (.tmp 34) (.tmp 35) 35 (by rfl) Tryz.underlying35 infoByte (by decide) (by decide) (by rfl) (by rfl) (HB.out.src _ X4.out.drop.drop) (u8s_one _) HL4.out ?_)
  intro y9 x9 ho hg
  have hA := by_app ho
  rw [HI.out] at hA
  obtain ⟨va, vc, rfl⟩ := ByR.shape hA
  have hnl : (innerL ⟨k0, k1, k2, k3, k4⟩ flags body).length ≤ 100020 := by rw [← HI.out, List.length_append]; have := HL3.out; have := HM.out; omega
  obtain ⟨q, hq⟩ : ∃ q : List UInt8, q = innerL ⟨k0, k1, k2, k3, k4⟩ flags body := ⟨_, rfl⟩
  rw [← hq] at hA hnl HA
  rw [← hq]
  have c0 : x9.cell? ⟨gk, 0, none⟩ = some (.int .u32 k0) := cell_of (hA.block 1 rfl) rfl
  have c1 : x9.cell? ⟨gk, 1, none⟩ = some (.int .u32 k1) := cell_of (hA.block 1 rfl) rfl
  have c2 : x9.cell? ⟨gk, 2, none⟩ = some (.int .i64 k2) := cell_of (hA.block 1 rfl) rfl
  have w9 : IntKind.i64.wrap (20 + (q.length : Int)) = 20 + (q.length : Int) := IntWalk.i64_in _ (by omega)
  have KB : Hid (Calls Tryz.prog 35 #[.agg (hC 0 0 (20 + (q.length : Int)) 0 ((0 : Nat) : Int) 0 ttl k2 0 k0 k1)] x9 fun e w' => ∃ v, e = .returned v ∧ In F0 w0 w' (ByR v (buildD ⟨0, 0, 20 + (q.length : Int), 0, ((0 : Nat) : Int), 0, ttl, k2, 0, k0, k1⟩) :: ByR (.slice va q.length vc) q :: Cells gk #[.int .u32 k0, .int .u32 k1, .int .i64 k2, .int .i64 k3, .int .i64 k4] 24 :: R)) :=
    Lib.hid (o_r20build hA (fl := 0) (by omega) HSD.out.1.1 HSD.out.1.2 HSD.out.2.1 HSD.out.2.2)
  have HN := Lib.hid hnl
  clear ho hg hA X4 hnl hq HI
  go_wp2_with fail
  refine KB.out.mono ?_
  rintro e x10 ⟨vb, rfl, ho⟩
  obtain ⟨ba, bc, rfl⟩ := ByR.shape ho
  have X10 := Lib.hid ho
  have HL5 : Hid ((buildD ⟨0, 0, 20 + (q.length : Int), 0, ((0 : Nat) : Int), 0, ttl, k2, 0, k0, k1⟩).length + q.length ≤ 1000000000) := Lib.hid (by rw [buildD_length]; have := HN.out; omega)
  clear ho KB c0 c1 c2 w9
  go_wp2_with (at_builtin; refine app_list rfl X10.out 0 rfl (.tmp 48) (.tmp 49) 35 (by rfl) Tryz.underlying35 infoByte (by decide) (by decide) (by rfl) (by rfl) (ByR.src X10.out 1 rfl) (u8s_one _) HL5.out ?_)
  intro y11 x11 ho hg
  have G := Lib.hid (by_app (ho.sel2 (R1 := [_, _, _]) (R2 := R) [0] (by decide) rfl))
  clear ho hg X10
  go_wp2_with fail
  go_ret
  exact ⟨_, rfl, by rw [← HA.out]; exact G.out⟩
end
end Go.Proofs.YtgapbecddgfkmaaGreat
