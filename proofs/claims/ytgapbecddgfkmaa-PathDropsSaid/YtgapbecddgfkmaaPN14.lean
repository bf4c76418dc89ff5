/- Rows.PathNilSaid -/
import Derived.Test.YtgapbecddgfkmaaPN13
namespace Go.Proofs.Ytgapbecddgfkmaa
open Go.RowKit
set_option linter.unusedVariables false
set_option maxHeartbeats 64000000
set_option maxRecDepth 100000
theorem pt_tcp {w : World} {A : Option Addr} {bs : List UInt8} {c : Nat} (h : Src w A bs.length 1 (u8s bs)) : Calls Try.prog 52 #[.slice A bs.length c] w fun e w' => e = .returned (.bool (tcpOk bs)) ∧ w' = w := by
  by_cases h20 : bs.length < 20
  · have HE : Hid (tcpOk bs = false) := Lib.hid (by unfold tcpOk; rw [decide_eq_false (by omega)]; rfl)
    have h20' : (bs.length : Int) < 20 := by omega
    clear h h20
    go_enter Try.func52, Try.ntmps52
    go_wp2_with fail
    go_ret
    exact ⟨by rw [HE.out]; rfl, rfl⟩
  obtain ⟨g, o, rfl, hc⟩ := h.plain (by omega) (by decide)
  have c0 := hc 12 _ (u8s_get (by omega))
  have h20' : ¬ ((bs.length : Int) < 20) := by omega
  have hix : (12 : Int) < (bs.length : Int) := by omega
  have hl := byN_lt bs 12
  have e0 : tcpOk bs = (decide (5 ≤ byN bs 12 / 16) && decide (4 * (byN bs 12 / 16) ≤ bs.length)) := by unfold tcpOk; rw [decide_eq_true (by omega)]; rfl
  generalize byN bs 12 = n at *
  clear h hc h20
  by_cases h5 : 5 ≤ n / 16
  · have q5 : (5 : Int) ≤ (n : Int) / 16 := by omega
    by_cases h4 : 4 * (n / 16) ≤ bs.length
    · have HE : Hid (tcpOk bs = true) := Lib.hid (by rw [e0, decide_eq_true h5, decide_eq_true h4]; rfl)
      have q4 : 4 * ((n : Int) / 16) ≤ (bs.length : Int) := by omega
      have q3 : IntKind.i64.wrap (4 * ((n : Int) / 16)) = 4 * ((n : Int) / 16) := IntWalk.i64_in _ (by omega)
      clear e0 h5 h4
      go_enter Try.func52, Try.ntmps52
      go_wp2_with fail
      go_ret
      exact ⟨by rw [HE.out]; rfl, rfl⟩
    · have HE : Hid (tcpOk bs = false) := Lib.hid (by rw [e0, decide_eq_true h5, decide_eq_false h4]; rfl)
      have q4 : decide (4 * ((n : Int) / 16) ≤ (bs.length : Int)) = false := decide_eq_false (by omega)
      have q3 : IntKind.i64.wrap (4 * ((n : Int) / 16)) = 4 * ((n : Int) / 16) := IntWalk.i64_in _ (by omega)
      clear e0 h5 h4
      go_enter Try.func52, Try.ntmps52
      go_wp2_with fail
      go_ret
      exact ⟨by rw [HE.out]; rfl, rfl⟩
  · have HE : Hid (tcpOk bs = false) := Lib.hid (by rw [e0, decide_eq_false h5]; rfl)
    have q5 : decide ((5 : Int) ≤ (n : Int) / 16) = false := decide_eq_false (by omega)
    clear e0 h5
    go_enter Try.func52, Try.ntmps52
    go_wp2_with fail
    go_ret
    exact ⟨by rw [HE.out]; rfl, rfl⟩
section
variable {F0 : List Nat} {w0 w : World} {R : List Asrt}
theorem o_ptudp {A : Option Addr} {bs : List UInt8} {c : Nat} (h : In F0 w0 w R) (hb : Bytes F0 w0 R A c bs) (hm : bs.length ≤ 100000000) : Calls Try.prog 53 #[.slice A bs.length c] w fun e w' => e = .returned (.bool (udpOk bs)) ∧ In F0 w0 w' R := by
  by_cases h8 : bs.length < 8
  · have HE : Hid (udpOk bs = false) := Lib.hid (by unfold udpOk; rw [decide_eq_false (by omega)]; rfl)
    have h8' : (bs.length : Int) < 8 := by omega
    have G := Lib.hid h
    clear h h8 hb hm
    go_enter Try.func53, Try.ntmps53
    go_wp2_with fail
    go_ret
    exact ⟨by rw [HE.out]; rfl, G.out⟩
  obtain ⟨g, o, rfl⟩ := hb.some (by omega)
  have hcap := hb.cap
  have h8' : ¬ ((bs.length : Int) < 8) := by omega
  have hsuf : ∀ W, (Instr.slice 22 (.slice (some ⟨g, o, none⟩) bs.length c) (some (.int .i64 4)) none none).run Try.prog W = .ok (.slice (some ⟨g, o + 4, none⟩) (bs.length - 4) (c - 4)) W := fun W => run_suf g o bs.length c 4 (by omega) (by omega) W
  have hl4 : (bs.drop 4).length = bs.length - 4 := List.length_drop
  have K0 : Hid (Calls Try.prog 54 #[.slice (some ⟨g, o + 4, none⟩) (bs.length - 4) (c - 4)] w fun e w' => ∃ br, e = .returned (.pointer (some ⟨br, 0, none⟩)) ∧ In F0 w0 w' (RdA br ((bs.drop 4).drop 0) 0 :: R)) := Lib.hid (by
    have := o_rnew (c := c - 4) (A := some ⟨g, o + 4, none⟩) (bs := bs.drop 4) h (by intro h; cases h) (by rw [hl4]; exact src_drop (hb.src w h) rfl (by omega)) (by omega)
    rwa [hl4] at this)
  have HL : Hid (0 + 2 ≤ (bs.drop 4).length) := Lib.hid (by omega)
  have hp : p16 (bs.drop 4) 0 = p16 bs 4 := by unfold p16 byN; simp
  have e0 : udpOk bs = (decide (8 ≤ p16 bs 4) && decide (p16 bs 4 ≤ bs.length)) := by unfold udpOk; rw [decide_eq_true (by omega)]; rfl
  have hl := p16_lt bs 4
  clear h hb h8 hcap hl4 hm
  have HP : Hid (p16 (bs.drop 4) 0 = p16 bs 4) := Lib.hid hp
  clear hp
  by_cases h5 : 8 ≤ p16 bs 4
  · by_cases h4 : p16 bs 4 ≤ bs.length
    · have HE : Hid (udpOk bs = true) := Lib.hid (by rw [e0, decide_eq_true h5, decide_eq_true h4]; rfl)
      generalize p16 bs 4 = n at *
      have q5 : (8 : Int) ≤ (n : Int) := by omega
      have q4 : (n : Int) ≤ (bs.length : Int) := by omega
      clear e0 h5 h4
      go_enter Try.func53, Try.ntmps53
      go_wp2_with fail
      refine K0.out.mono ?_
      rintro e w1 ⟨br, rfl, ho⟩
      have K1 := Lib.hid (o_rd16 (k := 0) ho 0 rfl HL.out)
      rw [HP.out] at K1
      clear ho K0
      go_wp2_with fail
      refine K1.out.mono ?_
      rintro e w2 ⟨rfl, ho⟩
      have G := Lib.hid ho.drop
      clear ho K1
      go_wp2_with fail
      go_ret
      exact ⟨by rw [HE.out]; rfl, G.out⟩
    · have HE : Hid (udpOk bs = false) := Lib.hid (by rw [e0, decide_eq_true h5, decide_eq_false h4]; rfl)
      generalize p16 bs 4 = n at *
      have q5 : (8 : Int) ≤ (n : Int) := by omega
      have q4 : decide ((n : Int) ≤ (bs.length : Int)) = false := decide_eq_false (by omega)
      have q4' : decide (n ≤ bs.length) = false := decide_eq_false (by omega)
      clear e0 h5 h4
      go_enter Try.func53, Try.ntmps53
      go_wp2_with fail
      refine K0.out.mono ?_
      rintro e w1 ⟨br, rfl, ho⟩
      have K1 := Lib.hid (o_rd16 (k := 0) ho 0 rfl HL.out)
      rw [HP.out] at K1
      clear ho K0
      go_wp2_with fail
      refine K1.out.mono ?_
      rintro e w2 ⟨rfl, ho⟩
      have G := Lib.hid ho.drop
      clear ho K1
      go_wp2_with fail
      go_ret
      exact ⟨by rw [HE.out]; rfl, G.out⟩
  · have HE : Hid (udpOk bs = false) := Lib.hid (by rw [e0, decide_eq_false h5]; rfl)
    generalize p16 bs 4 = n at *
    have q5 : decide ((8 : Int) ≤ (n : Int)) = false := decide_eq_false (by omega)
    have q5' : decide (8 ≤ n) = false := decide_eq_false (by omega)
    clear e0 h5
    go_enter Try.func53, Try.ntmps53
    go_wp2_with fail
    refine K0.out.mono ?_
    rintro e w1 ⟨br, rfl, ho⟩
    have K1 := Lib.hid (o_rd16 (k := 0) ho 0 rfl HL.out)
    rw [HP.out] at K1
    clear ho K0
    go_wp2_with fail
    refine K1.out.mono ?_
    rintro e w2 ⟨rfl, ho⟩
    have G := Lib.hid ho.drop
    clear ho K1
    go_wp2_with fail
    go_ret
    exact ⟨by rw [HE.out]; rfl, G.out⟩
theorem o_ipwhole (h : In F0 w0 w R) (a0 a1 a2 a3 a6 a7 a8 a9 a10 off : Int) {fl : Nat} (hf : fl < 8) : Calls Try.prog 51 #[.agg (hC a0 a1 a2 a3 fl off a6 a7 a8 a9 a10)] w fun e w' => e = .returned (.bool (decide ((fl : Int) % 2 = 0) && decide (off = 0))) ∧ In F0 w0 w' R := by
  have G := Lib.hid (h.alloc (.cells (hC a0 a1 a2 a3 fl off a6 a7 a8 a9 a10) 59))
  have q1 : bits .and .i64 (fl : Int) 1 = ((fl % 2 : Nat) : Int) := bits_and_mask fl 1 (by omega) (by omega)
  clear h
  have hx : decide ((fl : Int) % 2 = 0) = decide (fl % 2 = 0) := by
    by_cases h1 : fl % 2 = 0
    · rw [decide_eq_true h1, decide_eq_true (by omega)]
    · rw [decide_eq_false h1, decide_eq_false (by omega)]
  rw [hx]
  clear hx
  generalize fl % 2 = fm at *
  by_cases h1 : fm = 0
  · have q2 : ((fm : Int) == 0) = true := by rw [h1]; rfl
    have e1 : decide (fm = 0) = true := decide_eq_true h1
    by_cases h2 : off = 0
    · have e2 : decide (off = 0) = true := decide_eq_true h2
      have q3 : (off == 0) = true := by rw [h2]; rfl
      rw [e1, e2]
      clear e1 e2 h1 h2
      go_enter Try.func51, Try.ntmps51
      go_wp2_with fail
      go_ret
      exact ⟨rfl, G.out⟩
    · have e2 : decide (off = 0) = false := decide_eq_false h2
      have q3 : (off == 0) = false := beq_eq_false_iff_ne.2 h2
      rw [e1, e2]
      clear e1 e2 h1 h2
      go_enter Try.func51, Try.ntmps51
      go_wp2_with fail
      go_ret
      exact ⟨rfl, G.out⟩
  · have q2 : ((fm : Int) == 0) = false := by rw [beq_eq_false_iff_ne]; omega
    have e1 : decide (fm = 0) = false := decide_eq_false h1
    rw [e1]
    clear e1 h1
    go_enter Try.func51, Try.ntmps51
    go_wp2_with fail
    go_ret
    exact ⟨rfl, G.out⟩
end
end Go.Proofs.Ytgapbecddgfkmaa
