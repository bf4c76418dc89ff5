/- Rows.PathPlaysSaid -/
import Derived.Test.YtgapbecddgfkmaaGreatPY3
import Derived.Laws.Bits64b
import Derived.Test.YtgapbecddgfkmaaGreatPY1
import Derived.DeepKeys4
import Derived.Test.YtgapbecddgfkmaaGreatPY2
namespace Go.Proofs.YtgapbecddgfkmaaGreat
open Go.RowKit
open Go.Maps (Keyed)
set_option linter.unusedVariables false
set_option maxHeartbeats 64000000
set_option maxRecDepth 100000
section
variable {F0 : List Nat} {w0 w : World} {R : List Asrt} {bw : Nat} {l : List UInt8}
def RdA (br : Nat) (l : List UInt8) (e : Int) : Asrt := fun w F => ∃ v, w.heap[br]? = some (.cells #[v, .int .i64 e] 193 (0, 0)) ∧
  ((v = .slice none 0 0 ∧ l = [] ∧ F = [br]) ∨ ∃ g o cap, v = .slice (some ⟨g, o, none⟩) l.length cap ∧ l.length ≤ cap ∧ cap ≤ maxLen ∧ g ≠ br ∧ F = [br, g] ∧ g < w.heap.size ∧ ∀ j u, (u8s l)[j]? = some u → w.cell? ⟨g, o + j, none⟩ = some u)
theorem RdA.framed (br : Nat) (l : List UInt8) (e : Int) : Framed (RdA br l e) := by
  refine ⟨?_, ?_⟩
  · rintro w w' F ⟨v, hb, h⟩ hk
    rcases h with ⟨h1, h2, rfl⟩ | ⟨g, o, cap, h1, h2, h3, h4, rfl, h5, h6⟩
    · exact ⟨v, by rw [hk br (by simp)]; exact hb, Or.inl ⟨h1, h2, rfl⟩⟩
    · have hg := hk g (by simp)
      refine ⟨v, by rw [hk br (by simp)]; exact hb, Or.inr ⟨g, o, cap, h1, h2, h3, h4, rfl, ?_, fun j u hu => by rw [World.cell?_of_block (a := ⟨g, o + j, none⟩) hg]; exact h6 j u hu⟩⟩
      have : w.heap[g]? = some w.heap[g] := Array.getElem?_eq_getElem h5
      exact hp_lt (hg.trans this)
  · rintro w F ⟨v, hb, h⟩ b hbF
    rcases h with ⟨h1, h2, rfl⟩ | ⟨g, o, cap, h1, h2, h3, h4, rfl, h5, h6⟩
    · simp at hbF; subst hbF; exact hp_lt hb
    · simp at hbF
      rcases hbF with rfl | rfl
      · exact hp_lt hb
      · exact h5
def rdTake (l : List UInt8) (e : Int) (n : Nat) : List UInt8 × List UInt8 × Int := if e ≠ 0 then ([], l, e) else if l.length < n then ([], [], 2) else (l.take n, l.drop n, 0)
def TakePost (br : Nat) (t : List UInt8 × List UInt8 × Int) (i : Nat) (F0 : List Nat) (w0 : World) (R : List Asrt) (e : Ending) (w' : World) : Prop :=
  ∃ A c, e = .returned (.slice A t.1.length c) ∧ (A = none → c = 0 ∧ t.1 = []) ∧ Src w' A t.1.length 1 (u8s t.1) ∧ In F0 w0 w' (R.set i (RdA br t.2.1 t.2.2))
theorem run_pre_at (g o : Nat) (n cap i : Nat) (h1 : i ≤ cap) (w : World) : (Instr.slice 35 (.slice (some ⟨g, o, none⟩) n cap) none (some (.int .i64 i)) none).run Tryz.prog w = .ok (.slice (some ⟨g, o, none⟩) i cap) w :=
  run_prefix_at Tryz.underlying35 infoByte g o n cap i h1 w
theorem o_rtake {br : Nat} {e : Int} (h : In F0 w0 w R) (i : Nat) (hA : R[i]? = some (RdA br l e)) (n : Nat) (hn : n ≤ 100000000) :
    Calls Tryz.prog 157 #[.pointer (some ⟨br, 0, none⟩), .int .i64 n] w (TakePost br (rdTake l e n) i F0 w0 R) := by
  have hi := (List.getElem?_eq_some_iff.1 hA).1
  obtain ⟨F, v, hb, hv⟩ := h.get i hA
  have c1 : w.cell? ⟨br, 1, none⟩ = some (.int .i64 e) := cell_of hb rfl
  have c0 : w.cell? ⟨br, 0, none⟩ = some v := cell_of hb rfl
  have f0 : w.frozen? ⟨br, 0, none⟩ = false := free_of hb
  have f1 : w.frozen? ⟨br, 1, none⟩ = false := free_of hb
  by_cases he : e = 0
  · subst he
    by_cases hlt : l.length < n
    · have HE : Hid (TakePost br (rdTake l 0 n) i F0 w0 R (.returned (.slice none 0 0)) ((w.setCell ⟨br, 1, none⟩ (.int .i64 2)).setCell ⟨br, 0, none⟩ (.slice none 0 0))) := Lib.hid (by
        have e1 : rdTake l 0 n = ([], [], 2) := by unfold rdTake; simp [hlt]
        rw [e1]
        refine ⟨none, 0, rfl, fun _ => ⟨rfl, rfl⟩, Src.nil _ _ _, h.step i hA (RdA.framed _ _ _) fun F hF => ?_⟩
        obtain ⟨v', hb', hv'⟩ := hF
        rw [hb] at hb'; cases hb'
        have hbr : br ∈ F := by rcases hv' with ⟨_, _, rfl⟩ | ⟨g, o, cap, _, _, _, _, rfl, _⟩ <;> simp
        refine ⟨[br], ⟨.slice none 0 0, ?_, Or.inl ⟨rfl, rfl, rfl⟩⟩, fun b hb2 => by simp at hb2; subst hb2; exact Or.inl hbr, ?_⟩
        · have := hp_setCell_same (o := 0) (v := .slice none 0 0) (hp_setCell_same (o := 1) (v := .int .i64 2) hb)
          simpa using this
        · exact ((Mod.refl F w).setCell (Or.inl hbr) _).setCell (Or.inl hbr) _)
      have hlen : ∃ a cap, v = .slice a l.length cap := by
        rcases hv with ⟨rfl, rfl, _⟩ | ⟨g, o, cap, rfl, _⟩
        · exact ⟨none, 0, rfl⟩
        · exact ⟨_, _, rfl⟩
      obtain ⟨a, cap, rfl⟩ := hlen
      have d0 : (w.setCell ⟨br, 1, none⟩ (.int .i64 2)).cell? ⟨br, 0, none⟩ = some (.slice a l.length cap) := cell_of (hp_setCell_same (o := 1) (v := .int .i64 2) hb) rfl
      have g0 : (w.setCell ⟨br, 1, none⟩ (.int .i64 2)).frozen? ⟨br, 0, none⟩ = false := free_of (hp_setCell_same (o := 1) (v := .int .i64 2) hb)
      clear h hA hb hv hi
      have hlt' : (l.length : Int) < (n : Int) := by omega
      clear hlt
      go_enter Tryz.func157, Tryz.ntmps157
      go_wp2_with fail
      go_ret
      exact HE.out
    · have e1 : rdTake l 0 n = (l.take n, l.drop n, 0) := by unfold rdTake; simp [hlt]
      have hge : n ≤ l.length := by omega
      rcases hv with ⟨rfl, rfl, _⟩ | ⟨g, o, cap, rfl, h1, h2, h3, rfl, h4, h5⟩
      · obtain rfl : n = 0 := by simpa using hge
        have HE : Hid (TakePost br (rdTake [] 0 0) i F0 w0 R (.returned (.slice none 0 0)) (w.setCell ⟨br, 0, none⟩ (.slice none 0 0))) := Lib.hid (by
          rw [e1]
          refine ⟨none, 0, rfl, fun _ => ⟨rfl, rfl⟩, Src.nil _ _ _, h.step i hA (RdA.framed _ _ _) fun F hF => ?_⟩
          obtain ⟨v', hb', hv'⟩ := hF
          rw [hb] at hb'; cases hb'
          have hbr : br ∈ F := by rcases hv' with ⟨_, _, rfl⟩ | ⟨g, o, cap, _, _, _, _, rfl, _⟩ <;> simp
          refine ⟨[br], ⟨.slice none 0 0, ?_, Or.inl ⟨rfl, rfl, rfl⟩⟩, fun b hb2 => by simp at hb2; subst hb2; exact Or.inl hbr, (Mod.refl F w).setCell (Or.inl hbr) _⟩
          have := hp_setCell_same (o := 0) (v := .slice none 0 0) hb
          simpa using this)
        have r1 : (Instr.slice 35 (.slice none 0 0) none (some (.int .i64 0)) none).run Tryz.prog w = .ok (.slice none 0 0) w := run_prefix_none Tryz.underlying35 infoByte 0 0 0 (Nat.le_refl _) w
        have r2 : (Instr.slice 35 (.slice none 0 0) (some (.int .i64 0)) none none).run Tryz.prog w = .ok (.slice none 0 0) w := run_suffix Tryz.underlying35 infoByte none 0 0 0 (Nat.le_refl _) w
        clear h hA hb hi hlt hge
        go_enter Tryz.func157, Tryz.ntmps157
        go_wp2_with fail
        go_ret
        exact HE.out
      · have HE : Hid (TakePost br (rdTake l 0 n) i F0 w0 R (.returned (.slice (some ⟨g, o, none⟩) n cap)) (w.setCell ⟨br, 0, none⟩ (.slice (sufA (some ⟨g, o, none⟩) cap n 1) (l.length - n : Nat) (cap - n)))) := Lib.hid (by
          rw [e1]
          have hln : (l.take n).length = n := by rw [List.length_take]; omega
          have hset := fun (u : Value) => hp_setCell_same (o := 0) (v := u) hb
          have hoth : ∀ (u : Value) k, (w.setCell ⟨br, 0, none⟩ u).cell? ⟨g, k, none⟩ = w.cell? ⟨g, k, none⟩ := fun u k => World.cell?_of_block (hp_setCell_other (a := ⟨br, 0, none⟩) (v := u) h3)
          refine ⟨some ⟨g, o, none⟩, cap, by rw [hln], (fun e => by cases e), ⟨by rw [u8s_length, Nat.mul_one], fun h0 => ⟨_, rfl, fun j u hu => ?_⟩⟩, h.step i hA (RdA.framed _ _ _) fun F hF => ?_⟩
          · rw [add_at, hoth]
            rw [← u8s_take, List.getElem?_take] at hu
            split at hu
            · exact h5 j u hu
            · cases hu
          · obtain ⟨v', hb', hv'⟩ := hF
            rw [hb] at hb'; cases hb'
            have hFF : F = [br, g] := by
              rcases hv' with ⟨e, _⟩ | ⟨g', o', cap', e, _, _, _, rfl, _⟩
              · cases e
              · simp only [Value.slice.injEq, Option.some.injEq, Addr.mk.injEq] at e; rw [e.1.1]
            subst hFF
            have hcell : ∀ (k j : Nat) (u : Value), (u8s (l.drop n))[j]? = some u → w.cell? ⟨g, o + (n + j), none⟩ = some u := fun k j u hu => by
              rw [← u8s_drop, List.getElem?_drop] at hu
              exact h5 _ u hu
            refine ⟨[br, g], ⟨_, hset _, Or.inr ?_⟩, Grew.refl _ _, (Mod.refl _ w).setCell (Or.inl (by simp)) _⟩
            unfold sufA
            by_cases hc : cap = n
            · refine ⟨g, o, cap - n, by rw [if_pos hc, List.length_drop], by rw [List.length_drop]; omega, by omega, h3, rfl, by simpa using h4, fun j u hu => ?_⟩
              rw [← u8s_drop, List.getElem?_drop] at hu
              have : n + j < (u8s l).length := (List.getElem?_eq_some_iff.1 hu).1
              rw [u8s_length] at this; omega
            · refine ⟨g, o + n, cap - n, by rw [if_neg hc, List.length_drop]; simp [add_at], by rw [List.length_drop]; omega, by omega, h3, rfl, by simpa using h4, fun j u hu => ?_⟩
              rw [hoth, Nat.add_assoc]
              exact hcell 0 j u hu)
        have r1 := run_pre_at g o l.length cap n (by omega) w
        have r2 := run_suffix Tryz.underlying35 infoByte (some ⟨g, o, none⟩) l.length cap n hge w
        have hge' : (n : Int) ≤ (l.length : Int) := by omega
        clear h hA hb hi hlt h5 e1
        generalize sufA (some ⟨g, o, none⟩) cap n 1 = sa at *
        go_enter Tryz.func157, Tryz.ntmps157
        go_wp2_with fail
        go_ret
        exact HE.out
  · have HE : Hid (TakePost br (rdTake l e n) i F0 w0 R (.returned (.slice none 0 0)) w) := Lib.hid (by
      have e1 : rdTake l e n = ([], l, e) := by unfold rdTake; rw [if_pos he]
      rw [e1]
      refine ⟨none, 0, rfl, fun _ => ⟨rfl, rfl⟩, Src.nil _ _ _, ?_⟩
      rwa [set_same hA])
    have q : (e != 0) = true := by rw [bne_iff_ne]; exact he
    clear h hA hb hv hi he
    go_enter Tryz.func157, Tryz.ntmps157
    go_wp2_with fail
    go_ret
    exact HE.out
def NumRel (bs : List UInt8) (n k : Value) : Prop := ∃ i : Nat, i ≤ bs.length ∧ k = .int .i64 i ∧ n = .int .u64 (num (bs.take i))
theorem or_byte {m : Nat} (x : UInt8) (hm : m < 72057594037927936) : bits .or .u64 ((m : Int) * 256) (x.toNat : Int) = ((m * 256 + x.toNat : Nat) : Int) := by
  have hx := x.toNat_lt
  rw [show ((m : Int) * 256) = ((m * 256 : Nat) : Int) by omega]
  rw [bits_or_u64_nat _ _ (by omega) (by omega)]
  congr 1
  have e : m * 256 = m <<< 8 := by rw [Nat.shiftLeft_eq]
  rw [e, ← Nat.shiftLeft_add_eq_or_of_lt (by omega), ← e]
def NumPost (br : Nat) (t : List UInt8 × List UInt8 × Int) (i : Nat) (F0 : List Nat) (w0 : World) (R : List Asrt) (e : Ending) (w' : World) : Prop :=
  e = .returned (.int .u64 (num t.1)) ∧ In F0 w0 w' (R.set i (RdA br t.2.1 t.2.2))
theorem num_take_lt (bs : List UInt8) (i : Nat) (h : bs.length ≤ 8) (hi : i < bs.length) : num (bs.take i) < 72057594037927936 := by
  have h1 := num_lt (bs.take i)
  have h2 : (bs.take i).length ≤ 7 := by rw [List.length_take]; omega
  have h3 : 256 ^ (bs.take i).length ≤ 256 ^ 7 := Nat.pow_le_pow_right (by omega) h2
  omega
theorem rdTake_len (l : List UInt8) (e : Int) (n : Nat) : (rdTake l e n).1.length ≤ n := by
  unfold rdTake; split
  · simp
  · split
    · simp
    · rw [List.length_take]; omega
theorem o_rnum {br : Nat} {e : Int} (h : In F0 w0 w R) (i : Nat) (hA : R[i]? = some (RdA br l e)) (n : Nat) (hn : n ≤ 8) :
    Calls Tryz.prog 138 #[.pointer (some ⟨br, 0, none⟩), .int .i64 n] w (NumPost br (rdTake l e n) i F0 w0 R) := by
  have HC := Lib.hid (o_rtake h i hA n (by omega))
  have hl8 : (rdTake l e n).1.length ≤ 8 := Nat.le_trans (rdTake_len l e n) hn
  clear h hA
  go_enter Tryz.func138, Tryz.ntmps138
  go_wp2_with fail
  refine HC.out.mono ?_
  rintro e' w1 ⟨A, c, rfl, -, hs, ho⟩
  have HF : Hid (NumPost br (rdTake l e n) i F0 w0 R (.returned (.int .u64 (num (rdTake l e n).1))) w1) := Lib.hid ⟨rfl, ho⟩
  have SS := Lib.hid hs
  clear hs ho HC
  generalize (rdTake l e n) = t at *
  obtain ⟨bs, l', e''⟩ := t
  simp only at hl8 SS HF ⊢
  go_wp2_with fail
  go_loop [5, 12] (NumRel bs) (fun _ k => bs.length - (intOf k).toNat)
  case atStart => exact ⟨0, Nat.zero_le _, rfl, rfl⟩
  case round =>
    obtain ⟨j, hj, rfl, rfl⟩ := hrel
    by_cases hlt : j < bs.length
    · obtain ⟨x, hx⟩ : ∃ x, bs[j]? = some x := ⟨bs[j], List.getElem?_eq_getElem hlt⟩
      obtain ⟨ad, rfl, hc⟩ := SS.out.at' (by omega)
      have c0 := hc j (.int .u8 x.toNat) (by simp [u8s, hx])
      have hlt' : (j : Int) < (bs.length : Int) := by omega
      have hm := num_take_lt bs j hl8 hlt
      have HX : Hid (num (bs.take (j + 1)) = num (bs.take j) * 256 + x.toNat) := Lib.hid (by rw [List.take_add_one, hx]; exact num_snoc _ _)
      have hq := or_byte x hm
      have hxl := x.toNat_lt
      clear hx hc
      generalize num (bs.take j) = m at *
      generalize x.toNat = xn at *
      have q1 : IntKind.u64.wrap ((m : Int) * 256) = ((m * 256 : Nat) : Int) := by rw [IntKind.wrap_u64]; omega
      go_wp2_with fail
      go_round
      case rel => exact ⟨j + 1, by omega, by go_num, by rw [HX.out]; go_num⟩
      case measure => simp [intOf]; omega
    · have hjl : j = bs.length := by omega
      subst hjl
      rw [List.take_length]
      go_wp2_with fail
      go_ret
      exact HF.out
section
variable {F0 : List Nat} {w0 w : World} {R : List Asrt} {l : List UInt8} {br : Nat} {e : Int}
theorem num_lt_of {bs : List UInt8} {k : Nat} (h : bs.length ≤ k) : num bs < 256 ^ k := Nat.lt_of_lt_of_le (num_lt bs) (Nat.pow_le_pow_right (by omega) h)
def RdPost (v : Value) (br : Nat) (t : List UInt8 × List UInt8 × Int) (i : Nat) (F0 : List Nat) (w0 : World) (R : List Asrt) (e : Ending) (w' : World) : Prop :=
  e = .returned v ∧ In F0 w0 w' (R.set i (RdA br t.2.1 t.2.2))
theorem o_ru8 (h : In F0 w0 w R) (i : Nat) (hA : R[i]? = some (RdA br l e)) :
    Calls Tryz.prog 139 #[.pointer (some ⟨br, 0, none⟩)] w (RdPost (.int .i64 (num (rdTake l e 1).1)) br (rdTake l e 1) i F0 w0 R) := by
  have HC := Lib.hid (o_rnum h i hA 1 (by omega))
  have hlt := num_lt_of (rdTake_len l e 1)
  clear h hA
  generalize rdTake l e 1 = t at *
  have hlt' : num t.1 < 256 := by simpa using hlt
  clear hlt
  go_enter Tryz.func139, Tryz.ntmps139
  go_wp2_with fail
  refine HC.out.mono ?_
  rintro e' w1 ⟨rfl, ho⟩
  have HO := Lib.hid ho
  clear ho HC
  generalize num t.1 = m at *
  go_wp2_with fail
  go_ret
  exact ⟨rfl, HO.out⟩
theorem o_ru16 (h : In F0 w0 w R) (i : Nat) (hA : R[i]? = some (RdA br l e)) :
    Calls Tryz.prog 111 #[.pointer (some ⟨br, 0, none⟩)] w (RdPost (.int .i64 (num (rdTake l e 2).1)) br (rdTake l e 2) i F0 w0 R) := by
  have HC := Lib.hid (o_rnum h i hA 2 (by omega))
  have hlt := num_lt_of (rdTake_len l e 2)
  clear h hA
  generalize rdTake l e 2 = t at *
  have hlt' : num t.1 < 65536 := by simpa using hlt
  clear hlt
  go_enter Tryz.func111, Tryz.ntmps111
  go_wp2_with fail
  refine HC.out.mono ?_
  rintro e' w1 ⟨rfl, ho⟩
  have HO := Lib.hid ho
  clear ho HC
  generalize num t.1 = m at *
  go_wp2_with fail
  go_ret
  exact ⟨rfl, HO.out⟩
theorem o_ru32 (h : In F0 w0 w R) (i : Nat) (hA : R[i]? = some (RdA br l e)) :
    Calls Tryz.prog 140 #[.pointer (some ⟨br, 0, none⟩)] w (RdPost (.int .u32 (num (rdTake l e 4).1)) br (rdTake l e 4) i F0 w0 R) := by
  have HC := Lib.hid (o_rnum h i hA 4 (by omega))
  have hlt := num_lt_of (rdTake_len l e 4)
  clear h hA
  generalize rdTake l e 4 = t at *
  have hlt' : num t.1 < 4294967296 := by simpa using hlt
  clear hlt
  go_enter Tryz.func140, Tryz.ntmps140
  go_wp2_with fail
  refine HC.out.mono ?_
  rintro e' w1 ⟨rfl, ho⟩
  have HO := Lib.hid ho
  clear ho HC
  generalize num t.1 = m at *
  go_wp2_with fail
  go_ret
  exact ⟨rfl, HO.out⟩
def sig64 (m : Nat) : Int := wrap64 m
theorem o_clone (h : In F0 w0 w R) {A : Option Addr} {c : Nat} {bs : List UInt8} (hn : A = none → c = 0 ∧ bs = []) (hs : Src w A bs.length 1 (u8s bs)) (hl : bs.length ≤ 100000000) :
    Calls Tryz.prog 115 #[.slice A bs.length c] w fun e w' => ∃ v, e = .returned v ∧ In F0 w0 w' (RowA 5 1 v bs.length (u8s bs) :: R) := by
  cases A with
  | none => obtain ⟨rfl, rfl⟩ := hn rfl; exact clone_none h
  | some ad => exact clone_some h hs hl
def endE (l : List UInt8) (e : Int) : Int := if e = 0 then (if l = [] then 0 else 3) else e
theorem rd_of_row {g : Nat} {v : Value} {bs : List UInt8} (h : In F0 w0 w (Cells g #[v, .int .i64 0] 193 :: RowA 5 1 v bs.length (u8s bs) :: R)) : In F0 w0 w (RdA g bs 0 :: R) := by
  have h1 := In.join (A1 := [Cells g #[v, .int .i64 0] 193, RowA 5 1 v bs.length (u8s bs)]) (R := R) h
  refine h1.imp (A' := RdA g bs 0) 0 rfl (RdA.framed _ _ _) fun F hF => ?_
  obtain ⟨F1, F2, ⟨rfl, h2⟩, ⟨F3, F4, h3, rfl, _, rfl⟩, h4, rfl⟩ := hF
  obtain ⟨a, cap, rfl, k1, k2, k3⟩ := h3.shape
  refine ⟨_, h2, ?_⟩
  obtain ⟨h5, h6⟩ := h3
  rcases h6.2 with h7 | ⟨g', c, cur, e, _, hb, _⟩
  · left
    refine ⟨h7.1, List.length_eq_zero_iff.1 h7.2, ?_⟩
    rw [h5, h7.1]; simp [Value.ownBlock]
  · right
    cases e
    refine ⟨g', 0, cap, rfl, k1, k2, ?_, ?_, hp_lt hb, fun j u hu => ?_⟩
    · rintro rfl
      exact h4 g' (by simp) (by rw [h5]; simp [Value.ownBlock])
    · rw [h5]; simp [Value.ownBlock]
    · obtain ⟨b, e, hc⟩ := k3 j u hu
      cases e
      rw [Nat.zero_add]; exact hc
theorem o_rnew (h : In F0 w0 w R) {A : Option Addr} {c : Nat} {bs : List UInt8} (hn : A = none → c = 0 ∧ bs = []) (hs : Src w A bs.length 1 (u8s bs)) (hl : bs.length ≤ 100000000) :
    Calls Tryz.prog 110 #[.slice A bs.length c] w fun e w' => ∃ br, e = .returned (.pointer (some ⟨br, 0, none⟩)) ∧ In F0 w0 w' (RdA br bs 0 :: R) := by
  have HC := Lib.hid (o_clone (c := c) h hn hs hl)
  clear h hn hs
  go_enter Tryz.func110, Tryz.ntmps110
  go_wp2_with fail
  refine HC.out.mono ?_
  rintro e' w1 ⟨v, rfl, ho⟩
  obtain ⟨F, hr⟩ := ho.get 0 rfl
  obtain ⟨a, cap, rfl, -, -, -⟩ := hr.shape
  have h2 := rd_of_row (ho.cells #[.slice a bs.length cap, .int .i64 0] 193)
  have H2 := Lib.hid h2
  clear ho h2 hr HC
  go_wp2_with fail
  go_ret
  exact ⟨_, rfl, H2.out⟩
end
end
structure Bk where
  id : Int
  addr : Int
  weight : Int
deriving DecidableEq, Inhabited
structure Rec where
  kind : Int
  fl : Fl
  gen : Int
  bks : List Bk
  bk : Int
  till : Int
  count : Int
deriving DecidableEq, Inhabited
def zeroT : Tup := ⟨0, 0, 0, 0, 0⟩
def zeroF : Fl := ⟨zeroT, 0, 0, 0⟩
def zeroRec : Rec := ⟨0, zeroF, 0, [], 0, 0, 0⟩
def mayBk (b : Bk) : Bool := decide (0 ≤ b.id ∧ b.id ≤ 65535) && decide (1 ≤ b.weight ∧ b.weight ≤ 10)
def mayRec (r : Rec) : Bool :=
  if r.kind = 1 then decide (MayF r.fl)
  else if r.kind = 2 then decide (MayT r.fl.t)
  else if r.kind = 3 then decide (0 ≤ r.gen ∧ r.gen ≤ 1000000) && (decide (r.bks.length ≤ 16) && r.bks.all mayBk)
  else if r.kind = 4 then decide (0 ≤ r.bk ∧ r.bk ≤ 65535) && decide (0 ≤ r.till ∧ r.till ≤ 1099511627776)
  else if r.kind = 5 then decide (0 ≤ r.bk ∧ r.bk ≤ 65535)
  else if r.kind = 6 then decide (0 ≤ r.count ∧ r.count ≤ 1000000)
  else false
def plainRec (r : Rec) : Rec :=
  if r.kind = 1 then ⟨1, r.fl, 0, [], 0, 0, 0⟩
  else if r.kind = 2 then ⟨2, ⟨r.fl.t, 0, 0, 0⟩, 0, [], 0, 0, 0⟩
  else if r.kind = 3 then ⟨3, zeroF, r.gen, r.bks, 0, 0, 0⟩
  else if r.kind = 4 then ⟨4, zeroF, 0, [], r.bk, r.till, 0⟩
  else if r.kind = 5 then ⟨5, zeroF, 0, [], r.bk, 0, 0⟩
  else if r.kind = 6 then ⟨6, zeroF, 0, [], 0, 0, r.count⟩
  else ⟨r.kind, zeroF, 0, [], 0, 0, 0⟩
def verOk (v : Int) : Bool := decide (1 ≤ v ∧ v ≤ 3)
def inFl (v : Int) (f : Fl) : Fl := ⟨f.t, f.bk, if v < 2 then 0 else f.gen, if v < 3 then 0 else f.seen⟩
def inBk (v : Int) (b : Bk) : Bk := if v < 2 then ⟨b.id, b.addr, 1⟩ else b
def inRec (r : Rec) (v : Int) : Rec :=
  if verOk v = false then zeroRec else
  ⟨(plainRec r).kind, if r.kind = 1 then inFl v (plainRec r).fl else (plainRec r).fl, (plainRec r).gen, (plainRec r).bks.map (inBk v), (plainRec r).bk, (plainRec r).till, (plainRec r).count⟩
def bkB (v : Int) (b : Bk) : List UInt8 := be (u64 b.id) 2 ++ be (u64 b.addr) 4 ++ (if 2 ≤ v then be (u64 b.weight) 1 else [])
def bksB (v : Int) (l : List Bk) : List UInt8 := (l.map (bkB v)).flatten
def recBody (r : Rec) (v : Int) : List UInt8 :=
  if r.kind = 1 then keyL r.fl.t ++ be (u64 r.fl.bk) 2 ++ (if 2 ≤ v then be (u64 r.fl.gen) 4 else []) ++ (if 3 ≤ v then be (u64 r.fl.seen) 8 else [])
  else if r.kind = 2 then keyL r.fl.t
  else if r.kind = 3 then be (u64 r.gen) 4 ++ be (u64 r.bks.length) 1 ++ bksB v r.bks
  else if r.kind = 4 then be (u64 r.bk) 2 ++ be (u64 r.till) 8
  else if r.kind = 5 then be (u64 r.bk) 2
  else if r.kind = 6 then be (u64 r.count) 4
  else []
def encRec (r : Rec) (v : Int) : FrD × Int :=
  if verOk v = false then (zeroFr, 10) else if mayRec r = false then (zeroFr, 1) else (⟨r.kind.toNat, v.toNat, recBody r v⟩, 0)
/-! ### What bytes say -/
abbrev RdS := List UInt8 × Int
def rdN (n : Nat) (s : RdS) : Nat := num (rdTake s.1 s.2 n).1
def rdS (n : Nat) (s : RdS) : RdS := (rdTake s.1 s.2 n).2
def tupAt (s : RdS) : Tup := ⟨rdN 4 s, rdN 4 (rdS 4 s), rdN 1 (rdS 4 (rdS 4 s)), rdN 2 (rdS 1 (rdS 4 (rdS 4 s))), rdN 2 (rdS 2 (rdS 1 (rdS 4 (rdS 4 s))))⟩
def rdTup (s : RdS) : Tup × Bool × RdS :=
  if s.1.length < 13 then (zeroT, false, rdS 13 s)
  else if MayT (tupAt s) then (tupAt s, true, rdS 2 (rdS 2 (rdS 1 (rdS 4 (rdS 4 s)))))
  else (zeroT, false, rdS 2 (rdS 2 (rdS 1 (rdS 4 (rdS 4 s)))))
def rdFl (v : Int) (s : RdS) : Fl × Bool × RdS :=
  let t := rdTup s
  let s1 := rdS 2 t.2.2
  let s2 := if 2 ≤ v then rdS 4 s1 else s1
  let s3 := if 3 ≤ v then rdS 8 s2 else s2
  (⟨t.1, rdN 2 t.2.2, if 2 ≤ v then (rdN 4 s1 : Int) else 0, if 3 ≤ v then sig64 (rdN 8 s2) else 0⟩, t.2.1, s3)
def rdBk (v : Int) (s : RdS) : Bk × RdS :=
  (⟨rdN 2 s, rdN 4 (rdS 2 s), if 2 ≤ v then (rdN 1 (rdS 4 (rdS 2 s)) : Int) else 1⟩, if 2 ≤ v then rdS 1 (rdS 4 (rdS 2 s)) else rdS 4 (rdS 2 s))
def rdBks (v : Int) : Nat → RdS → List Bk × RdS
  | 0, s => ([], s)
  | n + 1, s => ((rdBks v n s).1 ++ [(rdBk v (rdBks v n s).2).1], (rdBk v (rdBks v n s).2).2)
def rdRec (kind v : Int) (s : RdS) : Rec × Bool × RdS :=
  if kind = 1 then (⟨1, (rdFl v s).1, 0, [], 0, 0, 0⟩, (rdFl v s).2.1, (rdFl v s).2.2)
  else if kind = 2 then (⟨2, ⟨(rdTup s).1, 0, 0, 0⟩, 0, [], 0, 0, 0⟩, (rdTup s).2.1, (rdTup s).2.2)
  else if kind = 3 then
    let b := rdBks v (min (rdN 1 (rdS 4 s)) 17) (rdS 1 (rdS 4 s))
    (⟨3, zeroF, rdN 4 s, b.1, 0, 0, 0⟩, true, b.2)
  else if kind = 4 then (⟨4, zeroF, 0, [], rdN 2 s, sig64 (rdN 8 (rdS 2 s)), 0⟩, true, rdS 8 (rdS 2 s))
  else if kind = 5 then (⟨5, zeroF, 0, [], rdN 2 s, 0, 0⟩, true, rdS 2 s)
  else if kind = 6 then (⟨6, zeroF, 0, [], 0, 0, rdN 4 s⟩, true, rdS 4 s)
  else (⟨kind, zeroF, 0, [], 0, 0, 0⟩, true, s)
def decRec (f : FrD) : Rec × Int :=
  if verOk f.ver = false then (zeroRec, 10)
  else
    let r := rdRec f.kind f.ver (f.body, 0)
    if r.2.1 = true ∧ endE r.2.2.1 r.2.2.2 = 0 ∧ mayRec r.1 = true then (r.1, 0) else (zeroRec, 3)
/-! ### Its numbers fit their types -/
structure WfBk (b : Bk) : Prop where
  i0 : -9223372036854775808 ≤ b.id
  i1 : b.id < 9223372036854775808
  a0 : 0 ≤ b.addr
  a1 : b.addr < 4294967296
  w0 : -9223372036854775808 ≤ b.weight
  w1 : b.weight < 9223372036854775808
structure WfR (r : Rec) : Prop where
  t : WfT r.fl.t
  addr : ∀ b ∈ r.bks, 0 ≤ b.addr ∧ b.addr < 4294967296
/-! ### Laws -/
structure StD where
  gen : Int
  bks : List Bk
  drs : List (Int × Int)
  fls : List Fl
deriving DecidableEq, Inhabited
def zeroSt : StD := ⟨0, [], [], []⟩
def upId : List Bk → Bool
  | a :: b :: r => decide (a.id < b.id) && upId (b :: r)
  | _ => true
def gensMay (l : List Bk) : Bool := decide (l.length ≤ 16) && (l.all mayBk && upId l)
def stPutF (f : Fl) : List Fl → List Fl
  | [] => [f]
  | x :: r => if ltT x.t f.t = true then x :: stPutF f r else if ltT f.t x.t = true then f :: x :: r else f :: r
def stDelF (t : Tup) (L : List Fl) : List Fl := L.filter (fun x => decide (x.t ≠ t))
def stHasF (t : Tup) (L : List Fl) : Bool := L.any (fun x => decide (x.t = t))
def stPutD (b u : Int) : List (Int × Int) → List (Int × Int)
  | [] => [(b, u)]
  | x :: r => if x.1 < b then x :: stPutD b u r else if b < x.1 then (b, u) :: x :: r else (b, u) :: r
def stDelD (b : Int) (L : List (Int × Int)) : List (Int × Int) := L.filter (fun x => decide (x.1 ≠ b))
def stHasD (b : Int) (L : List (Int × Int)) : Bool := L.any (fun x => decide (x.1 = b))
def fullSt (s : StD) (r : Rec) : Bool :=
  if r.kind = 1 then !stHasF r.fl.t s.fls && decide (256 ≤ s.fls.length)
  else if r.kind = 4 then !stHasD r.bk s.drs && decide (16 ≤ s.drs.length)
  else false
def badSt (r : Rec) : Bool := !mayRec r || (decide (r.kind = 6) || (decide (r.kind = 3) && !gensMay r.bks))
def doSt (s : StD) (r : Rec) : StD :=
  if r.kind = 1 then { s with fls := stPutF r.fl s.fls }
  else if r.kind = 2 then { s with fls := stDelF r.fl.t s.fls }
  else if r.kind = 3 then { s with gen := r.gen, bks := r.bks }
  else if r.kind = 4 then { s with drs := stPutD r.bk r.till s.drs }
  else if r.kind = 5 then { s with drs := stDelD r.bk s.drs }
  else s
def applySt (s : StD) (r : Rec) : StD × Int :=
  if badSt r = true then (s, 1) else if fullSt s r = true then (s, 9) else (doSt s r, 0)
def recGen (s : StD) : Rec := ⟨3, zeroF, s.gen, s.bks, 0, 0, 0⟩
def recDr (d : Int × Int) : Rec := ⟨4, zeroF, 0, [], d.1, d.2, 0⟩
def recFl (f : Fl) : Rec := ⟨1, f, 0, [], 0, 0, 0⟩
def recsSt (s : StD) : List Rec := recGen s :: (s.drs.map recDr ++ s.fls.map recFl)
def applyAll : List Rec → StD → StD × Int
  | [], s => (s, 0)
  | r :: l, s => if (applySt s r).2 ≠ 0 then applySt s r else applyAll l (applySt s r).1
def ofSt (v : StD) : Option StD × Int :=
  if (applyAll (recsSt v) zeroSt).2 ≠ 0 then (none, (applyAll (recsSt v) zeroSt).2)
  else if (applyAll (recsSt v) zeroSt).1 = v then (some v, 0) else (none, 1)
def inSt (v : Int) (s : StD) : StD := ⟨s.gen, s.bks.map (inBk v), s.drs, s.fls.map (inFl v)⟩
def rdFr (s : StD) (f : FrD) : StD × Int := if (decRec f).2 ≠ 0 ∨ (decRec f).1.kind = 6 then (s, 3) else applySt s (decRec f).1
def rdAll : List FrD → StD → StD × Int
  | [], s => (s, 0)
  | f :: l, s => if (rdFr s f).2 ≠ 0 then rdFr s f else rdAll l (rdFr s f).1
def SrtF (L : List Fl) : Prop := L.Pairwise (fun x y => ltT x.t y.t = true)
def SrtD (L : List (Int × Int)) : Prop := L.Pairwise (fun x y => x.1 < y.1)
structure OkSt (s : StD) : Prop where
  g0 : 0 ≤ s.gen
  g1 : s.gen ≤ 1000000
  bks : gensMay s.bks = true
  addr : ∀ b ∈ s.bks, 0 ≤ b.addr ∧ b.addr < 4294967296
  dsort : SrtD s.drs
  dmay : ∀ d ∈ s.drs, (0 ≤ d.1 ∧ d.1 ≤ 65535) ∧ 0 ≤ d.2 ∧ d.2 ≤ 1099511627776
  dlen : s.drs.length ≤ 16
  fsort : SrtF s.fls
  fwf : ∀ f ∈ s.fls, WfT f.t
  fmay : ∀ f ∈ s.fls, MayF f
  flen : s.fls.length ≤ 256
/-! ### Flows by tuple -/
/-! ### Drains by number -/
/-! ### A record applied -/
/-! ### A state made anew -/
/-! ### A log read -/
def mayM (n : Int) : Bool := decide (3 ≤ n ∧ n ≤ 251) && (List.range 16).all (fun i => decide (i < 2) || (decide (n < (i : Int) * i) || decide (n % i ≠ 0)))
def idB (id : Int) : List UInt8 := be (u64 id) 4
def firstN (id : Int) (m : Nat) : Nat := mixN 1 (idB id) % m
def skipN (id : Int) (m : Nat) : Nat := mixN 2 (idB id) % (m - 1) + 1
structure MRow where
  id : Int
  at' : Nat
  skip : Nat
deriving DecidableEq, Inhabited
def goFree (t : List Int) (skip : Nat) : Nat → Nat → Nat
  | 0, a => a
  | f + 1, a => if t.getD a 0 = -1 then a else goFree t skip f ((a + skip) % t.length)
def freeAt (t : List Int) (r : MRow) : Nat := goFree t r.skip t.length r.at'
def nextT (t : List Int) (r : MRow) : List Int := t.set (freeAt t r) r.id
def nextR (t : List Int) (r : MRow) : MRow := ⟨r.id, freeAt t r, r.skip⟩
def rowsM (l : List Bk) (m : Nat) : List MRow := l.map (fun b => ⟨b.id, firstN b.id m, skipN b.id m⟩)
def takesM : List Bk → Nat → List Nat
  | [], _ => []
  | b :: r, k => List.replicate b.weight.toNat k ++ takesM r (k + 1)
def stepM (ks : List Nat) (s : List Int × List MRow) (i : Nat) : List Int × List MRow :=
  let k := ks.getD (i % ks.length) 0
  let r := s.2.getD k default
  (nextT s.1 r, s.2.set k (nextR s.1 r))
def fillM (ks : List Nat) (m : Nat) (rs : List MRow) (n : Nat) : List Int × List MRow := (List.range n).foldl (stepM ks) (List.replicate m (-1), rs)
theorem fillM_succ (ks : List Nat) (m : Nat) (rs : List MRow) (n : Nat) : fillM ks m rs (n + 1) = stepM ks (fillM ks m rs n) n := by simp [fillM, List.range_succ]
def mayL (l : List Bk) : Bool := decide (l ≠ []) && gensMay l
def tableM (l : List Bk) (m : Nat) : List Int := if mayL l = true then (fillM (takesM l 0) m (rowsM l m) m).1 else List.replicate m (-1)
structure ChD where
  slots : Nat
  l : List Bk
  t : List Int
  made : Int
deriving DecidableEq, Inhabited
def newCh (m : Nat) : ChD := ⟨m, [], List.replicate m (-1), 0⟩
def withoutL (p : Int → Bool) (l : List Bk) : List Bk := l.filter (fun b => !p b.id)
def setCh (c : ChD) (l : List Bk) (p : Int → Bool) : ChD × Int := if gensMay l = true then (⟨c.slots, l, tableM (withoutL p l) c.slots, c.made + 1⟩, 0) else (c, 1)
def findBk (l : List Bk) (id : Int) : Option Bk := l.find? (fun b => b.id == id)
def hashT (k : Tup) : Nat := mixN 0 (keyL k)
def pickCh (c : ChD) (k : Tup) : Option Bk := if MayT k then findBk c.l (c.t.getD (hashT k % c.slots) 0) else none
def Cov (m skip : Nat) : Prop := ∀ a, a < m → ∀ p, p < m → ∃ k, k < m ∧ (a + k * skip) % m = p
theorem goFree_spec {t : List Int} {skip : Nat} (hm : 0 < t.length) : ∀ (k f a : Nat), k < f → t.getD ((a + k * skip) % t.length) 0 = -1 → a < t.length →
    ∃ j, j ≤ k ∧ goFree t skip f a = (a + j * skip) % t.length ∧ (∀ i, i < j → t.getD ((a + i * skip) % t.length) 0 ≠ -1) ∧ t.getD ((a + j * skip) % t.length) 0 = -1
  | k, 0, a, h, _, _ => by omega
  | k, f + 1, a, h, hk, ha => by
    by_cases h0 : t.getD a 0 = -1
    · refine ⟨0, Nat.zero_le _, ?_, fun i hi => by omega, ?_⟩
      · rw [goFree, if_pos h0]; simp [Nat.mod_eq_of_lt ha]
      · rw [Nat.zero_mul, Nat.add_zero, Nat.mod_eq_of_lt ha]; exact h0
    · have e : ∀ j, ((a + skip) % t.length + j * skip) % t.length = (a + (j + 1) * skip) % t.length := fun j => by
        rw [Nat.mod_add_mod, Nat.add_mul, Nat.one_mul, Nat.add_assoc, Nat.add_comm skip]
      match k, hk with
      | 0, hk => rw [Nat.zero_mul, Nat.add_zero, Nat.mod_eq_of_lt ha] at hk; exact absurd hk h0
      | k + 1, hk =>
        obtain ⟨j, j1, j2, j3, j4⟩ := goFree_spec hm k f ((a + skip) % t.length) (by omega) (by rw [e]; exact hk) (Nat.mod_lt _ hm)
        refine ⟨j + 1, by omega, ?_, fun i hi => ?_, ?_⟩
        · rw [goFree, if_neg h0, j2, e]
        · match i with
          | 0 => rw [Nat.zero_mul, Nat.add_zero, Nat.mod_eq_of_lt ha]; exact h0
          | i + 1 => have := j3 i (by omega); rwa [e] at this
        · rw [← e]; exact j4
theorem laidOutT : laidOutB Tryz.prog = true := by kernel_rfl
theorem tupLaw : Keyed Tryz.prog 24 := Keyed.of_law (deep_law_laid laidOutT (m := 3) (by omega) (of_decide_eq_true (by kernel_rfl)) (by kernel_rfl) (by kernel_rfl))
theorem wf_u32 {n : Int} (h0 : 0 ≤ n) (h1 : n < 4294967296) : (Lit.int .u32 n).wf = true := by
  simp [Lit.wf, IntKind.min, IntKind.max, IntKind.signed, IntKind.bits]; omega
theorem wf_i64 {n : Int} (h0 : -9223372036854775808 ≤ n) (h1 : n ≤ 9223372036854775807) : (Lit.int .i64 n).wf = true := by
  simp [Lit.wf, IntKind.min, IntKind.max, IntKind.signed, IntKind.bits]; omega
theorem keyOf_five {P : Program} {T tu ti : TypeId} {f0 f1 f2 f3 f4 : Field} (hu : P.underlying T = some (.struct #[f0, f1, f2, f3, f4])) (u1 : P.underlying tu = some (.int .u32)) (u2 : P.underlying ti = some (.int .i64))
    (e0 : f0.type = tu ∧ f0.offset = 0) (e1 : f1.type = tu ∧ f1.offset = 1) (e2 : f2.type = ti ∧ f2.offset = 2) (e3 : f3.type = ti ∧ f3.offset = 3) (e4 : f4.type = ti ∧ f4.offset = 4)
    (hn : #[f0, f1, f2, f3, f4].all (·.name != "_") = true) (c1 : P.cellsOf tu = 1) (c2 : P.cellsOf ti = 1) (c3 : P.cellsOf T = 5) (k1 : P.keyType T = true) (hs : 0 < P.types.size)
    {a b c d e : Int} (w1 : (Lit.int .u32 a).wf = true) (w2 : (Lit.int .u32 b).wf = true) (w3 : (Lit.int .i64 c).wf = true) (w4 : (Lit.int .i64 d).wf = true) (w5 : (Lit.int .i64 e).wf = true) :
    ∃ l, keyOf P T (.agg #[.int .u32 a, .int .u32 b, .int .i64 c, .int .i64 d, .int .i64 e]) = some l := by
  obtain ⟨m, hm⟩ : ∃ m, P.types.size = m + 1 := ⟨P.types.size - 1, by omega⟩
  unfold keyOf
  rw [hu]
  simp only [k1, Value.formed, hu, c3, hm, Program.keyLits, Value.cells, List.size_toArray, List.length_cons, List.length_nil, Nat.zero_add, Nat.reduceAdd, beq_self_eq_true, Bool.and_self, if_true, and_self,
    List.mapM_cons, List.mapM_nil, e0, e1, e2, e3, e4, c1, c2, u1, u2, w1, w2, w3, w4, w5, List.drop, List.take]
  rw [if_pos ⟨trivial, hn⟩]
  exact ⟨_, rfl⟩
theorem keyOf_tup {t : Tup} (h : WfT t) : ∃ l, keyOf Tryz.prog 24 (.agg (encT t)) = some l :=
  keyOf_five Tryz.underlying24 Tryz.underlying22 Tryz.underlying3 ⟨rfl, rfl⟩ ⟨rfl, rfl⟩ ⟨rfl, rfl⟩ ⟨rfl, rfl⟩ ⟨rfl, rfl⟩ (by decide +kernel) (by kernel_rfl) (by kernel_rfl) (by kernel_rfl) (by kernel_rfl) (of_decide_eq_true (by kernel_rfl))
    (wf_u32 h.s0 h.s1) (wf_u32 h.d0 h.d1) (wf_i64 h.p0 h.p1) (wf_i64 h.sp0 h.sp1) (wf_i64 h.dp0 h.dp1)
section
variable {α : Type} {P : Program} {kt : TypeId} {ek ev : α → Value}
def tabR (ek ev : α → Value) (L : List α) (k v : Value) : Prop := ∃ x ∈ L, k = ek x ∧ v = ev x
def TabA (P : Program) (kt : TypeId) (ek ev : α → Value) (b : Nat) (L : List α) : Asrt := fun w F => F = [b] ∧ MapR P kt w b (tabR ek ev L) L.length
theorem TabA.framed (b : Nat) (L : List α) : Framed (TabA P kt ek ev b L) :=
  ⟨fun h hk => ⟨h.1, h.2.keep (hk b (by rw [h.1]; simp))⟩, fun h b' hb => by rw [h.1] at hb; simp at hb; subst hb; exact h.2.lt⟩
theorem TabA.perm {b : Nat} {L L' : List α} {w : World} {F : List Nat} (h : TabA P kt ek ev b L w F) (hp : L'.Perm L) : TabA P kt ek ev b L' w F :=
  ⟨h.1, by rw [hp.length_eq]; exact h.2.congr (fun k v => ⟨fun ⟨x, hx, e⟩ => ⟨x, hp.mem_iff.1 hx, e⟩, fun ⟨x, hx, e⟩ => ⟨x, hp.mem_iff.2 hx, e⟩⟩)⟩
theorem strike_length {p : α → Bool} {key : Value} : ∀ {L : List α}, (L.map ek).Nodup → (∀ x ∈ L, p x = true ↔ ek x ≠ key) →
    ((∃ x ∈ L, ek x = key) → (L.filter p).length + 1 = L.length) ∧ ((∀ x ∈ L, ek x ≠ key) → L.filter p = L)
  | [], _, _ => ⟨fun ⟨x, hx, _⟩ => by simp at hx, fun _ => rfl⟩
  | y :: r, hn, hp => by
    obtain ⟨n1, n2⟩ := List.nodup_cons.1 hn
    obtain ⟨i1, i2⟩ := strike_length n2 (fun x hx => hp x (List.mem_cons_of_mem _ hx))
    have hy := hp y (by simp)
    constructor
    · rintro ⟨x, hx, e⟩
      by_cases hye : ek y = key
      · have : p y = false := by
          cases h : p y with
          | false => rfl
          | true => exact absurd hye (hy.1 h)
        have hr : r.filter p = r := i2 (fun z hz e2 => n1 (by rw [hye, ← e2]; exact List.mem_map_of_mem hz))
        rw [List.filter_cons, if_neg (by simp [this]), hr]; rfl
      · have : p y = true := hy.2 hye
        have hx' : x ∈ r := by
          rcases List.mem_cons.1 hx with rfl | hx
          · exact absurd e hye
          · exact hx
        rw [List.filter_cons, if_pos this, List.length_cons, List.length_cons, i1 ⟨x, hx', e⟩]
    · intro h
      rw [List.filter_cons, if_pos (hy.2 (h y (by simp))), i2 (fun x hx => h x (List.mem_cons_of_mem _ hx))]
variable {F0 : List Nat} {w0 w : World} {R : List Asrt} {b : Nat} {L : List α} {mt et : TypeId} {key : Value} {kl : Lit}
theorem tab_look (h : In F0 w0 w R) (i : Nat) (hA : R[i]? = some (TabA P kt ek ev b L)) (K : Keyed P kt) (hmt : P.underlying mt = some (.map kt et)) {z : Value} (hz : (zeroValue et).run P w = .ok z w) (hkey : keyOf P kt key = some kl) (c : Bool) :
    (∃ x ∈ L, ek x = key ∧ (Instr.lookup mt (.map (some b)) key c).run P w = .ok (if c then .tuple #[ev x, .bool true] else ev x) w) ∨
    ((∀ x ∈ L, ek x ≠ key) ∧ (Instr.lookup mt (.map (some b)) key c).run P w = .ok (if c then .tuple #[z, .bool false] else z) w) := by
  obtain ⟨F, _, hm⟩ := h.get i hA
  rcases hm.look K hmt hz hkey c with ⟨v, ⟨x, hx, e1, rfl⟩, hr⟩ | ⟨hn, hr⟩
  · exact Or.inl ⟨x, hx, e1.symm, hr⟩
  · exact Or.inr ⟨fun x hx e => hn (ev x) ⟨x, hx, e.symm, rfl⟩, hr⟩
theorem tab_put (h : In F0 w0 w R) (i : Nat) (hA : R[i]? = some (TabA P kt ek ev b L)) (K : Keyed P kt) (hmt : P.underlying mt = some (.map kt et)) (y : α) (hkey : keyOf P kt (ek y) = some kl) (hn : (L.map ek).Nodup) (p : α → Bool) (hp : ∀ x ∈ L, p x = true ↔ ek x ≠ ek y) :
    ∃ w', (Instr.mapUpdate mt (.map (some b)) (ek y) (ev y)).run P w = .ok () w' ∧ Turn b w w' ∧ In F0 w0 w' (R.set i (TabA P kt ek ev b (y :: L.filter p))) := by
  obtain ⟨F, _, hm⟩ := h.get i hA
  obtain ⟨w', hr, ht, hc⟩ := hm.put K hmt (val := ev y) hkey
  obtain ⟨s1, s2⟩ := strike_length hn hp
  have hR : ∀ k v, tabR ek ev (y :: L.filter p) k v ↔ (k = ek y ∧ v = ev y) ∨ (k ≠ ek y ∧ tabR ek ev L k v) := by
    intro k v
    constructor
    · rintro ⟨x, hx, rfl, rfl⟩
      rcases List.mem_cons.1 hx with rfl | hx
      · exact Or.inl ⟨rfl, rfl⟩
      · obtain ⟨hx, hpx⟩ := List.mem_filter.1 hx
        exact Or.inr ⟨(hp x hx).1 hpx, x, hx, rfl, rfl⟩
    · rintro (⟨rfl, rfl⟩ | ⟨hne, x, hx, rfl, rfl⟩)
      · exact ⟨y, by simp, rfl, rfl⟩
      · exact ⟨x, List.mem_cons_of_mem _ (List.mem_filter.2 ⟨hx, (hp x hx).2 hne⟩), rfl, rfl⟩
  refine ⟨w', hr, ht, h.step i hA (TabA.framed _ _) fun F hF => ⟨F, ⟨hF.1, ?_⟩, Grew.refl _ _, ?_⟩⟩
  · rcases hc with ⟨⟨v, x, hx, e, _⟩, hc⟩ | ⟨hno, hc⟩
    · rw [List.length_cons, s1 ⟨x, hx, e.symm⟩]
      exact hc.congr hR
    · have : L.filter p = L := s2 (fun x hx e => hno (ev x) ⟨x, hx, e.symm, rfl⟩)
      rw [this] at hR ⊢
      exact hc.congr hR
  · rw [hF.1]; exact ht.mod
theorem tab_del (h : In F0 w0 w R) (i : Nat) (hA : R[i]? = some (TabA P kt ek ev b L)) (K : Keyed P kt) (hmt : P.underlying mt = some (.map kt et)) (hkey : keyOf P kt key = some kl) (hn : (L.map ek).Nodup) (p : α → Bool) (hp : ∀ x ∈ L, p x = true ↔ ek x ≠ key) (k2 ty : TypeId) :
    ∃ w', (Builtin.delete_ #[mt, k2] ty #[.map (some b), key]).run P w = .ok (.tuple #[]) w' ∧ Turn b w w' ∧ In F0 w0 w' (R.set i (TabA P kt ek ev b (L.filter p))) := by
  obtain ⟨F, _, hm⟩ := h.get i hA
  obtain ⟨w', hr, ht, hc⟩ := hm.del K hmt hkey k2 ty
  obtain ⟨s1, s2⟩ := strike_length hn hp
  have hR : ∀ k v, tabR ek ev (L.filter p) k v ↔ (k ≠ key ∧ tabR ek ev L k v) := by
    intro k v
    constructor
    · rintro ⟨x, hx, rfl, rfl⟩
      obtain ⟨hx, hpx⟩ := List.mem_filter.1 hx
      exact ⟨(hp x hx).1 hpx, x, hx, rfl, rfl⟩
    · rintro ⟨hne, x, hx, rfl, rfl⟩
      exact ⟨x, List.mem_filter.2 ⟨hx, (hp x hx).2 hne⟩, rfl, rfl⟩
  refine ⟨w', hr, ht, h.step i hA (TabA.framed _ _) fun F hF => ⟨F, ⟨hF.1, ?_⟩, Grew.refl _ _, ?_⟩⟩
  · rcases hc with ⟨⟨v, x, hx, e, _⟩, hc, _⟩ | ⟨hno, hc⟩
    · have e2 := s1 ⟨x, hx, e.symm⟩
      have e3 : (L.filter p).length = L.length - 1 := by omega
      rw [e3]
      exact hc.congr hR
    · have : L.filter p = L := s2 (fun x hx e => hno (ev x) ⟨x, hx, e.symm, rfl⟩)
      rw [this] at hR ⊢
      exact hc.congr hR
  · rw [hF.1]; exact ht.mod
theorem tab_len (h : In F0 w0 w R) (i : Nat) (hA : R[i]? = some (TabA P kt ek ev b L)) (hmt : P.underlying mt = some (.map kt et)) (ty : TypeId) : (Builtin.len_ #[mt] ty #[.map (some b)]).run P w = .ok (.int .i64 L.length) w := by
  obtain ⟨F, _, hm⟩ := h.get i hA
  exact hm.len hmt ty
theorem tab_make (h : In F0 w0 w R) (P : Program) (kt : TypeId) (ek ev : α → Value) : In F0 w0 (w.alloc (.map #[] 0)) (TabA P kt ek ev w.heap.size [] :: R) := by
  obtain ⟨F, hs, hF⟩ := h.star
  have fr := Framed.star h.framed
  refine ⟨fun B hB => ?_, ⟨[w.heap.size] ++ F, ⟨[w.heap.size], F, ⟨rfl, (map_made P kt w).congr (fun k v => by simp [tabR])⟩, fr.keep hs (fun b hb => hp_alloc_old (fr.lt hs b hb)), ?_, rfl⟩, ?_⟩, h.mod.alloc _⟩
  · rcases List.mem_cons.1 hB with rfl | hB
    · exact TabA.framed _ _
    · exact h.framed B hB
  · intro b hb hbF
    simp at hb; subst hb
    exact absurd (fr.lt hs _ hbF) (by omega)
  · intro b hb
    simp at hb
    rcases hb with rfl | hb
    · exact Or.inr h.mod.size
    · exact hF b hb
theorem tab_perm (h : In F0 w0 w R) (i : Nat) (hA : R[i]? = some (TabA P kt ek ev b L)) {L' : List α} (hp : L'.Perm L) : In F0 w0 w (R.set i (TabA P kt ek ev b L')) :=
  h.imp i hA (TabA.framed _ _) fun F hF => hF.perm hp
end
end Go.Proofs.YtgapbecddgfkmaaGreat
