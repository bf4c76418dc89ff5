/- Frames: bytes with a head and sums, as plain lists. -/
import Derived.Test.YtogclkhpbjfadaaGreatOct
namespace Go.Proofs.YtogclkhpbjfadaaGreat
open Go.RowKit
set_option linter.unusedVariables false
set_option maxRecDepth 100000

/-- CRC-32C. -/
def crcBit (c : Nat) : Nat := if c % 2 = 1 then (c / 2) ^^^ 0x82f63b78 else c / 2
def crcBits : Nat → Nat → Nat
  | 0, c => c
  | n + 1, c => crcBits n (crcBit c)
def crcByte (c : Nat) (x : UInt8) : Nat := crcBits 8 (c ^^^ x.toNat)
def crcFrom (c : Nat) (b : List UInt8) : Nat := b.foldl crcByte c
def crc (b : List UInt8) : Nat := (crcFrom 0xffffffff b) ^^^ 0xffffffff

theorem xor_lt32 {a b : Nat} (ha : a < 4294967296) (hb : b < 4294967296) : a ^^^ b < 4294967296 :=
  Nat.xor_lt_two_pow (n := 32) ha hb
theorem crcBit_lt {c : Nat} (h : c < 4294967296) : crcBit c < 4294967296 := by
  unfold crcBit; split
  · exact xor_lt32 (by omega) (by omega)
  · omega
theorem crcBits_lt : ∀ (n : Nat) {c : Nat}, c < 4294967296 → crcBits n c < 4294967296
  | 0, _, h => h
  | n + 1, _, h => crcBits_lt n (crcBit_lt h)
theorem crcByte_lt {c : Nat} (h : c < 4294967296) (x : UInt8) : crcByte c x < 4294967296 :=
  crcBits_lt 8 (xor_lt32 h (by have := x.toNat_lt; omega))
theorem crcFrom_lt : ∀ (b : List UInt8) {c : Nat}, c < 4294967296 → crcFrom c b < 4294967296
  | [], _, h => h
  | x :: r, _, h => crcFrom_lt r (crcByte_lt h x)
theorem crc_lt (b : List UInt8) : crc b < 4294967296 := xor_lt32 (crcFrom_lt b (by omega)) (by omega)
theorem crcBits_succ : ∀ (n c : Nat), crcBits (n + 1) c = crcBit (crcBits n c)
  | 0, _ => rfl
  | n + 1, c => crcBits_succ n (crcBit c)
theorem crcFrom_snoc (c : Nat) (b : List UInt8) (x : UInt8) : crcFrom c (b ++ [x]) = crcByte (crcFrom c b) x := by simp [crcFrom]

/-- The number of bytes, the highest first. -/
def num (b : List UInt8) : Nat := b.foldl (fun n x => n * 256 + x.toNat) 0
theorem num_snoc (b : List UInt8) (x : UInt8) : num (b ++ [x]) = num b * 256 + x.toNat := by simp [num]
theorem num_lt : ∀ (b : List UInt8), num b < 256 ^ b.length := by
  intro b
  suffices h : ∀ (l : List UInt8) (a : Nat), l.foldl (fun n x => n * 256 + x.toNat) a < (a + 1) * 256 ^ l.length by
    have := h b 0; simpa [num] using this
  intro l
  induction l with
  | nil => intro a; simp
  | cons x r ih =>
    intro a
    have := ih (a * 256 + x.toNat)
    have hx := x.toNat_lt
    rw [List.foldl_cons, List.length_cons, Nat.pow_succ]
    refine Nat.lt_of_lt_of_le this ?_
    rw [Nat.mul_comm (256 ^ r.length), ← Nat.mul_assoc]
    exact Nat.mul_le_mul_right _ (by omega)
theorem num_beTo (n width : Nat) : ∀ i, i ≤ width → num (beTo n width i) = n / 256 ^ (width - i) % 256 ^ i
  | 0, _ => by simp [beTo, num, Nat.mod_one]
  | i + 1, h => by
    rw [beTo_succ, num_snoc, num_beTo n width i (by omega)]
    have e1 : width - i = (width - 1 - i) + 1 := by omega
    have e2 : width - (i + 1) = width - 1 - i := by omega
    rw [e2, e1, Nat.pow_succ, ← Nat.div_div_eq_div_mul]
    generalize n / 256 ^ (width - 1 - i) = m
    rw [Nat.pow_succ, Nat.mul_comm (256 ^ i), Nat.mod_mul, show (UInt8.ofNat m).toNat = m % 256 by simp]
    omega
theorem num_be {n width : Nat} (h : n < 256 ^ width) : num (be n width) = n := by
  unfold be
  rw [num_beTo n width width (Nat.le_refl _)]
  simp [Nat.mod_eq_of_lt h]
theorem be_length (n width : Nat) : (be n width).length = width := beTo_length _ _ _

structure FrD where
  kind : Nat
  ver : Nat
  body : List UInt8
deriving DecidableEq, Inhabited

def mark : List UInt8 := [103, 111, 105, 116]
def frHead (k v n : Nat) : List UInt8 := mark ++ be k 1 ++ be v 1 ++ be n 2
def frBytes (f : FrD) : List UInt8 := frHead f.kind f.ver f.body.length ++ be (crc (frHead f.kind f.ver f.body.length)) 4 ++ be (crc f.body) 4 ++ f.body
structure FrOk (f : FrD) : Prop where
  kind : f.kind < 256
  ver : f.ver < 256
  body : f.body.length ≤ 4096
theorem frHead_length (k v n : Nat) : (frHead k v n).length = 8 := by simp [frHead, mark, be_length]
theorem frBytes_length (f : FrD) : (frBytes f).length = 16 + f.body.length := by simp [frBytes, frHead_length, be_length]; omega

def zeroFr : FrD := ⟨0, 0, []⟩
/-- The frame that bytes begin with. -/
def frTake (b : List UInt8) : FrD × Nat × Int :=
  if b.length < 16 then (zeroFr, 0, 2)
  else if b.take 4 ≠ mark then (zeroFr, 0, 3)
  else if num ((b.drop 8).take 4) ≠ crc (b.take 8) then (zeroFr, 0, 5)
  else if 4096 < num ((b.drop 6).take 2) then (zeroFr, 0, 4)
  else if b.length - 16 < num ((b.drop 6).take 2) then (zeroFr, 0, 2)
  else if num ((b.drop 12).take 4) ≠ crc ((b.drop 16).take (num ((b.drop 6).take 2))) then (zeroFr, 0, 5)
  else (⟨num ((b.drop 4).take 1), num ((b.drop 5).take 1), (b.drop 16).take (num ((b.drop 6).take 2))⟩, 16 + num ((b.drop 6).take 2), 0)

/-- The frames that bytes begin with, how many bytes they have, and what ends them. -/
def frScanN : Nat → List UInt8 → List FrD × Nat × Int
  | 0, _ => ([], 0, 0)
  | n + 1, b => if b = [] then ([], 0, 0) else
    if (frTake b).2.2 = 0 then
      ((frTake b).1 :: (frScanN n (b.drop (frTake b).2.1)).1, (frTake b).2.1 + (frScanN n (b.drop (frTake b).2.1)).2.1, (frScanN n (b.drop (frTake b).2.1)).2.2)
    else ([], 0, (frTake b).2.2)
def frScan (b : List UInt8) : List FrD × Nat × Int := frScanN b.length b

theorem frTake_ok {b : List UInt8} (h : (frTake b).2.2 = 0) : 16 ≤ (frTake b).2.1 ∧ (frTake b).2.1 ≤ b.length ∧ (frTake b).2.1 = 16 + (frTake b).1.body.length ∧ FrOk (frTake b).1 := by
  unfold frTake at h ⊢
  repeat' split at h
  all_goals first | (simp at h; done) | skip
  rename_i h1 h2 h3 h4 h5 h6
  rw [if_neg h1, if_neg h2, if_neg h3, if_neg h4, if_neg h5, if_neg h6]
  have hl : ((b.drop 16).take (num ((b.drop 6).take 2))).length = num ((b.drop 6).take 2) := by rw [List.length_take, List.length_drop]; omega
  refine ⟨by simp, by simp; omega, by simp only [hl], ⟨?_, ?_, by simp only [hl]; omega⟩⟩
  · have := num_lt ((b.drop 4).take 1)
    have h7 : ((b.drop 4).take 1).length = 1 := by rw [List.length_take, List.length_drop]; omega
    rw [h7] at this; simpa using this
  · have := num_lt ((b.drop 5).take 1)
    have h7 : ((b.drop 5).take 1).length = 1 := by rw [List.length_take, List.length_drop]; omega
    rw [h7] at this; simpa using this

/-- More rounds than bytes change nothing. -/
theorem frScanN_enough : ∀ (n m : Nat) (b : List UInt8), b.length ≤ n → b.length ≤ m → frScanN n b = frScanN m b
  | 0, 0, _, _, _ => rfl
  | 0, m + 1, b, h, _ => by
    obtain rfl : b = [] := List.length_eq_zero_iff.1 (by omega)
    simp [frScanN]
  | n + 1, 0, b, _, h => by
    obtain rfl : b = [] := List.length_eq_zero_iff.1 (by omega)
    simp [frScanN]
  | n + 1, m + 1, b, h1, h2 => by
    unfold frScanN
    by_cases hb : b = []
    · simp [hb]
    · rw [if_neg hb, if_neg hb]
      by_cases h0 : (frTake b).2.2 = 0
      · obtain ⟨k1, k2, _⟩ := frTake_ok h0
        rw [if_pos h0, if_pos h0, frScanN_enough n m _ (by rw [List.length_drop]; omega) (by rw [List.length_drop]; omega)]
      · rw [if_neg h0, if_neg h0]
theorem frScan_nil : frScan [] = ([], 0, 0) := rfl
theorem frScan_step {b : List UInt8} (h : (frTake b).2.2 = 0) : frScan b = ((frTake b).1 :: (frScan (b.drop (frTake b).2.1)).1, (frTake b).2.1 + (frScan (b.drop (frTake b).2.1)).2.1, (frScan (b.drop (frTake b).2.1)).2.2) := by
  obtain ⟨k1, k2, _⟩ := frTake_ok h
  have hb : b ≠ [] := by intro e; subst e; simp only [List.length_nil] at k2; omega
  have e : frScan b = frScanN (b.length - 1 + 1) b := frScanN_enough _ _ _ (Nat.le_refl _) (by omega)
  have e2 : frScan (b.drop (frTake b).2.1) = frScanN (b.length - 1) (b.drop (frTake b).2.1) := frScanN_enough _ _ _ (Nat.le_refl _) (by rw [List.length_drop]; omega)
  rw [e, e2]
  conv => lhs; unfold frScanN
  rw [if_neg hb, if_pos h]
theorem frScan_end {b : List UInt8} (hb : b ≠ []) (h : (frTake b).2.2 ≠ 0) : frScan b = ([], 0, (frTake b).2.2) := by
  have hl : 0 < b.length := List.length_pos_iff.2 hb
  have e : frScan b = frScanN (b.length - 1 + 1) b := frScanN_enough _ _ _ (Nat.le_refl _) (by omega)
  rw [e]; unfold frScanN
  rw [if_neg hb, if_neg h]

/-- What was put is taken. -/
theorem frTake_bytes {f : FrD} (h : FrOk f) (r : List UInt8) : frTake (frBytes f ++ r) = (f, (frBytes f).length, 0) := by
  have hn : f.body.length < 256 ^ 2 := by have := h.body; omega
  have l8 := frHead_length f.kind f.ver f.body.length
  have t4 : (frBytes f ++ r).take 4 = mark := by simp [frBytes, frHead, mark]
  have t8 : (frBytes f ++ r).take 8 = frHead f.kind f.ver f.body.length := by
    unfold frBytes; simp only [List.append_assoc]; rw [List.take_left' l8]
  have d8 : ((frBytes f ++ r).drop 8).take 4 = be (crc (frHead f.kind f.ver f.body.length)) 4 := by
    unfold frBytes; simp only [List.append_assoc]; rw [List.drop_left' l8, List.take_left' (be_length _ _)]
  have d12 : ((frBytes f ++ r).drop 12).take 4 = be (crc f.body) 4 := by
    unfold frBytes; simp only [List.append_assoc]
    rw [show (12 : Nat) = 8 + 4 from rfl, ← List.drop_drop, List.drop_left' l8, List.drop_left' (be_length _ _), List.take_left' (be_length _ _)]
  have d16 : (frBytes f ++ r).drop 16 = f.body ++ r := by
    unfold frBytes; simp only [List.append_assoc]
    rw [show (16 : Nat) = 8 + (4 + 4) from rfl, ← List.drop_drop, ← List.drop_drop, List.drop_left' l8, List.drop_left' (be_length _ _), List.drop_left' (be_length _ _)]
  have d4 : ((frBytes f ++ r).drop 4).take 1 = be f.kind 1 := by
    unfold frBytes frHead; simp only [List.append_assoc]; rw [List.drop_left' (by rfl), List.take_left' (be_length _ _)]
  have d5 : ((frBytes f ++ r).drop 5).take 1 = be f.ver 1 := by
    unfold frBytes frHead; simp only [List.append_assoc]
    rw [show (5 : Nat) = 4 + 1 from rfl, ← List.drop_drop, List.drop_left' (by rfl), List.drop_left' (be_length _ _), List.take_left' (be_length _ _)]
  have d6 : ((frBytes f ++ r).drop 6).take 2 = be f.body.length 2 := by
    unfold frBytes frHead; simp only [List.append_assoc]
    rw [show (6 : Nat) = 4 + (1 + 1) from rfl, ← List.drop_drop, ← List.drop_drop, List.drop_left' (by rfl), List.drop_left' (be_length _ _), List.drop_left' (be_length _ _), List.take_left' (be_length _ _)]
  have hlen : (frBytes f ++ r).length = 16 + f.body.length + r.length := by rw [List.length_append, frBytes_length]
  unfold frTake
  rw [t4, t8, d8, d12, d16, d4, d5, d6, num_be hn, num_be (width := 4) (crc_lt _), num_be (width := 4) (crc_lt _), hlen, frBytes_length]
  rw [num_be (width := 1) (by have := h.kind; omega), num_be (width := 1) (by have := h.ver; omega), List.take_left' rfl]
  have := h.body
  rw [if_neg (by omega), if_neg (by simp), if_neg (by simp), if_neg (by omega), if_neg (by omega), if_neg (by simp)]
/-- A beginning of a frame is none. -/
theorem frTake_short {f : FrD} (h : FrOk f) {b : List UInt8} (hb : b <+: frBytes f) (hl : b.length < (frBytes f).length) : (frTake b).2.2 = 2 := by
  obtain ⟨r, hr⟩ := hb
  by_cases h16 : b.length < 16
  · unfold frTake; rw [if_pos h16]
  · have hn : f.body.length < 256 ^ 2 := by have := h.body; omega
    have key := frTake_bytes h []
    rw [List.append_nil, ← hr] at key
    have l := frBytes_length f
    rw [← hr, List.length_append] at l
    rw [frBytes_length] at hl
    unfold frTake at key ⊢
    have t4 : (b ++ r).take 4 = b.take 4 := by rw [List.take_append_of_le_length (by omega)]
    have t8 : (b ++ r).take 8 = b.take 8 := by rw [List.take_append_of_le_length (by omega)]
    have e : ∀ i k, i + k ≤ 16 → ((b ++ r).drop i).take k = (b.drop i).take k := fun i k hik => by
      rw [List.drop_append_of_le_length (by omega), List.take_append_of_le_length (by rw [List.length_drop]; omega)]
    rw [t4, t8, e 8 4 (by omega), e 6 2 (by omega), e 12 4 (by omega), e 4 1 (by omega), e 5 1 (by omega)] at key
    repeat' split at key
    all_goals first | (simp at key; done) | skip
    rename_i h1 h2 h3 h4 h5 h6
    rw [if_neg h16, if_neg h2, if_neg h3, if_neg h4]
    have hk := congrArg (fun x => x.2.1) key
    simp only [List.length_append] at hk
    rw [if_pos (by omega)]
theorem frBytes_ne (f : FrD) : frBytes f ≠ [] := fun h => by have := congrArg List.length h; rw [frBytes_length] at this; simp at this

def frJoin (l : List FrD) : List UInt8 := (l.map frBytes).flatten
theorem frJoin_cons (f : FrD) (l : List FrD) : frJoin (f :: l) = frBytes f ++ frJoin l := rfl
theorem frJoin_append (l l' : List FrD) : frJoin (l ++ l') = frJoin l ++ frJoin l' := by simp [frJoin]
/-- Frames, and a beginning of bytes that is no frame. -/
theorem frScan_join {l : List FrD} (h : ∀ f ∈ l, FrOk f) (r : List UInt8) : frScan (frJoin l ++ r) = (l ++ (frScan r).1, (frJoin l).length + (frScan r).2.1, (frScan r).2.2) := by
  induction l with
  | nil => simp [frJoin]
  | cons f l ih =>
    have hf := h f (by simp)
    have e := frTake_bytes hf (frJoin l ++ r)
    rw [frJoin_cons, List.append_assoc, frScan_step (by rw [e]), e]
    simp only [List.drop_left]
    rw [ih (fun g hg => h g (List.mem_cons_of_mem _ hg))]
    simp [Nat.add_assoc]
theorem frScan_all {l : List FrD} (h : ∀ f ∈ l, FrOk f) : frScan (frJoin l) = (l, (frJoin l).length, 0) := by
  have := frScan_join h []
  simpa [frScan_nil] using this
/-- A beginning of frames: the whole ones that are in it. -/
theorem frScan_cut {l : List FrD} (h : ∀ f ∈ l, FrOk f) {b : List UInt8} (hb : b <+: frJoin l) :
    ∃ k ≤ l.length, (frScan b).1 = l.take k ∧ (frScan b).2.1 = (frJoin (l.take k)).length ∧ frJoin (l.take k) <+: b ∧ (∀ j ≤ l.length, (frJoin (l.take j)).length ≤ b.length → j ≤ k) := by
  induction l generalizing b with
  | nil =>
    have : b = [] := List.prefix_nil.1 hb
    subst this
    exact ⟨0, Nat.le_refl _, rfl, rfl, List.nil_prefix, fun j hj _ => hj⟩
  | cons f l ih =>
    have hf := h f (by simp)
    rw [frJoin_cons] at hb
    by_cases hl : b.length < (frBytes f).length
    · have hp : b <+: frBytes f := List.prefix_of_prefix_length_le hb (List.prefix_append _ _) (by omega)
      refine ⟨0, Nat.zero_le _, ?_, ?_, List.nil_prefix, fun j hj hjl => ?_⟩
      · by_cases hn : b = []
        · rw [hn, frScan_nil]; rfl
        · rw [frScan_end hn (by rw [frTake_short hf hp hl]; decide)]; rfl
      · by_cases hn : b = []
        · rw [hn, frScan_nil]; rfl
        · rw [frScan_end hn (by rw [frTake_short hf hp hl]; decide)]; rfl
      · rcases j with _ | j
        · exact Nat.le_refl _
        · rw [List.take_succ_cons, frJoin_cons, List.length_append] at hjl; omega
    · have hp : frBytes f <+: b := List.prefix_of_prefix_length_le (List.prefix_append _ _) hb (by omega)
      obtain ⟨b', rfl⟩ := hp
      have hb' : b' <+: frJoin l := (List.prefix_append_right_inj _).1 hb
      obtain ⟨k, k0, k1, k2, k3, k4⟩ := ih (fun g hg => h g (List.mem_cons_of_mem _ hg)) hb'
      have e := frTake_bytes hf b'
      refine ⟨k + 1, by simp; omega, ?_, ?_, ?_, fun j hj hjl => ?_⟩
      · rw [frScan_step (by rw [e]), e]; simp only [List.drop_left]; rw [k1]; rfl
      · rw [frScan_step (by rw [e]), e]; simp only [List.drop_left]; rw [k2, List.take_succ_cons, frJoin_cons, List.length_append]
      · rw [List.take_succ_cons, frJoin_cons]; exact (List.prefix_append_right_inj _).2 k3
      · rcases j with _ | j
        · omega
        · rw [List.take_succ_cons, frJoin_cons, List.length_append, List.length_append] at hjl
          have := k4 j (by simpa using hj) (by omega)
          omega
/-- What a frame's bytes are, or why there are none. -/
def putErr (kind ver : Int) (n : Nat) : Int := if kind < 0 ∨ 255 < kind ∨ ver < 0 ∨ 255 < ver then 1 else if 4096 < n then 4 else 0
def putB (kind ver : Int) (body : List UInt8) : List UInt8 := if putErr kind ver body.length = 0 then frBytes ⟨kind.toNat, ver.toNat, body⟩ else []
end Go.Proofs.YtogclkhpbjfadaaGreat
