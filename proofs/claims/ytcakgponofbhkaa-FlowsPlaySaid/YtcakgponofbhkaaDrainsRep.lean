/- Backends that drain, in memory: a queue of their keys, a map of their times. -/
import Derived.Test.YtcakgponofbhkaaDueSep
import Derived.Test.YtcakgponofbhkaaBytes2
import Derived.Test.YtcakgponofbhkaaDuePlain2
namespace Go.Proofs.Ytcakgponofbhkaa
open Go.RowKit
open Go.Maps (Keyed)
set_option linter.unusedVariables false
set_option maxRecDepth 100000

/-- A backend and its time. -/
abbrev BT := Int × Int
def MayB (b : Int) : Prop := 0 ≤ b ∧ b ≤ 65535
def keyB (b : Int) : ByteArray := key2 (b / 256) (b % 256)
theorem keyB_inj {a b : Int} (ha : MayB a) (hb : MayB b) (h : keyB a = keyB b) : a = b := by
  unfold MayB at ha hb
  have := key2_inj (a := a / 256) (b := a % 256) (c := b / 256) (d := b % 256) (by omega) (by omega) (by omega) (by omega) h
  omega
def encB (x : BT) : KT := (keyB x.1, x.2)
theorem intLaw : Keyed Try.prog 3 := Maps.int_keyed Try.underlying3
def btR (M : List BT) (k v : Value) : Prop := ∃ x ∈ M, k = .int .i64 x.1 ∧ v = .int .i64 x.2
def BMap (bm : Nat) (M : List BT) : Asrt := fun w F => F = [bm] ∧ MapR Try.prog 3 w bm (btR M) M.length
theorem BMap.framed (bm : Nat) (M : List BT) : Framed (BMap bm M) :=
  ⟨fun h hk => ⟨h.1, h.2.keep (hk bm (by rw [h.1]; simp))⟩, fun h b hb => by rw [h.1] at hb; simp at hb; subst hb; exact h.2.lt⟩

def DrR (bs bq bm : Nat) (M : List BT) : List Asrt := [Cells bs #[.pointer (some ⟨bq, 0, none⟩), .map (some bm)] 90, BMap bm M, QA bq (M.map encB)]
theorem DrR.framed {bs bq bm : Nat} {M : List BT} : ∀ A ∈ DrR bs bq bm M, Framed A := by
  intro A hA
  simp only [DrR, List.mem_cons, List.not_mem_nil, or_false] at hA
  rcases hA with rfl | rfl | rfl
  · exact Cells.framed _ _ _
  · exact BMap.framed _ _
  · exact QA.framed _ _
/-- The set at bs stands for M (by time, then backend). -/
def DrA (bs : Nat) (M : List BT) : Asrt := fun w F => ∃ bq bm, (∀ x ∈ M, MayB x.1) ∧ Star (DrR bs bq bm M) w F
theorem DrA.framed (bs : Nat) (M : List BT) : Framed (DrA bs M) := by
  refine ⟨?_, ?_⟩
  · rintro w w' F ⟨bq, bm, h1, h2⟩ hk; exact ⟨bq, bm, h1, (Framed.star DrR.framed).keep h2 hk⟩
  · rintro w F ⟨bq, bm, h1, h2⟩; exact (Framed.star DrR.framed).lt h2

/-! ### plain -/
def insD (x : BT) : List BT → List BT
  | [] => [x]
  | y :: r => if klt (encB y) (encB x) = true then y :: insD x r else x :: y :: r
def delD (b : Int) (M : List BT) : List BT := M.filter (fun x => decide (x.1 ≠ b))
def atD (M : List BT) (b : Int) : Option Int := (M.find? (fun x => decide (x.1 = b))).map (·.2)
theorem insD_enc (x : BT) : ∀ M, (insD x M).map encB = ins (encB x) (M.map encB)
  | [] => rfl
  | y :: r => by
    unfold insD
    rw [List.map_cons, ins]
    split
    · rw [List.map_cons, insD_enc x r]
    · rfl
theorem delD_enc {b : Int} (hb : MayB b) : ∀ {M : List BT}, (∀ x ∈ M, MayB x.1) → (delD b M).map encB = delS (keyB b) (M.map encB)
  | [], _ => rfl
  | y :: r, h => by
    have ih := delD_enc hb (M := r) (fun x hx => h x (List.mem_cons_of_mem _ hx))
    have hy := h y (by simp)
    unfold delD delS at *
    rw [List.map_cons, List.filter_cons, List.filter_cons]
    by_cases e : y.1 = b
    · have : (encB y).1 = keyB b := by show keyB y.1 = _; rw [e]
      simp only [e, this, ne_eq, not_true_eq_false, decide_false, Bool.false_eq_true, if_false]
      exact ih
    · have : (encB y).1 ≠ keyB b := fun h' => e (keyB_inj hy hb h')
      simp only [e, this, ne_eq, not_false_eq_true, decide_true, if_true, List.map_cons, ih]
theorem atD_enc {b : Int} (hb : MayB b) : ∀ {M : List BT}, (∀ x ∈ M, MayB x.1) → atS (M.map encB) (keyB b) = atD M b
  | [], _ => rfl
  | y :: r, h => by
    have ih := atD_enc hb (M := r) (fun x hx => h x (List.mem_cons_of_mem _ hx))
    have hy := h y (by simp)
    unfold atD atS at *
    rw [List.map_cons, List.find?_cons, List.find?_cons]
    by_cases e : y.1 = b
    · have : (encB y).1 = keyB b := by show keyB y.1 = _; rw [e]
      simp [e, this]; rfl
    · have : (encB y).1 ≠ keyB b := fun h' => e (keyB_inj hy hb h')
      simp only [e, this, decide_false, ih]
theorem insD_mem {x y : BT} : ∀ {M : List BT}, y ∈ insD x M ↔ y = x ∨ y ∈ M
  | [] => by simp [insD]
  | z :: r => by
    unfold insD
    split
    · rw [List.mem_cons, insD_mem]; simp only [List.mem_cons]
      constructor
      · rintro (h | h | h)
        · exact Or.inr (Or.inl h)
        · exact Or.inl h
        · exact Or.inr (Or.inr h)
      · rintro (h | h | h)
        · exact Or.inr (Or.inl h)
        · exact Or.inl h
        · exact Or.inr (Or.inr h)
    · simp
theorem insD_length (x : BT) : ∀ M, (insD x M).length = M.length + 1
  | [] => rfl
  | z :: r => by
    unfold insD
    split
    · simp [insD_length x r]
    · simp
theorem delD_mem {b : Int} {M : List BT} {y : BT} : y ∈ delD b M ↔ y ∈ M ∧ y.1 ≠ b := by simp [delD]
/-- 'Put'. -/
def putD (M : List BT) (b t : Int) : List BT × Int :=
  if t < 0 ∨ 1099511627776 < t then (M, 1) else if atD M b = none ∧ 1024 ≤ M.length then (M, 9) else (insD (b, t) (delD b M), 0)
theorem putD_enc {M : List BT} {b t : Int} (hb : MayB b) (hM : ∀ x ∈ M, MayB x.1) : setS (M.map encB) (keyB b) t = ((putD M b t).1.map encB, (putD M b t).2) := by
  unfold setS putD
  rw [atD_enc hb hM, List.length_map]
  split
  · rfl
  · split
    · rfl
    · rw [insD_enc, delD_enc hb hM]; rfl
theorem putD_may {M : List BT} {b t : Int} (hb : MayB b) (hM : ∀ x ∈ M, MayB x.1) : ∀ x ∈ (putD M b t).1, MayB x.1 := by
  intro x hx
  unfold putD at hx
  split at hx
  · exact hM x hx
  · split at hx
    · exact hM x hx
    · rcases insD_mem.1 hx with rfl | hx
      · exact hb
      · exact hM x (delD_mem.1 hx).1
theorem delD_length {M : List BT} (hM : ∀ x ∈ M, MayB x.1) (hk : Keys1 (M.map encB)) {b : Int} (hb : MayB b) : (delD b M).length = if (atD M b).isSome then M.length - 1 else M.length := by
  have h1 := delD_enc hb hM
  have h2 : (delD b M).length = (delS (keyB b) (M.map encB)).length := by rw [← h1, List.length_map]
  cases ha : atD M b with
  | none =>
    have : atS (M.map encB) (keyB b) = none := by rw [atD_enc hb hM, ha]
    rw [h2, delS_none (atS_none.1 this)]; simp
  | some t =>
    have : atS (M.map encB) (keyB b) = some t := by rw [atD_enc hb hM, ha]
    have := del_length hk ((atS_some hk).1 this)
    rw [h2]; simp at this ⊢; omega
end Go.Proofs.Ytcakgponofbhkaa
