/- What the statements of this layer share: two rows of texts held against each other; keys that every program must know. -/
import Derived.Test.YtcakgponofbhkaaDueDue
namespace Go.Proofs.Ytcakgponofbhkaa
open Go.RowKit
set_option linter.unusedVariables false
set_option maxRecDepth 100000

theorem Strs.shape {w : World} {v : Value} {l : List ByteArray} (h : Strs w v l) : ∃ a cap, v = .slice a l.length cap ∧ l.length ≤ cap ∧ cap ≤ maxLen ∧ ∀ i (hi : i < l.length), ∃ b, a = some ⟨b, 0, none⟩ ∧ w.cell? ⟨b, i, none⟩ = some (.string l[i]) := by
  obtain ⟨h1, h2⟩ := h
  rcases h2 with ⟨rfl, h2⟩ | ⟨g, cap, cur, rfl, _, h3, h4, h5, h6, h7⟩
  · exact ⟨none, 0, by rw [h2], by omega, Nat.zero_le _, fun i hi => by omega⟩
  · refine ⟨_, cap, rfl, h4, h5, fun i hi => ⟨g, rfl, cell_of h3 ?_⟩⟩
    have : (cur.toList.take (l.length * 1))[i]? = (l.map Value.string)[i]? := by rw [h7]
    rw [List.getElem?_take, if_pos (by omega), Array.getElem?_toList] at this
    rw [this]; simp [hi]


def kA : ByteArray := ⟨#[97]⟩
def kB : ByteArray := ⟨#[98]⟩
def kC : ByteArray := ⟨#[99]⟩
theorem setS_ok {S : List KT} {k : ByteArray} {t : Int} (h0 : 0 ≤ t) (h1 : t ≤ 1099511627776) (hl : S.length < 1024) : setS S k t = (ins (k, t) (delS k S), 0) := by
  rw [setS, if_neg (by omega), if_neg (by omega)]
theorem awake1 : setS [] kB 5 = ([(kB, 5)], 0) := by decide +kernel
theorem awake2 : setS [(kB, 5)] kA 5 = ([(kA, 5), (kB, 5)], 0) := by decide +kernel
theorem awake3 : setS [(kA, 5), (kB, 5)] kC 9 = ([(kA, 5), (kB, 5), (kC, 9)], 0) := by decide +kernel
theorem awake4 : dueK [(kA, 5), (kB, 5), (kC, 9)] 5 = [kA, kB] ∧ dueR [(kA, 5), (kB, 5), (kC, 9)] 5 = [(kC, 9)] := by decide +kernel

def TruePost (w : World) (e : Ending) (w' : World) : Prop := e = .returned (.bool true) ∧ Mod [] w w'

/-- A queue of the call's own: its blocks are new. -/
def OwnQ (w0 : World) (w : World) (bq : Nat) (S : List KT) : Prop := ∃ F, IsQ w bq S F ∧ (∀ b ∈ F, w0.heap.size ≤ b) ∧ Mod [] w0 w
theorem ownQ_new {w0 w w' : World} (hm : Mod [] w0 w) {e : Ending} (h : NewPost w e w') : ∃ bq, e = .returned (.pointer (some ⟨bq, 0, none⟩)) ∧ OwnQ w0 w' bq [] := by
  obtain ⟨bq, F, he, hq, hF, hmm⟩ := h
  have := hm.size
  exact ⟨bq, he, F, hq, fun b hb => by have := hF b hb; omega, hm.trans' hmm⟩
theorem own_post {w0 w w' : World} {bq : Nat} {S' : List KT} {F : List Nat} {r : Value} {e : Ending} (hF : ∀ b ∈ F, w0.heap.size ≤ b) (hm : Mod [] w0 w) (hp : QPost bq S' F r w e w') : e = .returned r ∧ OwnQ w0 w' bq S' := by
  obtain ⟨he, ⟨F', hq', hg⟩, hmod⟩ := hp
  have := hm.size
  exact ⟨he, F', hq', fun b hb => by rcases hg b hb with h1 | h1; exact hF b h1; omega, hm.trans hmod (fun b hb => Or.inr (hF b hb))⟩
theorem OwnQ.mod {w0 w : World} {bq : Nat} {S : List KT} (h : OwnQ w0 w bq S) : Mod [] w0 w := h.choose_spec.2.2
theorem own_set {w0 w : World} {bq : Nat} {S : List KT} (h : OwnQ w0 w bq S) {k : ByteArray} (hk : k.size ≤ maxLen) (t : Int) :
    Calls Try.prog 52 #[.pointer (some ⟨bq, 0, none⟩), .string k, .int .i64 t] w fun e w' => e = .returned (.int .i64 (setS S k t).2) ∧ OwnQ w0 w' bq (setS S k t).1 := by
  obtain ⟨F, hq, hF, hm⟩ := h
  exact (qset hq hk t).mono fun e w' hp => own_post hF hm hp
theorem own_drop {w0 w : World} {bq : Nat} {S : List KT} (h : OwnQ w0 w bq S) {k : ByteArray} (hk : k.size ≤ maxLen) :
    Calls Try.prog 60 #[.pointer (some ⟨bq, 0, none⟩), .string k] w fun e w' => e = .returned (.bool (atS S k).isSome) ∧ OwnQ w0 w' bq (delS k S) := by
  obtain ⟨F, hq, hF, hm⟩ := h
  exact (qdrop hq hk).mono fun e w' hp => own_post hF hm hp
theorem own_new {w0 w : World} (hm : Mod [] w0 w) : Calls Try.prog 50 #[] w fun e w' => ∃ bq, e = .returned (.pointer (some ⟨bq, 0, none⟩)) ∧ OwnQ w0 w' bq [] :=
  (qnew w).mono fun e w' h => ownQ_new hm h
theorem OwnQ.drewN {w0 w : World} {bq : Nat} {S : List KT} (h : OwnQ w0 w bq S) (m : Nat) : OwnQ w0 (w.drewN m) bq S := by
  obtain ⟨F, hq, hF, hm⟩ := h
  exact ⟨F, hq.keep (fun _ _ => rfl), hF, hm.drewN m⟩
theorem own_len {w0 w : World} {bq : Nat} {S : List KT} (h : OwnQ w0 w bq S) : Calls Try.prog 58 #[.pointer (some ⟨bq, 0, none⟩)] w fun e w' => e = .returned (.int .i64 S.length) ∧ w = w' := by
  obtain ⟨F, hq, hF, hm⟩ := h
  exact qlen hq
theorem own_at {w0 w : World} {bq : Nat} {S : List KT} (h : OwnQ w0 w bq S) {k : ByteArray} (hk : k.size ≤ maxLen) :
    Calls Try.prog 61 #[.pointer (some ⟨bq, 0, none⟩), .string k] w (AtPost (atS S k) w) := by
  obtain ⟨F, hq, hF, hm⟩ := h
  exact qat hq hk
/-- .. of 'Due': the keys lie apart from the queue. -/
theorem own_due {w0 w : World} {bq : Nat} {S : List KT} (h : OwnQ w0 w bq S) (now : Int) :
    Calls Try.prog 54 #[.pointer (some ⟨bq, 0, none⟩), .int .i64 now] w fun e w' => ∃ v, e = .returned v ∧ Strs w' v (dueK S now) ∧ OwnQ w0 w' bq (dueR S now) := by
  obtain ⟨F, hq, hF, hm⟩ := h
  refine (qdue hq now).mono fun e w' hp => ?_
  obtain ⟨v, he, hs, hn, F', hq', hg, _⟩ := hp.ret
  have := hm.size
  exact ⟨v, he, hs, F', hq', fun b hb => by rcases hg b hb with h1 | h1; exact hF b h1; omega, hm.trans hp.mod (fun b hb => Or.inr (hF b hb))⟩

end Go.Proofs.Ytcakgponofbhkaa
