/- The queue's calls, where other things lie beside it. -/
import Derived.Test.YtcakgponofbhkaaOwn
import Derived.Test.YtcakgponofbhkaaDueQ
namespace Go.Proofs.Ytcakgponofbhkaa
open Go.RowKit
set_option linter.unusedVariables false
set_option maxRecDepth 100000

def QA (bq : Nat) (S : List KT) : Asrt := fun w F => IsQ w bq S F
theorem QA.framed (bq : Nat) (S : List KT) : Framed (QA bq S) := ⟨fun h hk => IsQ.keep h hk, fun h => IsQ.lt h⟩
def StrsA (v : Value) (l : List ByteArray) : Asrt := fun w F => F = v.ownBlock.toList ∧ Strs w v l
theorem StrsA.framed (v : Value) (l : List ByteArray) : Framed (StrsA v l) :=
  ⟨fun h hk => ⟨h.1, h.2.keep (fun b hb => hk b (by rw [h.1, hb]; simp))⟩, fun h b hb => by rw [h.1] at hb; simp at hb; exact h.2.lt b hb⟩
theorem gives_q {w w' : World} {bq : Nat} {S' : List KT} {F : List Nat} {r : Value} {e : Ending} (h : QPost bq S' F r w e w') : Gives w F (fun v => Val r v (QA bq S')) e w' :=
  ⟨r, h.ret, h.now.choose, ⟨rfl, h.now.choose_spec.1⟩, h.now.choose_spec.2, h.mod⟩

/-- Texts put behind others. -/
theorem own_append {F0 : List Nat} {w0 w w' : World} {R : List Asrt} {v v' : Value} {l l' : List ByteArray} (h : In F0 w0 w R) (i : Nat) (hA : R[i]? = some (StrsA v l)) (hs : Strs w' v' l') (hg : w.grownBy w' v.ownBlock) (ha : v'.ownBlock = v.ownBlock ∨ v'.ownBlock = some w.heap.size) :
    In F0 w0 w' (R.set i (StrsA v' l')) :=
  h.step i hA (StrsA.framed _ _) fun F hF => ⟨v'.ownBlock.toList, ⟨rfl, hs⟩, fun b hb => by
    rw [hF.1]
    rcases ha with ha | ha
    · left; rwa [ha] at hb
    · right; rw [ha] at hb; simp at hb; omega, (Mod.refl F w).of_grown hg (fun k hk => Or.inl (by rw [hF.1, hk]; simp))⟩

section
variable {F0 : List Nat} {w0 w : World} {R : List Asrt} {bq : Nat} {S : List KT}
theorem o_set (h : In F0 w0 w R) (i : Nat) (hA : R[i]? = some (QA bq S)) {k : ByteArray} (hk : k.size ≤ maxLen) (t : Int) :
    Calls Try.prog 52 #[.pointer (some ⟨bq, 0, none⟩), .string k, .int .i64 t] w fun e w' => e = .returned (.int .i64 (setS S k t).2) ∧ In F0 w0 w' (R.set i (QA bq (setS S k t).1)) :=
  own_val h i hA (QA.framed _ _) fun F hq => (qset hq hk t).mono fun _ _ => gives_q
theorem o_drop (h : In F0 w0 w R) (i : Nat) (hA : R[i]? = some (QA bq S)) {k : ByteArray} (hk : k.size ≤ maxLen) :
    Calls Try.prog 60 #[.pointer (some ⟨bq, 0, none⟩), .string k] w fun e w' => e = .returned (.bool (atS S k).isSome) ∧ In F0 w0 w' (R.set i (QA bq (delS k S))) :=
  own_val h i hA (QA.framed _ _) fun F hq => (qdrop hq hk).mono fun _ _ => gives_q
theorem o_new (h : In F0 w0 w R) : Calls Try.prog 50 #[] w fun e w' => ∃ bq, e = .returned (.pointer (some ⟨bq, 0, none⟩)) ∧ In F0 w0 w' (QA bq [] :: R) := by
  have c : Calls Try.prog 50 #[] w (Gives w [] (fun v => fun w' F => ∃ bq, v = .pointer (some ⟨bq, 0, none⟩) ∧ QA bq [] w' F)) := by
    refine (qnew w).mono fun e w' ⟨bq, F, he, hq, hF, hm⟩ => ⟨_, he, F, ⟨bq, rfl, hq⟩, fun b hb => Or.inr (hF b hb), hm⟩
  refine (h.make (fun v => ⟨?_, ?_⟩) c).mono fun e w' ⟨v, he, ho⟩ => ?_
  · rintro w w' F ⟨bq, e, hq⟩ hk; exact ⟨bq, e, IsQ.keep hq hk⟩
  · rintro w F ⟨bq, e, hq⟩; exact IsQ.lt hq
  · obtain ⟨F, bq, rfl, hq⟩ := ho.get 0 rfl
    refine ⟨bq, he, ?_⟩
    have := ho.imp (A' := QA bq []) 0 rfl (QA.framed _ _) (fun F ⟨b, e, hF⟩ => by
      simp only [Value.pointer.injEq, Option.some.injEq, Addr.mk.injEq, and_true] at e
      subst e; exact hF)
    exact this
theorem o_len (h : In F0 w0 w R) (i : Nat) (hA : R[i]? = some (QA bq S)) : Calls Try.prog 58 #[.pointer (some ⟨bq, 0, none⟩)] w fun e w' => e = .returned (.int .i64 S.length) ∧ w = w' := by
  obtain ⟨F, hq⟩ := h.get i hA
  exact qlen hq
theorem o_at (h : In F0 w0 w R) (i : Nat) (hA : R[i]? = some (QA bq S)) {k : ByteArray} (hk : k.size ≤ maxLen) : Calls Try.prog 61 #[.pointer (some ⟨bq, 0, none⟩), .string k] w (AtPost (atS S k) w) := by
  obtain ⟨F, hq⟩ := h.get i hA
  exact qat hq hk
theorem o_due (h : In F0 w0 w R) (i : Nat) (hA : R[i]? = some (QA bq S)) (now : Int) :
    Calls Try.prog 54 #[.pointer (some ⟨bq, 0, none⟩), .int .i64 now] w fun e w' => ∃ v, e = .returned v ∧ In F0 w0 w' (StrsA v (dueK S now) :: R.set i (QA bq (dueR S now))) := by
  have fr : ∀ v, Framed (Star [QA bq (dueR S now), StrsA v (dueK S now)]) := fun v => Framed.star (fun A hA => by
    simp at hA; rcases hA with rfl | rfl
    · exact QA.framed _ _
    · exact StrsA.framed _ _)
  refine (h.call (A' := fun v => Star [QA bq (dueR S now), StrsA v (dueK S now)]) i hA fr fun F hq => (qdue hq now).mono fun e w' hp => ?_).mono fun e w' ⟨v, he, ho⟩ => ⟨v, he, ?_⟩
  · obtain ⟨v, he, hs, hn, F', hq', hg, hv⟩ := hp.ret
    refine ⟨v, he, F' ++ (v.ownBlock.toList ++ []), ⟨F', _, hq', ⟨_, [], ⟨rfl, hs⟩, rfl, fun b _ => by simp, rfl⟩, ?_, rfl⟩, ?_, hp.mod⟩
    · intro b hb hb'
      simp at hb'
      exact hv b hb' hb
    · intro b hb
      simp at hb
      rcases hb with hb | hb
      · exact hg b hb
      · exact Or.inr (hn b hb)
  · have hi := (List.getElem?_eq_some_iff.1 hA).1
    have := ho.split (A := QA bq (dueR S now)) (B := StrsA v (dueK S now)) i (by simp [hi]) (QA.framed _ _) (StrsA.framed _ _)
    rwa [List.set_set] at this
end
end Go.Proofs.Ytcakgponofbhkaa
