/- Arguments whose cells are all integers: structs, structs of structs, slices of those. -/
import Derived.Test.YtcakgponofbhkaaArgs
namespace Go.Proofs.Ytcakgponofbhkaa
open Go.RowKit Go.ChangeShapes Go.WideShapes Go.Deep
set_option linter.unusedVariables false
set_option maxRecDepth 100000

/-- Integers of these kinds, as cells. -/
def encK : List IntKind → List Int → List Value
  | k :: ks, n :: ns => .int k n :: encK ks ns
  | _, _ => []
theorem encK_length : ∀ {ks : List IntKind} {ns : List Int}, ns.length = ks.length → (encK ks ns).length = ks.length
  | [], [], _ => rfl
  | k :: ks, n :: ns, h => by simp [encK, encK_length (ks := ks) (ns := ns) (by simpa using h)]
theorem encK_append : ∀ {ks : List IntKind} {ns : List Int} (ks' : List IntKind) (ns' : List Int), ns.length = ks.length → encK ks ns ++ encK ks' ns' = encK (ks ++ ks') (ns ++ ns')
  | [], [], _, _, _ => rfl
  | k :: ks, n :: ns, _, _, h => by simp [encK, encK_append (ks := ks) (ns := ns) _ _ (by simpa using h)]
theorem encK_at : ∀ {ks : List IntKind} {ns : List Int} {j : Nat} {k : IntKind} {n : Int}, ks[j]? = some k → ns[j]? = some n → (encK ks ns)[j]? = some (.int k n)
  | k :: ks, n :: ns, 0, _, _, h1, h2 => by simp at h1 h2; subst h1; subst h2; rfl
  | k :: ks, n :: ns, j + 1, _, _, h1, h2 => by
    simp at h1 h2
    simpa [encK] using encK_at h1 h2
  | [], _, _, _, _, h1, _ => by simp at h1
  | _ :: _, [], _, _, _, _, h2 => by simp at h2
def wfK (ks : List IntKind) (ns : List Int) : Prop := ∀ (j : Nat) (k : IntKind) (n : Int), ks[j]? = some k → ns[j]? = some n → (Lit.int k n).wf = true
theorem wfK_append {ks ks' : List IntKind} {ns ns' : List Int} (hl : ns.length = ks.length) (h : wfK ks ns) (h' : wfK ks' ns') : wfK (ks ++ ks') (ns ++ ns') := by
  intro j k n h1 h2
  by_cases hj : j < ks.length
  · rw [List.getElem?_append_left hj] at h1
    rw [List.getElem?_append_left (by omega)] at h2
    exact h j k n h1 h2
  · rw [List.getElem?_append_right (by omega)] at h1
    rw [List.getElem?_append_right (by omega)] at h2
    rw [hl] at h2
    exact h' _ k n h1 h2

section
variable {H : Type} (enc : TypeId × Value → H) (P : Program)
/-- A type whose data are so many integers. -/
def FlatT (T : TypeId) (ks : List IntKind) : Prop := ∀ (w : World) (base : Nat) (spare : Nat → Bool) (held : Bool) (n : Nat) (cs : List Value) (x : DataW H × List MemPlace),
  DataW.trod enc P w base spare held n T cs = some x → ∃ ns : List Int, ns.length = ks.length ∧ cs = encK ks ns ∧ wfK ks ns
variable {enc P}
theorem flat_int {T : TypeId} {k : IntKind} (h : P.underlying T = some (.int k)) : FlatT enc P T [k] := by
  intro w base spare held n cs x hx
  obtain ⟨m, e, _, hw⟩ := DataW.trod_int h hx
  refine ⟨[m], rfl, by rw [e]; rfl, fun j k' n' h1 h2 => ?_⟩
  cases j with
  | zero => simp at h1 h2; subst h1; subst h2; exact hw
  | succ j => simp at h1
/-- Fields one behind the other. -/
def offs : Nat → List (Field × List IntKind) → Prop
  | _, [] => True
  | o, (f, ks) :: r => f.offset = o ∧ P.cellsOf f.type = ks.length ∧ offs (o + ks.length) r
theorem flat_fields : ∀ (fk : List (Field × List IntKind)) (o : Nat), offs (P := P) o fk → (∀ p ∈ fk, FlatT enc P p.1.type p.2) → ∀ (w : World) (base : Nat) (spare : Nat → Bool) (held : Bool) (n : Nat) (cs : List Value) (xs : List (DataW H × List MemPlace)),
    (∀ (j : Nat) (f : Field), (fk.map (·.1))[j]? = some f → DataW.trod enc P w base spare held n f.type ((cs.drop f.offset).take (P.cellsOf f.type)) = xs[j]?) → xs.length = fk.length → cs.length = o + ((fk.map (·.2)).flatten).length →
    ∃ ns : List Int, ns.length = ((fk.map (·.2)).flatten).length ∧ cs.drop o = encK ((fk.map (·.2)).flatten) ns ∧ wfK ((fk.map (·.2)).flatten) ns
  | [], o, _, _, _, _, _, _, _, cs, _, _, _, hl => ⟨[], rfl, by
      have : cs.drop o = [] := List.drop_eq_nil_of_le (by simpa using Nat.le_of_eq hl)
      simp [this, encK], fun j k n h1 => by simp at h1⟩
  | (f, ks) :: r, o, ho, hf, w, base, spare, held, n, cs, xs, hx, hxl, hl => by
    obtain ⟨o1, o2, o3⟩ := ho
    cases xs with
    | nil => simp at hxl
    | cons x xs =>
      have h0 := hx 0 f (by simp)
      rw [o1, o2] at h0
      simp only [List.getElem?_cons_zero] at h0
      obtain ⟨ns, n1, n2, n3⟩ := hf (f, ks) (by simp) w base spare held n _ x h0
      obtain ⟨ms, m1, m2, m3⟩ := flat_fields r (o + ks.length) o3 (fun p hp => hf p (List.mem_cons_of_mem _ hp)) w base spare held n cs xs (fun j g hg => hx (j + 1) g (by simpa using hg)) (by simpa using hxl)
        (by rw [hl]; simp only [List.map_cons, List.flatten_cons, List.length_append]; omega)
      refine ⟨ns ++ ms, by simp only [List.map_cons, List.flatten_cons, List.length_append]; rw [n1, m1], ?_, by simpa using wfK_append n1 n3 m3⟩
      have : cs.drop o = (cs.drop o).take ks.length ++ (cs.drop o).drop ks.length := (List.take_append_drop _ _).symm
      rw [this, List.drop_drop, m2, n2, encK_append _ _ n1]
      simp
theorem flat_struct {T : TypeId} {fs : Array Field} (h : P.underlying T = some (.struct fs)) (fk : List (Field × List IntKind)) (hfk : fk.map (·.1) = fs.toList) (ho : offs (P := P) 0 fk) (hf : ∀ p ∈ fk, FlatT enc P p.1.type p.2)
    (hc : P.cellsOf T = ((fk.map (·.2)).flatten).length) : FlatT enc P T ((fk.map (·.2)).flatten) := by
  intro w base spare held n cs x hx
  obtain ⟨xs, n', _, _, hl, hlen, hfl⟩ := DataW.trod_struct h hx
  have := flat_fields fk 0 ho hf w base spare held n' cs xs (fun j f hj => hfl j f (by rw [hfk] at hj; simpa using hj)) (by rw [hlen, ← Array.length_toList, ← hfk, List.length_map]) (by rw [hl, hc]; omega)
  simpa using this

/-- A slice of such that came in. -/
structure ArgRows (ks : List IntKind) (w : World) (a : Option Addr) (len cap : Nat) (ps : List (List Int)) : Prop where
  length : ps.length = len
  room : len ≤ cap
  most : cap ≤ maxLen
  shape : ∀ x ∈ ps, x.length = ks.length ∧ wfK ks x
  at' : len = 0 ∨ ∃ b o, a = some ⟨b, o, none⟩ ∧ b < w.heap.size ∧ ∀ i x, ps[i]? = some x → ∀ j v, (encK ks x)[j]? = some v → w.cell? ⟨b, o + (i * ks.length + j), none⟩ = some v
theorem openArgRows {T E : TypeId} {ks : List IntKind} (ht : P.underlying T = some (.slice E)) (hF : FlatT enc P E ks) (hC : P.cellsOf E = ks.length) (hpos : 0 < ks.length) {w : World} {base : Nat} {spare : Nat → Bool} {held : Bool} {a : Option Addr} {len cap : Nat} {d : DataW H} {p : List MemPlace}
    (h : DataW.Trod enc P w base spare held T (.slice a len cap) d p) : ∃ ps, ArgRows ks w a len cap ps := by
  obtain ⟨fuel, hf⟩ := h
  rcases open_slice ht hf with ⟨hcs, _⟩ | ⟨x, l, c, m, n, D, Pl, hcs, _, hl, hm, hmm, _, hi⟩
  · simp [Value.cells] at hcs
    obtain ⟨rfl, rfl, rfl⟩ := hcs
    exact ⟨[], rfl, Nat.le_refl _, Nat.zero_le _, by simp, Or.inl rfl⟩
  · simp [Value.cells] at hcs
    obtain ⟨rfl, rfl, rfl⟩ := hcs
    have hle : len ≤ m := by rw [hmm]; split <;> omega
    have one : ∀ i, i < len → ∃ ns : List Int, (ns.length = ks.length ∧ wfK ks ns) ∧ ∀ j v, (encK ks ns)[j]? = some v → w.cell? (x.add (i * ks.length + j)) = some v := by
      intro i hil
      obtain ⟨cs', hc, ht'⟩ := hi i (by omega)
      obtain ⟨ns, n1, n2, n3⟩ := hF w base spare held _ _ _ ht'
      obtain ⟨_, hcl, hat⟩ := World.cells?_some hc
      refine ⟨ns, ⟨n1, n3⟩, fun j v hv => ?_⟩
      have hj : j < P.cellsOf E := by
        have := (List.getElem?_eq_some_iff.1 hv).1
        rw [encK_length n1] at this; omega
      rw [← Go.Deep.add_add, ← hC, hat j hj, n2]; exact hv
    obtain ⟨ps, hl1, hp⟩ := exists_list len one
    refine ⟨ps, hl1, hl, hm, fun y hy => ?_, ?_⟩
    · obtain ⟨i, hi, rfl⟩ := List.mem_iff_getElem.1 hy
      exact (hp i hi).1
    · by_cases h0 : len = 0
      · exact Or.inl h0
      · have hlen0 : 0 < ps.length := by omega
        obtain ⟨⟨q1, q2⟩, q3⟩ := hp 0 hlen0
        have hk : 0 < (encK ks ps[0]).length := by rw [encK_length q1]; exact hpos
        have c0 := q3 0 _ (List.getElem?_eq_getElem hk)
        have e := addr_none (a := x) (by simpa using c0)
        right
        refine ⟨x.block, x.off, by rw [← e], ?_, fun i y hy j v hv => ?_⟩
        · have := World.block_lt_of_cell? _ _ c0; simpa [Addr.add] using this
        · obtain ⟨hi2, rfl⟩ := List.getElem?_eq_some_iff.1 hy
          have := (hp i hi2).2 j v hv
          rw [e, add_plain] at this
          exact this
theorem ArgRows.read {ks : List IntKind} {w : World} {a : Option Addr} {len cap : Nat} {ps : List (List Int)} (h : ArgRows ks w a len cap ps) {i : Nat} (hi : i < len) :
    ∃ b o x, a = some ⟨b, o, none⟩ ∧ b < w.heap.size ∧ ps[i]? = some x ∧ x.length = ks.length ∧ wfK ks x ∧ ∀ j v, (encK ks x)[j]? = some v → w.cell? ⟨b, o + i * ks.length + j, none⟩ = some v := by
  have hl := h.length
  rcases h.at' with h0 | ⟨b, o, rfl, hb, hc⟩
  · omega
  · have hx : ps[i]? = some ps[i] := List.getElem?_eq_getElem (by omega)
    obtain ⟨s1, s2⟩ := h.shape _ (List.getElem_mem (by omega : i < ps.length))
    exact ⟨b, o, _, rfl, hb, hx, s1, s2, fun j v hv => by rw [Nat.add_assoc]; exact hc i _ hx j v hv⟩
end
end Go.Proofs.Ytcakgponofbhkaa
