/- Rows.PathPlaysSaid -/
import Derived.Test.YtgapbecddgfkmaaGreatPY7
import Derived.Test.YtgapbecddgfkmaaGreatPY4
import Derived.Test.YtgapbecddgfkmaaGreatPY3
import Derived.Test.YtgapbecddgfkmaaGreatPY2
import Derived.Deep.MidRow
import Derived.Laws.Rows
import Derived.Laws.ResultCell
namespace Go.Proofs.YtgapbecddgfkmaaGreat
open Go.RowKit Go.ChangeShapes Go.WideShapes Go.Deep
open Go.RowKit
set_option linter.unusedVariables false
set_option maxHeartbeats 64000000
set_option maxRecDepth 100000
def encK : List IntKind → List Int → List Value
  | k :: ks, n :: ns => .int k n :: encK ks ns
  | _, _ => []
theorem encK_append : ∀ {ks : List IntKind} {ns : List Int} (ks' : List IntKind) (ns' : List Int), ns.length = ks.length → encK ks ns ++ encK ks' ns' = encK (ks ++ ks') (ns ++ ns')
  | [], [], _, _, _ => rfl
  | k :: ks, n :: ns, _, _, h => by simp [encK, encK_append (ks := ks) (ns := ns) _ _ (by simpa using h)]
def wfK (ks : List IntKind) (ns : List Int) : Prop := ∀ (j : Nat) (k : IntKind) (n : Int), ks[j]? = some k → ns[j]? = some n → (Lit.int k n).wf = true
theorem wfK_append {ks ks' : List IntKind} {ns ns' : List Int} (hl : ns.length = ks.length) (h : wfK ks ns) (h' : wfK ks' ns') : wfK (ks ++ ks') (ns ++ ns') := by
  intro j k n h1 h2
  by_cases hj : j < ks.length
  · rw [List.getElem?_append_left hj] at h1
    rw [List.getElem?_append_left (by omega)] at h2
    exact h j k n h1 h2
  · rw [List.getElem?_append_right (by omega)] at h1
    rw [List.getElem?_append_right (by omega)] at h2
    rw [hl] at h2
    exact h' _ k n h1 h2
section
variable {H : Type} (enc : TypeId × Value → H) (P : Program)
def FlatT (T : TypeId) (ks : List IntKind) : Prop := ∀ (w : World) (base : Nat) (spare : Nat → Bool) (held : Bool) (n : Nat) (cs : List Value) (x : DataW H × List MemPlace),
  DataW.trod enc P w base spare held n T cs = some x → ∃ ns : List Int, ns.length = ks.length ∧ cs = encK ks ns ∧ wfK ks ns
variable {enc P}
theorem flat_int {T : TypeId} {k : IntKind} (h : P.underlying T = some (.int k)) : FlatT enc P T [k] := by
  intro w base spare held n cs x hx
  obtain ⟨m, e, _, hw⟩ := DataW.trod_int h hx
  refine ⟨[m], rfl, by rw [e]; rfl, fun j k' n' h1 h2 => ?_⟩
  cases j with
  | zero => simp at h1 h2; subst h1; subst h2; exact hw
  | succ j => simp at h1
def offs : Nat → List (Field × List IntKind) → Prop
  | _, [] => True
  | o, (f, ks) :: r => f.offset = o ∧ P.cellsOf f.type = ks.length ∧ offs (o + ks.length) r
theorem flat_fields : ∀ (fk : List (Field × List IntKind)) (o : Nat), offs (P := P) o fk → (∀ p ∈ fk, FlatT enc P p.1.type p.2) → ∀ (w : World) (base : Nat) (spare : Nat → Bool) (held : Bool) (n : Nat) (cs : List Value) (xs : List (DataW H × List MemPlace)),
    (∀ (j : Nat) (f : Field), (fk.map (·.1))[j]? = some f → DataW.trod enc P w base spare held n f.type ((cs.drop f.offset).take (P.cellsOf f.type)) = xs[j]?) → xs.length = fk.length → cs.length = o + ((fk.map (·.2)).flatten).length →
    ∃ ns : List Int, ns.length = ((fk.map (·.2)).flatten).length ∧ cs.drop o = encK ((fk.map (·.2)).flatten) ns ∧ wfK ((fk.map (·.2)).flatten) ns
  | [], o, _, _, _, _, _, _, _, cs, _, _, _, hl => ⟨[], rfl, by
      have : cs.drop o = [] := List.drop_eq_nil_of_le (by simpa using Nat.le_of_eq hl)
      simp [this, encK], fun j k n h1 => by simp at h1⟩
  | (f, ks) :: r, o, ho, hf, w, base, spare, held, n, cs, xs, hx, hxl, hl => by
    obtain ⟨o1, o2, o3⟩ := ho
    cases xs with
    | nil => simp at hxl
    | cons x xs =>
      have h0 := hx 0 f (by simp)
      rw [o1, o2] at h0
      simp only [List.getElem?_cons_zero] at h0
      obtain ⟨ns, n1, n2, n3⟩ := hf (f, ks) (by simp) w base spare held n _ x h0
      obtain ⟨ms, m1, m2, m3⟩ := flat_fields r (o + ks.length) o3 (fun p hp => hf p (List.mem_cons_of_mem _ hp)) w base spare held n cs xs (fun j g hg => hx (j + 1) g (by simpa using hg)) (by simpa using hxl)
        (by rw [hl]; simp only [List.map_cons, List.flatten_cons, List.length_append]; omega)
      refine ⟨ns ++ ms, by simp only [List.map_cons, List.flatten_cons, List.length_append]; rw [n1, m1], ?_, by simpa using wfK_append n1 n3 m3⟩
      have : cs.drop o = (cs.drop o).take ks.length ++ (cs.drop o).drop ks.length := (List.take_append_drop _ _).symm
      rw [this, List.drop_drop, m2, n2, encK_append _ _ n1]
      simp
theorem flat_struct {T : TypeId} {fs : Array Field} (h : P.underlying T = some (.struct fs)) (fk : List (Field × List IntKind)) (hfk : fk.map (·.1) = fs.toList) (ho : offs (P := P) 0 fk) (hf : ∀ p ∈ fk, FlatT enc P p.1.type p.2)
    (hc : P.cellsOf T = ((fk.map (·.2)).flatten).length) : FlatT enc P T ((fk.map (·.2)).flatten) := by
  intro w base spare held n cs x hx
  obtain ⟨xs, n', _, _, hl, hlen, hfl⟩ := DataW.trod_struct h hx
  have := flat_fields fk 0 ho hf w base spare held n' cs xs (fun j f hj => hfl j f (by rw [hfk] at hj; simpa using hj)) (by rw [hlen, ← Array.length_toList, ← hfk, List.length_map]) (by rw [hl, hc]; omega)
  simpa using this
structure ArgRows (ks : List IntKind) (w : World) (a : Option Addr) (len cap : Nat) (ps : List (List Int)) : Prop where
  length : ps.length = len
  room : len ≤ cap
  most : cap ≤ maxLen
  shape : ∀ x ∈ ps, x.length = ks.length ∧ wfK ks x
  at' : len = 0 ∨ ∃ b o, a = some ⟨b, o, none⟩ ∧ b < w.heap.size ∧ ∀ i x, ps[i]? = some x → ∀ j v, (encK ks x)[j]? = some v → w.cell? ⟨b, o + (i * ks.length + j), none⟩ = some v
end
theorem flatTupR {H : Type} {enc : TypeId × Value → H} : FlatT enc Tryz.prog 24 [.u32, .u32, .i64, .i64, .i64] := by
  refine flat_struct Tryz.underlying24 [(_, [.u32]), (_, [.u32]), (_, [.i64]), (_, [.i64]), (_, [.i64])] rfl ⟨rfl, by kernel_rfl, rfl, by kernel_rfl, rfl, by kernel_rfl, rfl, by kernel_rfl, rfl, by kernel_rfl, trivial⟩ ?_ (by kernel_rfl)
  intro p hp
  simp only [List.mem_cons, List.not_mem_nil, or_false] at hp
  rcases hp with rfl | rfl | rfl | rfl | rfl
  all_goals exact flat_int (by kernel_rfl)
theorem flatBkR {H : Type} {enc : TypeId × Value → H} : FlatT enc Tryz.prog 33 [.i64, .u32, .i64] := by
  refine flat_struct Tryz.underlying33 [(_, [.i64]), (_, [.u32]), (_, [.i64])] rfl ⟨rfl, by kernel_rfl, rfl, by kernel_rfl, rfl, by kernel_rfl, trivial⟩ ?_ (by kernel_rfl)
  intro p hp
  simp only [List.mem_cons, List.not_mem_nil, or_false] at hp
  rcases hp with rfl | rfl | rfl
  all_goals exact flat_int (by kernel_rfl)
theorem litR_i64 {n : Int} (h : (Lit.int .i64 n).wf = true) : -9223372036854775808 ≤ n ∧ n < 9223372036854775808 := by
  simp [Lit.wf, IntKind.min, IntKind.max, IntKind.signed, IntKind.bits] at h
  omega
theorem litR_u32 {n : Int} (h : (Lit.int .u32 n).wf = true) : 0 ≤ n ∧ n < 4294967296 := by
  simp [Lit.wf, IntKind.min, IntKind.max, IntKind.signed, IntKind.bits] at h
  omega
abbrev encB (b : Bk) : List Value := [.int .i64 b.id, .int .u32 b.addr, .int .i64 b.weight]
def bkV (l : List Bk) : List Value := (l.map encB).flatten
theorem bkV_length (l : List Bk) : (bkV l).length = l.length * 3 := by
  induction l with
  | nil => rfl
  | cons b l ih =>
    have e : bkV (b :: l) = encB b ++ bkV l := by simp [bkV]
    have e1 : (encB b).length = 3 := rfl
    have e2 : (b :: l).length = l.length + 1 := rfl
    rw [e, List.length_append, ih, e1, e2]
    omega
theorem bkV_at : ∀ {l : List Bk} {i : Nat} {b : Bk}, l[i]? = some b → (bkV l)[i * 3]? = some (.int .i64 b.id) ∧ (bkV l)[i * 3 + 1]? = some (.int .u32 b.addr) ∧ (bkV l)[i * 3 + 2]? = some (.int .i64 b.weight)
  | [], _, _, h => by simp at h
  | x :: l, 0, b, h => by
    simp at h; subst h
    simp [bkV, encB]
  | x :: l, i + 1, b, h => by
    have e : bkV (x :: l) = encB x ++ bkV l := by simp [bkV]
    obtain ⟨h0, h1, h2⟩ := bkV_at (l := l) (i := i) (by simpa using h)
    have hl : (encB x).length = 3 := rfl
    rw [e]
    refine ⟨?_, ?_, ?_⟩
    · rw [List.getElem?_append_right (by rw [hl]; omega), hl, show (i + 1) * 3 - 3 = i * 3 by omega]; exact h0
    · rw [List.getElem?_append_right (by rw [hl]; omega), hl, show (i + 1) * 3 + 1 - 3 = i * 3 + 1 by omega]; exact h1
    · rw [List.getElem?_append_right (by rw [hl]; omega), hl, show (i + 1) * 3 + 2 - 3 = i * 3 + 2 by omega]; exact h2
theorem bkV_one (l : List Bk) : ∀ u ∈ bkV l, u.oneCell' = true := by
  intro u hu
  simp only [bkV, List.mem_flatten, List.mem_map] at hu
  obtain ⟨x, ⟨b, _, rfl⟩, hx⟩ := hu
  simp at hx
  rcases hx with rfl | rfl | rfl <;> rfl
theorem bkV_snoc (l : List Bk) (b : Bk) : bkV (l ++ [b]) = bkV l ++ encB b := by simp [bkV]
theorem bkV_get {l : List Bk} {t : Nat} {u : Value} (h : (bkV l)[t]? = some u) : ∃ b, l[t / 3]? = some b ∧ (encB b)[t % 3]? = some u := by
  have hlt : t < l.length * 3 := by rw [← bkV_length]; exact (List.getElem?_eq_some_iff.1 h).1
  obtain ⟨b, hb⟩ : ∃ b, l[t / 3]? = some b := ⟨l[t / 3]'(by omega), List.getElem?_eq_getElem _⟩
  refine ⟨b, hb, ?_⟩
  obtain ⟨h0, h1, h2⟩ := bkV_at hb
  have hd := Nat.div_add_mod t 3
  have hm := Nat.mod_lt t (show 0 < 3 by decide)
  rcases (by omega : t % 3 = 0 ∨ t % 3 = 1 ∨ t % 3 = 2) with e | e | e
  · rw [show t / 3 * 3 = t by omega, h] at h0; rw [e]; exact h0.symm
  · rw [show t / 3 * 3 + 1 = t by omega, h] at h1; rw [e]; exact h1.symm
  · rw [show t / 3 * 3 + 2 = t by omega, h] at h2; rw [e]; exact h2.symm
structure ArgBks (w : World) (v : Value) (l : List Bk) : Prop where
  ex : ∃ a c, v = .slice a l.length c ∧ Src w a l.length 3 (bkV l) ∧ l.length ≤ c ∧ c ≤ maxLen ∧ (a = none → c = 0)
  wf : ∀ b ∈ l, WfBk b
abbrev encRL (r : Rec) (v : Value) : List Value := [.int .i64 r.kind, .int .u32 r.fl.t.src, .int .u32 r.fl.t.dst, .int .i64 r.fl.t.proto, .int .i64 r.fl.t.sport, .int .i64 r.fl.t.dport, .int .i64 r.fl.bk, .int .i64 r.fl.gen, .int .i64 r.fl.seen, .int .i64 r.gen, v, .int .i64 r.bk, .int .i64 r.till, .int .i64 r.count]
structure WfRI (r : Rec) : Prop where
  rr : WfR r
  bb : ∀ b ∈ r.bks, WfBk b
def RecIs (w : World) (cs : List Value) (r : Rec) : Prop := ∃ v, cs = encRL r v ∧ ArgBks w v r.bks ∧ WfRI r
structure ArgSl {α : Type} (k : Nat) (Q : World → List Value → α → Prop) (w : World) (v : Value) (L : List α) : Prop where
  ex : ∃ a c, v = .slice a L.length c ∧ L.length ≤ c ∧ c ≤ maxLen ∧ (a = none → c = 0) ∧ ∀ i x, L[i]? = some x → ∃ g o cs, a = some ⟨g, o, none⟩ ∧ Q w cs x ∧ ∀ j u, cs[j]? = some u → w.cell? ⟨g, o + i * k + j, none⟩ = some u
abbrev ArgRecs := ArgSl 14 RecIs
structure CallR where
  act : Int
  n : Int
  r : Rec
  rows : List Rec
  picks : List UInt8
def CallRIs (w : World) (cs : List Value) (c : CallR) : Prop := ∃ v vr vp, cs = .int .i64 c.act :: .int .i64 c.n :: (encRL c.r v ++ [vr, vp]) ∧ ArgBks w v c.r.bks ∧ WfRI c.r ∧ ArgRecs w vr c.rows ∧ AB w vp c.picks
abbrev ArgCalls15 := ArgSl 18 CallRIs
section
variable {H : Type} {enc : TypeId × Value → H} {P : Program} {w : World} {base : Nat} {spare : Nat → Bool} {held : Bool}
theorem openSl {α : Type} {Q : World → List Value → α → Prop} {T E : TypeId} {k : Nat} (ht : P.underlying T = some (.slice E)) (hC : P.cellsOf E = k) (hpos : 0 < k)
    (one : ∀ n cs y, DataW.trod enc P w base spare held n E cs = some y → cs.length = k → ∃ x, Q w cs x) {fuel : Nat} {cs : List Value} {y : DataW H × List MemPlace}
    (hf : DataW.trod enc P w base spare held fuel T cs = some y) : ∃ v L, cs = [v] ∧ ArgSl k Q w v L := by
  rcases open_slice ht hf with ⟨hcs, _⟩ | ⟨x, l, c, m, n, D, Pl, hcs, _, hl, hm, hmm, _, hi⟩
  · exact ⟨_, [], hcs, none, 0, rfl, Nat.le_refl _, Nat.zero_le _, fun _ => rfl, by simp⟩
  · have hle : l ≤ m := by rw [hmm]; split <;> omega
    have one' : ∀ i, i < l → ∃ z : α, ∃ cs', Q w cs' z ∧ cs'.length = k ∧ ∀ j v, cs'[j]? = some v → w.cell? (x.add (i * k + j)) = some v := by
      intro i hil
      obtain ⟨cs', hc, ht'⟩ := hi i (by omega)
      obtain ⟨_, hcl, hat⟩ := World.cells?_some hc
      have hcl' : cs'.length = k := by rw [← hC]; exact hcl
      obtain ⟨z, hz⟩ := one _ _ _ ht' hcl'
      refine ⟨z, cs', hz, hcl', fun j v hv => ?_⟩
      have hj : j < P.cellsOf E := by
        have := (List.getElem?_eq_some_iff.1 hv).1
        omega
      rw [← Go.Deep.add_add, ← hC, hat j hj]; exact hv
    obtain ⟨L, hl1, hp⟩ := exists_list l one'
    refine ⟨_, L, hcs, some x, c, by rw [hl1], by omega, hm, (fun e => by cases e), fun i z hz => ?_⟩
    obtain ⟨hi2, rfl⟩ := List.getElem?_eq_some_iff.1 hz
    have hlen0 : 0 < L.length := by omega
    obtain ⟨cs0, q1, q2, q3⟩ := hp 0 hlen0
    have c0 := q3 0 _ (List.getElem?_eq_getElem (by omega))
    have e := addr_none (a := x) (by simpa using c0)
    obtain ⟨cs', q4, _, q5⟩ := hp i hi2
    refine ⟨x.block, x.off, cs', by rw [← e], q4, fun j u hu => ?_⟩
    have := q5 j u hu
    rw [e, add_plain] at this
    rw [Nat.add_assoc]; exact this
theorem openBks {fuel : Nat} {cs : List Value} {y : DataW H × List MemPlace} (h : DataW.trod enc Tryz.prog w base spare held fuel 34 cs = some y) : ∃ v l, cs = [v] ∧ ArgBks w v l := by
  obtain ⟨v, L, e, hv⟩ := openSl (k := 3) (Q := fun _ cs (b : Bk) => cs = encB b ∧ WfBk b) Tryz.underlying34 (by kernel_rfl) (by decide) (fun n cs y hy hl => by
    obtain ⟨ns, n1, n2, n3⟩ := flatBkR w base spare held n cs y hy
    match ns, n1, n2, n3 with
    | [a, b, c], _, e, hw =>
      obtain ⟨a0, a1⟩ := litR_i64 (hw 0 _ _ rfl rfl)
      obtain ⟨b0, b1⟩ := litR_u32 (hw 1 _ _ rfl rfl)
      obtain ⟨c0, c1⟩ := litR_i64 (hw 2 _ _ rfl rfl)
      exact ⟨⟨a, b, c⟩, by rw [e]; rfl, ⟨a0, a1, b0, b1, c0, c1⟩⟩) h
  obtain ⟨a, c, e1, h1, h2, hn, h3⟩ := hv.ex
  refine ⟨v, L, e, ⟨⟨a, c, e1, ⟨bkV_length L, fun h0 => ?_⟩, h1, h2, hn⟩, fun b hb => ?_⟩⟩
  · obtain ⟨g, o, cs0, e0, _, _⟩ := h3 0 _ (List.getElem?_eq_getElem h0)
    refine ⟨⟨g, o, none⟩, e0, fun j u hu => ?_⟩
    obtain ⟨b, hb, hbu⟩ := bkV_get hu
    obtain ⟨g', o', cs', e', ⟨ec, _⟩, hc⟩ := h3 _ _ hb
    rw [e0] at e'; cases e'
    subst ec
    have := hc _ _ hbu
    rw [add_at, show o + j = o + j / 3 * 3 + j % 3 by omega]
    exact this
  · obtain ⟨i, hi, rfl⟩ := List.mem_iff_getElem.1 hb
    obtain ⟨_, _, _, _, ⟨_, hw⟩, _⟩ := h3 i _ (List.getElem?_eq_getElem hi)
    exact hw
theorem fld {fs : Array Field} {n' : Nat} {cs : List Value} {xs : List (DataW H × List MemPlace)} (hfl : ∀ (i : Nat) (f : Field), fs[i]? = some f → DataW.trod enc P w base spare held n' f.type ((cs.drop f.offset).take (P.cellsOf f.type)) = xs[i]?) {j o k T : Nat} {f : Field} (hj : fs[j]? = some f) (ht : f.type = T) (ho : f.offset = o) (hk : P.cellsOf T = k) (hx : j < xs.length) :
    ∃ z, DataW.trod enc P w base spare held n' T ((cs.drop o).take k) = some z := by
  subst ht ho hk
  exact ⟨xs[j], by rw [hfl j f hj]; exact List.getElem?_eq_getElem hx⟩
end
section
variable {w0 w : World} {R : List Asrt}
end
def CrcRel (bs : List UInt8) (c k : Value) : Prop := ∃ i : Nat, i ≤ bs.length ∧ k = .int .i64 i ∧ c = .int .u32 (crcFrom 0xffffffff (bs.take i))
def BitRel (c0 : Nat) (c k : Value) : Prop := ∃ j : Nat, j ≤ 8 ∧ k = .int .i64 j ∧ c = .int .u32 (crcBits j c0)
theorem bits_xor_u32 (a b : Nat) (ha : a < 4294967296) (hb : b < 4294967296) : bits .xor .u32 (a : Int) (b : Int) = ((a ^^^ b : Nat) : Int) := by
  have hx : a ^^^ b < 2 ^ 32 := Nat.xor_lt_two_pow (by omega) (by omega)
  have h1 : (BitVec.ofInt 32 (a : Int)).toNat = a := by
    rw [BitVec.ofInt_natCast, BitVec.toNat_ofNat]; exact Nat.mod_eq_of_lt (by omega)
  have h2 : (BitVec.ofInt 32 (b : Int)).toNat = b := by
    rw [BitVec.ofInt_natCast, BitVec.toNat_ofNat]; exact Nat.mod_eq_of_lt (by omega)
  show IntKind.u32.wrap ((BitVec.ofInt 32 (a : Int) ^^^ BitVec.ofInt 32 (b : Int)).toNat : Int) = _
  rw [BitVec.toNat_xor, h1, h2]
  rw [show ∀ n, IntKind.u32.wrap n = n % 4294967296 from fun n => by simp [IntKind.wrap, IntKind.bits, IntKind.signed]]
  omega
theorem bits_and_u32 (a b : Nat) (ha : a < 4294967296) (hb : b < 4294967296) : bits .and .u32 (a : Int) (b : Int) = ((a &&& b : Nat) : Int) := by
  have hx : a &&& b < 2 ^ 32 := Nat.and_lt_two_pow _ (by omega)
  have h1 : (BitVec.ofInt 32 (a : Int)).toNat = a := by
    rw [BitVec.ofInt_natCast, BitVec.toNat_ofNat]; exact Nat.mod_eq_of_lt (by omega)
  have h2 : (BitVec.ofInt 32 (b : Int)).toNat = b := by
    rw [BitVec.ofInt_natCast, BitVec.toNat_ofNat]; exact Nat.mod_eq_of_lt (by omega)
  show IntKind.u32.wrap ((BitVec.ofInt 32 (a : Int) &&& BitVec.ofInt 32 (b : Int)).toNat : Int) = _
  rw [BitVec.toNat_and, h1, h2]
  rw [show ∀ n, IntKind.u32.wrap n = n % 4294967296 from fun n => by simp [IntKind.wrap, IntKind.bits, IntKind.signed]]
  omega
theorem heap3_mid (w : World) (A B C : Obj) : (((w.alloc A).alloc B).alloc C).heap[w.heap.size + 1]? = some B := by
  rw [heap_alloc_old _ _ (by rw [World.size_alloc, World.size_alloc]; omega), heap_alloc2_new]
def setL : Nat → List Value → Array Value → Array Value
  | _, [], C => C
  | o, x :: xs, C => setL (o + 1) xs (C.setIfInBounds o x)
theorem setL_toList : ∀ (xs : List Value) (o : Nat) (C : Array Value), o + xs.length ≤ C.size → (setL o xs C).toList = C.toList.take o ++ (xs ++ C.toList.drop (o + xs.length))
  | [], o, C, h => by simp [setL]
  | x :: xs, o, C, h => by
    simp only [List.length_cons] at h
    have h1 := setL_toList xs (o + 1) (C.setIfInBounds o x) (by simp; omega)
    show (setL (o + 1) xs (C.setIfInBounds o x)).toList = _
    rw [h1, Array.toList_setIfInBounds]
    have e1 : (C.toList.set o x).take (o + 1) = C.toList.take o ++ [x] := by
      rw [List.take_add_one, List.take_set_of_le (Nat.le_refl _), List.getElem?_set_self (by simp; omega)]; rfl
    have e2 : (C.toList.set o x).drop (o + 1 + xs.length) = C.toList.drop (o + 1 + xs.length) := List.drop_set_of_lt (by omega)
    rw [e1, e2, List.append_assoc]
    simp only [List.length_cons, List.cons_append, List.nil_append]
    rw [show o + 1 + xs.length = o + (xs.length + 1) by omega]
theorem setL_full {xs : List Value} {C : Array Value} (h : xs.length = C.size) : setL 0 xs C = xs.toArray := by
  apply Array.toList_inj.1
  rw [setL_toList xs 0 C (by omega)]
  simp [h]
theorem In.setCs {F0 : List Nat} {w0 : World} {b : Nat} {T : TypeId} : ∀ (xs : List Value) (o : Nat) {w : World} {R : List Asrt} {C : Array Value} (i : Nat), In F0 w0 w R → R[i]? = some (Cells b C T) → In F0 w0 (w.setCells b o xs) (R.set i (Cells b (setL o xs C) T))
  | [], o, w, R, C, i, h, hA => by
    have : R.set i (Cells b C T) = R := set_same hA
    show In F0 w0 w (R.set i (Cells b C T))
    rw [this]; exact h
  | x :: xs, o, w, R, C, i, h, hA => by
    have h1 := h.put i hA o x
    have hi : i < R.length := (List.getElem?_eq_some_iff.1 hA).1
    have h2 := In.setCs (b := b) (T := T) xs (o + 1) (C := C.setIfInBounds o x) i h1 (by simp [hi])
    rw [List.set_set] at h2
    exact h2
theorem In.setFull {F0 : List Nat} {w0 w : World} {R : List Asrt} {b : Nat} {T : TypeId} {C : Array Value} (h : In F0 w0 w R) (i : Nat) (hA : R[i]? = some (Cells b C T)) {xs : List Value} (hl : xs.length = C.size) : In F0 w0 (w.setCells b 0 xs) (R.set i (Cells b xs.toArray T)) := by
  have h1 := In.setCs xs 0 i h hA
  rwa [setL_full hl] at h1
theorem there_of {w : World} {b : Nat} {C : Array Value} {T : TypeId} (h : w.heap[b]? = some (.cells C T (0, 0))) : w.there b 0 C.size := fun j hj => by
  rw [Nat.zero_add]
  refine ⟨?_, free_of h⟩
  rw [cell_of h (Array.getElem?_eq_getElem hj)]; rfl
abbrev ByR (v : Value) (bs : List UInt8) : Asrt := RowA 5 1 v bs.length (u8s bs)
theorem be_two (n : Nat) : be n 2 = [UInt8.ofNat (n / 256), UInt8.ofNat n] := by simp [be, beTo, List.range_succ]
theorem be_four (n : Nat) : be n 4 = [UInt8.ofNat (n / 16777216), UInt8.ofNat (n / 65536), UInt8.ofNat (n / 256), UInt8.ofNat n] := by simp [be, beTo, List.range_succ]
theorem ofNat_val (n : Nat) : ((UInt8.ofNat n).toNat : Int) = (n : Int) % 256 := by simp
theorem u64_natQ {n : Nat} (h : n < 18446744073709551616) : u64 (n : Int) = n := by unfold u64; omega
theorem or_add (a b k : Nat) (hb : b < 2 ^ k) : (a * 2 ^ k) ||| b = a * 2 ^ k + b := by
  rw [Nat.mul_comm]; exact (Nat.two_pow_add_eq_or_of_lt hb a).symm
theorem bits_or_u32 (a b : Nat) (ha : a < 4294967296) (hb : b < 4294967296) : bits .or .u32 (a : Int) (b : Int) = ((a ||| b : Nat) : Int) := by
  have hx : a ||| b < 2 ^ 32 := Nat.or_lt_two_pow (by omega) (by omega)
  have h1 : (BitVec.ofInt 32 (a : Int)).toNat = a := by
    rw [BitVec.ofInt_natCast, BitVec.toNat_ofNat]; exact Nat.mod_eq_of_lt (by omega)
  have h2 : (BitVec.ofInt 32 (b : Int)).toNat = b := by
    rw [BitVec.ofInt_natCast, BitVec.toNat_ofNat]; exact Nat.mod_eq_of_lt (by omega)
  show IntKind.u32.wrap ((BitVec.ofInt 32 (a : Int) ||| BitVec.ofInt 32 (b : Int)).toNat : Int) = _
  rw [BitVec.toNat_or, h1, h2]
  rw [show ∀ n, IntKind.u32.wrap n = n % 4294967296 from fun n => by simp [IntKind.wrap, IntKind.bits, IntKind.signed]]
  omega
theorem bits_or_i64 (a b : Nat) (ha : a < 4294967296) (hb : b < 4294967296) : bits .or .i64 (a : Int) (b : Int) = ((a ||| b : Nat) : Int) := by
  have hx : a ||| b < 2 ^ 32 := Nat.or_lt_two_pow (by omega) (by omega)
  have h1 : (BitVec.ofInt 64 (a : Int)).toNat = a := by
    rw [BitVec.ofInt_natCast, BitVec.toNat_ofNat]; exact Nat.mod_eq_of_lt (by omega)
  have h2 : (BitVec.ofInt 64 (b : Int)).toNat = b := by
    rw [BitVec.ofInt_natCast, BitVec.toNat_ofNat]; exact Nat.mod_eq_of_lt (by omega)
  show IntKind.i64.wrap ((BitVec.ofInt 64 (a : Int) ||| BitVec.ofInt 64 (b : Int)).toNat : Int) = _
  rw [BitVec.toNat_or, h1, h2]
  exact IntWalk.i64_in _ (by omega)
theorem or_two {x0 x1 : Nat} (h0 : x0 < 256) (h1 : x1 < 256) : bits .or .i64 ((x0 : Int) * 256) (x1 : Int) = ((x0 * 256 + x1 : Nat) : Int) := by
  have e : ((x0 : Int) * 256) = ((x0 * 256 : Nat) : Int) := by omega
  rw [e, bits_or_i64 _ _ (by omega) (by omega), show x0 * 256 = x0 * 2 ^ 8 by omega, or_add x0 x1 8 (by omega)]
theorem num_two (x0 x1 : UInt8) : num [x0, x1] = x0.toNat * 256 + x1.toNat := by simp [num]
theorem num_four (x0 x1 x2 x3 : UInt8) : num [x0, x1, x2, x3] = x0.toNat * 16777216 + x1.toNat * 65536 + x2.toNat * 256 + x3.toNat := by simp [num]; omega
theorem results_cell_tmp2_row {P : Program} {fn : Func} {p u1 u2 : Tmp} {ty : TypeId} (h : fn.results = #[.cell p ty, .tmp u1, .tmp u2]) (tmps : Array Value) (w : World) (g : Nat) (t : TypeId) (cs : Array Value) (fr : Nat × Nat) (d : TypeDesc)
    (hp : tmps.getD p undef = .pointer (some ⟨g, 0, none⟩)) (hg : w.heap[g]? = some (.cells cs t fr))
    (hu : P.underlying ty = some d) (hd : (match d with | .struct _ | .array _ _ => true | _ => false) = true) (hi : (P.info? ty).map (·.size) = some cs.size) :
    (results fn tmps).run P w = .ok (.tuple #[.agg cs, tmps.getD u1 undef, tmps.getD u2 undef]) w := by
  have e : (results fn tmps).run P w = ((asAddr (tmps.getD p undef)).run P w).andThen fun a w₁ => ((loadVar ty a).run P w₁).andThen fun v w₂ => .ok (.tuple #[v, tmps.getD u1 undef, tmps.getD u2 undef]) w₂ := by
    simp only [results, h]
    simp [Sem.run_bind, Result.andThen]
  rw [e, hp]
  simp [asAddr, run_loadVar_row w g t ty cs fr d hg hu hd hi, Result.andThen]
theorem results_tmp_cell_row {P : Program} {fn : Func} {p u : Tmp} {ty : TypeId} (h : fn.results = #[.tmp u, .cell p ty]) (tmps : Array Value) (w : World) (g : Nat) (t : TypeId) (cs : Array Value) (fr : Nat × Nat) (d : TypeDesc)
    (hp : tmps.getD p undef = .pointer (some ⟨g, 0, none⟩)) (hg : w.heap[g]? = some (.cells cs t fr))
    (hu : P.underlying ty = some d) (hd : (match d with | .struct _ | .array _ _ => true | _ => false) = true) (hi : (P.info? ty).map (·.size) = some cs.size) :
    (results fn tmps).run P w = .ok (.tuple #[tmps.getD u undef, .agg cs]) w := by
  have e : (results fn tmps).run P w = ((asAddr (tmps.getD p undef)).run P w).andThen fun a w₁ => ((loadVar ty a).run P w₁).andThen fun v w₂ => .ok (.tuple #[tmps.getD u undef, v]) w₂ := by
    simp only [results, h]
    simp [Sem.run_bind, Result.andThen]
  rw [e, hp]
  simp [asAddr, run_loadVar_row w g t ty cs fr d hg hu hd hi, Result.andThen]
theorem results_cell2_tmp_row {P : Program} {fn : Func} {p p' u : Tmp} {ty ty' : TypeId} (h : fn.results = #[.cell p ty, .cell p' ty', .tmp u]) (tmps : Array Value) (w : World) (g g' : Nat) (t t' : TypeId) (cs cs' : Array Value) (fr fr' : Nat × Nat) (d d' : TypeDesc)
    (hp : tmps.getD p undef = .pointer (some ⟨g, 0, none⟩)) (hg : w.heap[g]? = some (.cells cs t fr)) (hp' : tmps.getD p' undef = .pointer (some ⟨g', 0, none⟩)) (hg' : w.heap[g']? = some (.cells cs' t' fr'))
    (hu : P.underlying ty = some d) (hd : (match d with | .struct _ | .array _ _ => true | _ => false) = true) (hi : (P.info? ty).map (·.size) = some cs.size)
    (hu' : P.underlying ty' = some d') (hd' : (match d' with | .struct _ | .array _ _ => true | _ => false) = true) (hi' : (P.info? ty').map (·.size) = some cs'.size) :
    (results fn tmps).run P w = .ok (.tuple #[.agg cs, .agg cs', tmps.getD u undef]) w := by
  have e : (results fn tmps).run P w = ((asAddr (tmps.getD p undef)).run P w).andThen fun a w₁ => ((loadVar ty a).run P w₁).andThen fun v w₂ => ((asAddr (tmps.getD p' undef)).run P w₂).andThen fun a' w₃ => ((loadVar ty' a').run P w₃).andThen fun v' w₄ => .ok (.tuple #[v, v', tmps.getD u undef]) w₄ := by
    simp only [results, h]
    simp [Sem.run_bind, Result.andThen]
  rw [e, hp, hp']
  simp [asAddr, run_loadVar_row w g t ty cs fr d hg hu hd hi, run_loadVar_row w g' t' ty' cs' fr' d' hg' hu' hd' hi', Result.andThen]
theorem results_cell2_tmp2_row {P : Program} {fn : Func} {p p' u u2 : Tmp} {ty ty' : TypeId} (h : fn.results = #[.cell p ty, .cell p' ty', .tmp u, .tmp u2]) (tmps : Array Value) (w : World) (g g' : Nat) (t t' : TypeId) (cs cs' : Array Value) (fr fr' : Nat × Nat) (d d' : TypeDesc)
    (hp : tmps.getD p undef = .pointer (some ⟨g, 0, none⟩)) (hg : w.heap[g]? = some (.cells cs t fr)) (hp' : tmps.getD p' undef = .pointer (some ⟨g', 0, none⟩)) (hg' : w.heap[g']? = some (.cells cs' t' fr'))
    (hu : P.underlying ty = some d) (hd : (match d with | .struct _ | .array _ _ => true | _ => false) = true) (hi : (P.info? ty).map (·.size) = some cs.size)
    (hu' : P.underlying ty' = some d') (hd' : (match d' with | .struct _ | .array _ _ => true | _ => false) = true) (hi' : (P.info? ty').map (·.size) = some cs'.size) :
    (results fn tmps).run P w = .ok (.tuple #[.agg cs, .agg cs', tmps.getD u undef, tmps.getD u2 undef]) w := by
  have e : (results fn tmps).run P w = ((asAddr (tmps.getD p undef)).run P w).andThen fun a w₁ => ((loadVar ty a).run P w₁).andThen fun v w₂ => ((asAddr (tmps.getD p' undef)).run P w₂).andThen fun a' w₃ => ((loadVar ty' a').run P w₃).andThen fun v' w₄ => .ok (.tuple #[v, v', tmps.getD u undef, tmps.getD u2 undef]) w₄ := by
    simp only [results, h]
    simp [Sem.run_bind, Result.andThen]
  rw [e, hp, hp']
  simp [asAddr, run_loadVar_row w g t ty cs fr d hg hu hd hi, run_loadVar_row w g' t' ty' cs' fr' d' hg' hu' hd' hi', Result.andThen]
theorem seg_two {b : List UInt8} {i : Nat} {x0 x1 : UInt8} (h0 : b[i]? = some x0) (h1 : b[i + 1]? = some x1) : (b.drop i).take 2 = [x0, x1] := by
  have hl := (List.getElem?_eq_some_iff.1 h1).1
  rw [List.drop_eq_getElem_cons (by omega), List.drop_eq_getElem_cons (by omega)]
  have e0 := (List.getElem?_eq_some_iff.1 h0).2
  have e1 := (List.getElem?_eq_some_iff.1 h1).2
  rw [e0, e1]; simp
theorem seg_four {b : List UInt8} {i : Nat} {x0 x1 x2 x3 : UInt8} (h0 : b[i]? = some x0) (h1 : b[i + 1]? = some x1) (h2 : b[i + 2]? = some x2) (h3 : b[i + 3]? = some x3) : (b.drop i).take 4 = [x0, x1, x2, x3] := by
  have hl := (List.getElem?_eq_some_iff.1 h3).1
  have e0 := (List.getElem?_eq_some_iff.1 h0).2
  have e1 := (List.getElem?_eq_some_iff.1 h1).2
  have e2 := (List.getElem?_eq_some_iff.1 h2).2
  have e3 := (List.getElem?_eq_some_iff.1 h3).2
  rw [List.drop_eq_getElem_cons (by omega), List.drop_eq_getElem_cons (by omega), List.drop_eq_getElem_cons (by omega), List.drop_eq_getElem_cons (by omega)]
  rw [e0, e1, e2, e3]; simp
theorem results_cell_tmp_row {P : Program} {fn : Func} {p u : Tmp} {ty : TypeId} (h : fn.results = #[.cell p ty, .tmp u]) (tmps : Array Value) (w : World) (g : Nat) (t : TypeId) (cs : Array Value) (fr : Nat × Nat) (d : TypeDesc)
    (hp : tmps.getD p undef = .pointer (some ⟨g, 0, none⟩)) (hg : w.heap[g]? = some (.cells cs t fr))
    (hu : P.underlying ty = some d) (hd : (match d with | .struct _ | .array _ _ => true | _ => false) = true) (hi : (P.info? ty).map (·.size) = some cs.size) :
    (results fn tmps).run P w = .ok (.tuple #[.agg cs, tmps.getD u undef]) w := by
  rw [results_cell_tmp h, hp]
  simp [asAddr, run_loadVar_row w g t ty cs fr d hg hu hd hi, Result.andThen]
theorem Src.plain {w : World} {A : Option Addr} {m k : Nat} {news : List Value} (h : Src w A m k news) (h0 : 0 < m) (hk : 0 < k) : ∃ g o, A = some ⟨g, o, none⟩ ∧ ∀ j u, news[j]? = some u → w.cell? ⟨g, o + j, none⟩ = some u := by
  obtain ⟨ad, e, hc⟩ := h.at' h0
  have hl : 0 < news.length := by rw [h.len]; exact Nat.mul_pos h0 hk
  have c0 := hc 0 _ (List.getElem?_eq_getElem hl)
  have e2 := addr_none c0
  refine ⟨ad.block, ad.off, by rw [e]; exact congrArg some e2, fun j u hu => ?_⟩
  have := hc j u hu
  rw [e2, add_plain] at this
  exact this
section
variable {F0 : List Nat} {w0 w : World} {R : List Asrt}
theorem w_new {g : Nat} (h : In F0 w0 w (Cells g #[.slice none 0 0] 167 :: R)) : In F0 w0 w (WA g [] :: R) := by
  have h1 := h.rownil 5 1
  exact h1.fold (C := WA g []) 0 rfl (WA.framed _ _) (fun F hF => ⟨_, hF⟩)
theorem src_take {A : Option Addr} {n m : Nat} {bs : List UInt8} (h : Src w A n 1 (u8s bs)) (hn : bs.length = n) (hm : m ≤ n) : Src w A m 1 (u8s (bs.take m)) := by
  refine ⟨by rw [u8s_length, List.length_take]; omega, fun h0 => ?_⟩
  obtain ⟨ad, e, hc⟩ := h.at' (by omega)
  refine ⟨ad, e, fun j u hu => hc j u ?_⟩
  rw [← u8s_take, List.getElem?_take] at hu
  split at hu
  · exact hu
  · cases hu
theorem src_drop {g o n i : Nat} {bs : List UInt8} (h : Src w (some ⟨g, o, none⟩) n 1 (u8s bs)) (hn : bs.length = n) (hi : i < n) : Src w (some ⟨g, o + i, none⟩) (n - i) 1 (u8s (bs.drop i)) := by
  refine ⟨by rw [u8s_length, List.length_drop]; omega, fun h0 => ?_⟩
  obtain ⟨ad, e, hc⟩ := h.at' (by omega)
  cases e
  refine ⟨_, rfl, fun j u hu => ?_⟩
  rw [← u8s_drop, List.getElem?_drop] at hu
  have := hc _ u hu
  rw [add_at] at this ⊢
  rwa [Nat.add_assoc]
theorem run_mid (g o : Nat) (n cap i j : Nat) (h0 : i < cap) (h1 : i ≤ j) (h2 : j ≤ cap) (w : World) :
    (Instr.slice 35 (.slice (some ⟨g, o, none⟩) n cap) (some (.int .i64 i)) (some (.int .i64 j)) none).run Tryz.prog w = .ok (.slice (some ⟨g, o + i, none⟩) (j - i) (cap - i)) w := by
  have he : Tryz.prog.elem 35 = 5 := by simp [Program.elem, Tryz.underlying35]
  have hs : (sizeOf 5).run Tryz.prog w = .ok 1 w := by
    have hinf := infoByte
    cases e : Tryz.prog.info? 5 with
    | none => rw [e] at hinf; cases hinf
    | some i0 =>
      rw [e] at hinf
      simp only [Option.map_some, Option.some.injEq, Prod.mk.injEq] at hinf
      simp [sizeOf, typeInfo, e, hinf.2.1]
  have := run_slice_lh (P := Tryz.prog) w 35 (some ⟨g, o, none⟩) n cap (by rw [he]; exact Tryz.underlying35) .i64 .i64 (i : Int) (j : Int) (by omega) (by omega) (by omega)
  rw [this, he, hs]
  have hne : ¬ cap = i := by omega
  simp [Result.andThen, sliced, add_at, hne]
theorem run_mid_end (g o : Nat) (n cap : Nat) (w : World) :
    (Instr.slice 35 (.slice (some ⟨g, o, none⟩) n cap) (some (.int .i64 cap)) (some (.int .i64 cap)) none).run Tryz.prog w = .ok (.slice (some ⟨g, o, none⟩) 0 0) w := by
  have he : Tryz.prog.elem 35 = 5 := by simp [Program.elem, Tryz.underlying35]
  have hs : (sizeOf 5).run Tryz.prog w = .ok 1 w := by
    have hinf := infoByte
    cases e : Tryz.prog.info? 5 with
    | none => rw [e] at hinf; cases hinf
    | some i0 =>
      rw [e] at hinf
      simp only [Option.map_some, Option.some.injEq, Prod.mk.injEq] at hinf
      simp [sizeOf, typeInfo, e, hinf.2.1]
  have := run_slice_lh (P := Tryz.prog) w 35 (some ⟨g, o, none⟩) n cap (by rw [he]; exact Tryz.underlying35) .i64 .i64 (cap : Int) (cap : Int) (by omega) (by omega) (by omega)
  rw [this, he, hs]
  simp [Result.andThen, sliced]
theorem rdTake_ok {l : List UInt8} {n : Nat} (h : n ≤ l.length) : rdTake l 0 n = (l.take n, l.drop n, 0) := by unfold rdTake; rw [if_neg (by simp), if_neg (by omega)]
structure Bytes (F0 : List Nat) (w0 : World) (R : List Asrt) (A : Option Addr) (c : Nat) (b : List UInt8) : Prop where
  src : ∀ w', In F0 w0 w' R → Src w' A b.length 1 (u8s b)
  nil : A = none → c = 0 ∧ b = []
  ad : A = none ∨ b = [] ∨ ∃ g o, A = some ⟨g, o, none⟩
  cap : b.length ≤ c
  room : c ≤ maxLen
theorem set_cell_same {g : Nat} {C : Array Value} {T : TypeId} {fz : Nat × Nat} (h : w.heap[g]? = some (.cells C T fz)) {o : Nat} (ho : o < C.size) (v : Value) : (w.setCell ⟨g, o, none⟩ v).cell? ⟨g, o, none⟩ = some v :=
  cell_of (hp_setCell_same h) (by simp [ho])
theorem ByR.shape {v : Value} {bs : List UInt8} {w : World} {R : List Asrt} {F0 : List Nat} {w0 : World} (h : In F0 w0 w (ByR v bs :: R)) : ∃ a c, v = .slice a bs.length c := by
  obtain ⟨F, r⟩ := h.get 0 rfl
  obtain ⟨a, c, rfl, -, -, -⟩ := RowA.shape r
  exact ⟨a, c, rfl⟩
theorem ByR.src {a : Option Addr} {n c : Nat} {bs : List UInt8} {w : World} {R : List Asrt} {F0 : List Nat} {w0 : World} (h : In F0 w0 w R) (i : Nat) (hA : R[i]? = some (ByR (.slice a n c) bs)) : Src w a bs.length 1 (u8s bs) := by
  obtain ⟨F, r⟩ := h.get i hA
  exact r.all
theorem by_app {v : Value} {x y : List UInt8} (h : In F0 w0 w (RowA 5 1 v (x.length + y.length) (u8s x ++ u8s y) :: R)) : In F0 w0 w (ByR v (x ++ y) :: R) := by
  have e : u8s (x ++ y) = u8s x ++ u8s y := by simp [u8s]
  show In F0 w0 w (RowA 5 1 v (x ++ y).length (u8s (x ++ y)) :: R)
  rw [e, List.length_append]; exact h
theorem Bytes.cells {A : Option Addr} {c : Nat} {b : List UInt8} (hb : Bytes F0 w0 R A c b) (h0 : 0 < b.length) : ∃ g o, A = some ⟨g, o, none⟩ ∧ ∀ W, In F0 w0 W R → ∀ j x, b[j]? = some x → W.cell? ⟨g, o + j, none⟩ = some (.int .u8 x.toNat) := by
  obtain ⟨g, o, rfl⟩ : ∃ g o, A = some ⟨g, o, none⟩ := by
    rcases hb.ad with rfl | rfl | h
    · have := (hb.nil rfl).2; subst this; simp at h0
    · simp at h0
    · exact h
  refine ⟨g, o, rfl, fun W hW j x hx => ?_⟩
  obtain ⟨ad, e, hc⟩ := (hb.src W hW).at' h0
  cases e
  have := hc j (.int .u8 x.toNat) (by simp [u8s, hx])
  rwa [add_at] at this
theorem byteAt {g o : Nat} {b : List UInt8} (hc : ∀ W, In F0 w0 W R → ∀ j x, b[j]? = some x → W.cell? ⟨g, o + j, none⟩ = some (.int .u8 x.toNat)) {i : Nat} (hi : i < b.length) : ∃ (x : UInt8) (y : Nat), b[i]? = some x ∧ x.toNat = y ∧ y < 256 ∧ ∀ W, In F0 w0 W R → W.cell? ⟨g, o + i, none⟩ = some (.int .u8 y) :=
  ⟨b[i], b[i].toNat, List.getElem?_eq_getElem hi, rfl, b[i].toNat_lt, fun W hW => hc W hW i _ (List.getElem?_eq_getElem hi)⟩
theorem seg_one {b : List UInt8} {i : Nat} {x : UInt8} (h : b[i]? = some x) : (b.drop i).take 1 = [x] := by
  have hl := (List.getElem?_eq_some_iff.1 h).1
  rw [List.drop_eq_getElem_cons hl, (List.getElem?_eq_some_iff.1 h).2]; simp
theorem num_one (x : UInt8) : num [x] = x.toNat := by simp [num]
theorem run_suf (g o : Nat) (n cap i : Nat) (h1 : i ≤ n) (h2 : i < cap) (w : World) :
    (Instr.slice 35 (.slice (some ⟨g, o, none⟩) n cap) (some (.int .i64 i)) none none).run Tryz.prog w = .ok (.slice (some ⟨g, o + i, none⟩) (n - i) (cap - i)) w := by
  rw [run_suffix Tryz.underlying35 infoByte _ _ _ _ h1]
  unfold sufA
  rw [if_neg (by omega)]
  simp [add_at]
theorem In.rowFull (h : In F0 w0 w R) (i : Nat) {g n : Nat} {C : Array Value} {T : TypeId} {k : Nat} (hA : R[i]? = some (Cells g C T)) (hs : C.size = n * k) (hn : n ≤ maxLen) : In F0 w0 w (R.set i (RowA T k (.slice (some ⟨g, 0, none⟩) n n) n C.toList)) :=
  h.imp i hA (RowA.framed _ _ _ _ _) fun F hF => ⟨by rw [hF.1]; simp [Value.ownBlock], by simp [hs], Or.inr ⟨g, n, C, rfl, Nat.zero_le _, hF.2, Nat.le_refl _, hn, hs, by rw [List.take_of_length_le (by simp [hs])]⟩⟩
end
end Go.Proofs.YtgapbecddgfkmaaGreat
