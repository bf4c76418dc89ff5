/- Rows.PathDropsSaid -/
import Derived.Test.YtgapbecddgfkmaaPN1
import Derived.Calls
import Derived.Maps.AppendAt
import Derived.Deep.AppendLies
import Derived.RegionTactic
import Derived.OwnWalk
import Derived.Test.YtgapbecddgfkmaaPN2
import Derived.ProofKit
import Derived.SliceStrings
import Derived.Deep.Slices
import Derived.Deep.Fields
import Derived.Test.YtgapbecddgfkmaaPN7
import Derived.Test.YtgapbecddgfkmaaPN4
import Derived.Test.YtgapbecddgfkmaaPN18
import Derived.Test.YtgapbecddgfkmaaPN20
import Derived.Test.YtgapbecddgfkmaaPN19
import Derived.Test.YtgapbecddgfkmaaPN21
import Derived.Test.YtgapbecddgfkmaaPN3
import Derived.Deep.DeepCutAuto
namespace Go.Proofs.Ytgapbecddgfkmaa
open Go.RowKit
open Go.RowKit Go.ChangeShapes Go.WideShapes Go.Deep
set_option linter.unusedVariables false
set_option maxHeartbeats 64000000
set_option maxRecDepth 100000
theorem Own.old {w0 w : World} {R : List Asrt} (h : Own w0 w R) {b : Nat} (hb : b < w0.heap.size) (o : Nat) : w.cell? ⟨b, o, none⟩ = w0.cell? ⟨b, o, none⟩ :=
  World.cell?_of_block (h.mod.block b hb (by simp))
section
variable {P : Program} {F0 : List Nat} {w0 w : World} {R : List Asrt} {T : TypeId} {k : Nat} {v : Value} {n : Nat} {xs : List Value}
variable {ops : Array Oper} {o : Oper} {a : Act} {Q : Exit → Act → World → Prop}
end
theorem exists_list {α : Type} {p : Nat → α → Prop} : ∀ (n : Nat), (∀ i, i < n → ∃ x, p i x) → ∃ l : List α, l.length = n ∧ ∀ i (hi : i < l.length), p i l[i]
  | 0, _ => ⟨[], rfl, fun i hi => by simp at hi⟩
  | n + 1, h => by
    obtain ⟨l, hl, hp⟩ := exists_list n (fun i hi => h i (by omega))
    obtain ⟨x, hx⟩ := h n (by omega)
    refine ⟨l ++ [x], by simp [hl], fun i hi => ?_⟩
    by_cases hin : i < l.length
    · rw [List.getElem_append_left hin]; exact hp i hin
    · have : i = l.length := by simp at hi; omega
      subst this
      simpa [hl] using hx
section
variable {H : Type} {enc : TypeId × Value → H} {P : Program} {w : World} {base : Nat} {spare : Nat → Bool} {held : Bool}
end
theorem encK_length : ∀ {ks : List IntKind} {ns : List Int}, ns.length = ks.length → (encK ks ns).length = ks.length
  | [], [], _ => rfl
  | k :: ks, n :: ns, h => by simp [encK, encK_length (ks := ks) (ns := ns) (by simpa using h)]
theorem encK_append : ∀ {ks : List IntKind} {ns : List Int} (ks' : List IntKind) (ns' : List Int), ns.length = ks.length → encK ks ns ++ encK ks' ns' = encK (ks ++ ks') (ns ++ ns')
  | [], [], _, _, _ => rfl
  | k :: ks, n :: ns, _, _, h => by simp [encK, encK_append (ks := ks) (ns := ns) _ _ (by simpa using h)]
theorem wfK_append {ks ks' : List IntKind} {ns ns' : List Int} (hl : ns.length = ks.length) (h : wfK ks ns) (h' : wfK ks' ns') : wfK (ks ++ ks') (ns ++ ns') := by
  intro j k n h1 h2
  by_cases hj : j < ks.length
  · rw [List.getElem?_append_left hj] at h1
    rw [List.getElem?_append_left (by omega)] at h2
    exact h j k n h1 h2
  · rw [List.getElem?_append_right (by omega)] at h1
    rw [List.getElem?_append_right (by omega)] at h2
    rw [hl] at h2
    exact h' _ k n h1 h2
section
variable {H : Type} (enc : TypeId × Value → H) (P : Program)
variable {enc P}
theorem flat_int {T : TypeId} {k : IntKind} (h : P.underlying T = some (.int k)) : FlatT enc P T [k] := by
  intro w base spare held n cs x hx
  obtain ⟨m, e, _, hw⟩ := DataW.trod_int h hx
  refine ⟨[m], rfl, by rw [e]; rfl, fun j k' n' h1 h2 => ?_⟩
  cases j with
  | zero => simp at h1 h2; subst h1; subst h2; exact hw
  | succ j => simp at h1
theorem flat_fields : ∀ (fk : List (Field × List IntKind)) (o : Nat), offs (P := P) o fk → (∀ p ∈ fk, FlatT enc P p.1.type p.2) → ∀ (w : World) (base : Nat) (spare : Nat → Bool) (held : Bool) (n : Nat) (cs : List Value) (xs : List (DataW H × List MemPlace)),
    (∀ (j : Nat) (f : Field), (fk.map (·.1))[j]? = some f → DataW.trod enc P w base spare held n f.type ((cs.drop f.offset).take (P.cellsOf f.type)) = xs[j]?) → xs.length = fk.length → cs.length = o + ((fk.map (·.2)).flatten).length →
    ∃ ns : List Int, ns.length = ((fk.map (·.2)).flatten).length ∧ cs.drop o = encK ((fk.map (·.2)).flatten) ns ∧ wfK ((fk.map (·.2)).flatten) ns
  | [], o, _, _, _, _, _, _, _, cs, _, _, _, hl => ⟨[], rfl, by
      have : cs.drop o = [] := List.drop_eq_nil_of_le (by simpa using Nat.le_of_eq hl)
      simp [this, encK], fun j k n h1 => by simp at h1⟩
  | (f, ks) :: r, o, ho, hf, w, base, spare, held, n, cs, xs, hx, hxl, hl => by
    obtain ⟨o1, o2, o3⟩ := ho
    cases xs with
    | nil => simp at hxl
    | cons x xs =>
      have h0 := hx 0 f (by simp)
      rw [o1, o2] at h0
      simp only [List.getElem?_cons_zero] at h0
      obtain ⟨ns, n1, n2, n3⟩ := hf (f, ks) (by simp) w base spare held n _ x h0
      obtain ⟨ms, m1, m2, m3⟩ := flat_fields r (o + ks.length) o3 (fun p hp => hf p (List.mem_cons_of_mem _ hp)) w base spare held n cs xs (fun j g hg => hx (j + 1) g (by simpa using hg)) (by simpa using hxl)
        (by rw [hl]; simp only [List.map_cons, List.flatten_cons, List.length_append]; omega)
      refine ⟨ns ++ ms, by simp only [List.map_cons, List.flatten_cons, List.length_append]; rw [n1, m1], ?_, by simpa using wfK_append n1 n3 m3⟩
      have : cs.drop o = (cs.drop o).take ks.length ++ (cs.drop o).drop ks.length := (List.take_append_drop _ _).symm
      rw [this, List.drop_drop, m2, n2, encK_append _ _ n1]
      simp
theorem flat_struct {T : TypeId} {fs : Array Field} (h : P.underlying T = some (.struct fs)) (fk : List (Field × List IntKind)) (hfk : fk.map (·.1) = fs.toList) (ho : offs (P := P) 0 fk) (hf : ∀ p ∈ fk, FlatT enc P p.1.type p.2)
    (hc : P.cellsOf T = ((fk.map (·.2)).flatten).length) : FlatT enc P T ((fk.map (·.2)).flatten) := by
  intro w base spare held n cs x hx
  obtain ⟨xs, n', _, _, hl, hlen, hfl⟩ := DataW.trod_struct h hx
  have := flat_fields fk 0 ho hf w base spare held n' cs xs (fun j f hj => hfl j f (by rw [hfk] at hj; simpa using hj)) (by rw [hlen, ← Array.length_toList, ← hfk, List.length_map]) (by rw [hl, hc]; omega)
  simpa using this
theorem openArgRows {T E : TypeId} {ks : List IntKind} (ht : P.underlying T = some (.slice E)) (hF : FlatT enc P E ks) (hC : P.cellsOf E = ks.length) (hpos : 0 < ks.length) {w : World} {base : Nat} {spare : Nat → Bool} {held : Bool} {a : Option Addr} {len cap : Nat} {d : DataW H} {p : List MemPlace}
    (h : DataW.Trod enc P w base spare held T (.slice a len cap) d p) : ∃ ps, ArgRows ks w a len cap ps := by
  obtain ⟨fuel, hf⟩ := h
  rcases open_slice ht hf with ⟨hcs, _⟩ | ⟨x, l, c, m, n, D, Pl, hcs, _, hl, hm, hmm, _, hi⟩
  · simp [Value.cells] at hcs
    obtain ⟨rfl, rfl, rfl⟩ := hcs
    exact ⟨[], rfl, Nat.le_refl _, Nat.zero_le _, by simp, Or.inl rfl⟩
  · simp [Value.cells] at hcs
    obtain ⟨rfl, rfl, rfl⟩ := hcs
    have hle : len ≤ m := by rw [hmm]; split <;> omega
    have one : ∀ i, i < len → ∃ ns : List Int, (ns.length = ks.length ∧ wfK ks ns) ∧ ∀ j v, (encK ks ns)[j]? = some v → w.cell? (x.add (i * ks.length + j)) = some v := by
      intro i hil
      obtain ⟨cs', hc, ht'⟩ := hi i (by omega)
      obtain ⟨ns, n1, n2, n3⟩ := hF w base spare held _ _ _ ht'
      obtain ⟨_, hcl, hat⟩ := World.cells?_some hc
      refine ⟨ns, ⟨n1, n3⟩, fun j v hv => ?_⟩
      have hj : j < P.cellsOf E := by
        have := (List.getElem?_eq_some_iff.1 hv).1
        rw [encK_length n1] at this; omega
      rw [← Go.Deep.add_add, ← hC, hat j hj, n2]; exact hv
    obtain ⟨ps, hl1, hp⟩ := exists_list len one
    refine ⟨ps, hl1, hl, hm, fun y hy => ?_, ?_⟩
    · obtain ⟨i, hi, rfl⟩ := List.mem_iff_getElem.1 hy
      exact (hp i hi).1
    · by_cases h0 : len = 0
      · exact Or.inl h0
      · have hlen0 : 0 < ps.length := by omega
        obtain ⟨⟨q1, q2⟩, q3⟩ := hp 0 hlen0
        have hk : 0 < (encK ks ps[0]).length := by rw [encK_length q1]; exact hpos
        have c0 := q3 0 _ (List.getElem?_eq_getElem hk)
        have e := addr_none (a := x) (by simpa using c0)
        right
        refine ⟨x.block, x.off, by rw [← e], ?_, fun i y hy j v hv => ?_⟩
        · have := World.block_lt_of_cell? _ _ c0; simpa [Addr.add] using this
        · obtain ⟨hi2, rfl⟩ := List.getElem?_eq_some_iff.1 hy
          have := (hp i hi2).2 j v hv
          rw [e, add_plain] at this
          exact this
end
theorem flatTupR {H : Type} {enc : TypeId × Value → H} : FlatT enc Try.prog 46 [.u32, .u32, .i64, .i64, .i64] := by
  refine flat_struct Try.underlying46 [(_, [.u32]), (_, [.u32]), (_, [.i64]), (_, [.i64]), (_, [.i64])] rfl ⟨rfl, by kernel_rfl, rfl, by kernel_rfl, rfl, by kernel_rfl, rfl, by kernel_rfl, rfl, by kernel_rfl, trivial⟩ ?_ (by kernel_rfl)
  intro p hp
  simp only [List.mem_cons, List.not_mem_nil, or_false] at hp
  rcases hp with rfl | rfl | rfl | rfl | rfl
  all_goals exact flat_int (by kernel_rfl)
theorem litR_i64 {n : Int} (h : (Lit.int .i64 n).wf = true) : -9223372036854775808 ≤ n ∧ n < 9223372036854775808 := by
  simp [Lit.wf, IntKind.min, IntKind.max, IntKind.signed, IntKind.bits] at h
  omega
theorem litR_u32 {n : Int} (h : (Lit.int .u32 n).wf = true) : 0 ≤ n ∧ n < 4294967296 := by
  simp [Lit.wf, IntKind.min, IntKind.max, IntKind.signed, IntKind.bits] at h
  omega
section
variable {H : Type} {enc : TypeId × Value → H} {P : Program} {w : World} {base : Nat} {spare : Nat → Bool} {held : Bool}
end
section
variable {w0 w : World} {R : List Asrt}
end
theorem table1 : tableM [⟨1, 1, 1⟩] 13 = List.replicate 13 1 := by decide +kernel
theorem made_none {self mtu most gen now : Int} {L : List Fl} {c : ChD} {k : Tup} (wk : WfT k) (mk : MayT k) (ttl flags : Int) (body : List UInt8) (hb : body.length ≤ 60000) (hn : 0 ≤ now ∧ now ≤ 1099511627776) (h : choiceD L c k = none) :
    pktD self mtu most L c gen now (madeD k ttl flags body) = (dropP 10, L) := by
  rw [made_pkt wk mk ttl flags body hb hn, h]; rfl
theorem made_drop {self mtu most gen now : Int} {L : List Fl} {c : ChD} {k : Tup} {be : Bk} (wk : WfT k) (mk : MayT k) (ttl flags : Int) (body : List UInt8) (hb : body.length ≤ 60000) (hn : 0 ≤ now ∧ now ≤ 1099511627776) (h : choiceD L c k = some be) {r : Int}
    (hr : (if u64 ttl % 256 ≤ 1 then 7 else if min mtu 2000 < 40 + ((innerL k flags body).length : Int) then 11 else 0 : Int) = r) (h0 : r ≠ 0) :
    pktD self mtu most L c gen now (madeD k ttl flags body) = (dropP r, L) := by
  rw [made_pkt wk mk ttl flags body hb hn, h]
  unfold pktOf
  rw [if_neg (by decide)]
  dsimp only
  rw [made_wrap wk ttl flags body hb, hr, if_pos h0]
theorem chOk_new : ChOk (newCh 13) := ⟨by decide, by decide, by decide, fun x hx => by simp [newCh] at hx⟩
section
variable {F0 : List Nat} {w0 w : World} {R : List Asrt} {bt cb : Nat} {most idle : Int} {L : List Fl} {c : ChD} {vl vt : Value}
end
def TpAt (w : World) (b o : Nat) (x : Tup) : Prop := w.cell? ⟨b, o, none⟩ = some (.int .u32 x.src) ∧ w.cell? ⟨b, o + 1, none⟩ = some (.int .u32 x.dst) ∧ w.cell? ⟨b, o + 2, none⟩ = some (.int .i64 x.proto) ∧ w.cell? ⟨b, o + 3, none⟩ = some (.int .i64 x.sport) ∧ w.cell? ⟨b, o + 4, none⟩ = some (.int .i64 x.dport)
structure ArgTp (w : World) (a : Option Addr) (len cap : Nat) (L : List Tup) : Prop where
  length : L.length = len
  room : len ≤ cap
  most : cap ≤ maxLen
  wf : ∀ x ∈ L, WfT x
  at' : len = 0 ∨ ∃ b o, a = some ⟨b, o, none⟩ ∧ b < w.heap.size ∧ ∀ (i : Nat) (x : Tup), L[i]? = some x → TpAt w b (o + i * 5) x
theorem tp_of {ns : List Int} (hl : ns.length = 5) (hw : wfK [.u32, .u32, .i64, .i64, .i64] ns) : ∃ t : Tup, encK [.u32, .u32, .i64, .i64, .i64] ns = (encT t).toList ∧ WfT t := by
  match ns, hl, hw with
  | [a, b, c, d, e], _, hw =>
    obtain ⟨a0, a1⟩ := litR_u32 (hw 0 _ _ rfl rfl)
    obtain ⟨b0, b1⟩ := litR_u32 (hw 1 _ _ rfl rfl)
    obtain ⟨c0, c1⟩ := litR_i64 (hw 2 _ _ rfl rfl)
    obtain ⟨d0, d1⟩ := litR_i64 (hw 3 _ _ rfl rfl)
    obtain ⟨e0, e1⟩ := litR_i64 (hw 4 _ _ rfl rfl)
    exact ⟨⟨a, b, c, d, e⟩, rfl, ⟨a0, a1, b0, b1, c0, by show c ≤ _; omega, d0, by show d ≤ _; omega, e0, by show e ≤ _; omega⟩⟩
theorem ArgTp.of {w : World} {a : Option Addr} {len cap : Nat} {ps : List (List Int)} (h : ArgRows [.u32, .u32, .i64, .i64, .i64] w a len cap ps) : ∃ L, ArgTp w a len cap L := by
  have one : ∀ i, i < ps.length → ∃ t : Tup, encK [.u32, .u32, .i64, .i64, .i64] (ps.getD i []) = (encT t).toList ∧ WfT t := fun i hi => by
    obtain ⟨h1, h2⟩ := h.shape ps[i] (List.getElem_mem hi)
    obtain ⟨t, e, wf⟩ := tp_of h1 h2
    exact ⟨t, by simpa [List.getD, hi] using e, wf⟩
  obtain ⟨L, hl, hL⟩ := exists_list ps.length one
  refine ⟨L, by rw [hl, h.length], h.room, h.most, fun x hx => ?_, ?_⟩
  · obtain ⟨i, hi, rfl⟩ := List.mem_iff_getElem.1 hx
    exact (hL i hi).2
  · rcases h.at' with h0 | ⟨b, o, rfl, hb, hc⟩
    · exact Or.inl h0
    · refine Or.inr ⟨b, o, rfl, hb, fun i x hx => ?_⟩
      obtain ⟨hi, rfl⟩ := List.getElem?_eq_some_iff.1 hx
      have e := (hL i hi).1
      have hi' : i < ps.length := by omega
      have hp : ps[i]? = some ps[i] := List.getElem?_eq_getElem hi'
      have e' : encK [.u32, .u32, .i64, .i64, .i64] ps[i] = (encT L[i]).toList := by simpa [List.getD, hi'] using e
      have key : ∀ c u, (encT L[i])[c]? = some u → w.cell? ⟨b, o + i * 5 + c, none⟩ = some u := fun c u hu => by
        rw [Nat.add_assoc]; exact hc i _ hp c u (by rw [e', Array.getElem?_toList]; exact hu)
      exact ⟨key 0 _ rfl, key 1 _ rfl, key 2 _ rfl, key 3 _ rfl, key 4 _ rfl⟩
theorem openTuples {H : Type} {enc : TypeId × Value → H} {w : World} {base : Nat} {spare : Nat → Bool} {held : Bool} {a : Option Addr} {len cap : Nat} {d : DataW H} {p : List MemPlace}
    (h : DataW.Trod enc Try.prog w base spare held 55 (.slice a len cap) d p) : ∃ L, ArgTp w a len cap L := by
  obtain ⟨ps, hp⟩ := openArgRows Try.underlying55 flatTupR (by kernel_rfl) (by decide) h
  exact ArgTp.of hp
theorem TpAt.old {w0 w : World} {R : List Asrt} (h : In [] w0 w R) {b o : Nat} {x : Tup} (hb : b < w0.heap.size) (hx : TpAt w0 b o x) : TpAt w b o x := by
  obtain ⟨a0, a1, a2, a3, a4⟩ := hx
  exact ⟨(Own.old h hb _).trans a0, (Own.old h hb _).trans a1, (Own.old h hb _).trans a2, (Own.old h hb _).trans a3, (Own.old h hb _).trans a4⟩
section
variable {F0 : List Nat} {w0 w : World} {R : List Asrt}
theorem o_qmayt (t : Tup) (h : In F0 w0 w R) : Calls Try.prog 15 #[.agg (encT t)] w fun e w' => e = .returned (.bool (decide (MayT t))) ∧ In F0 w0 w' R := by
  have G := Lib.hid ((h.cells (encT t) 46).drop)
  clear h
  by_cases hm : MayT t
  · rw [decide_eq_true hm]
    obtain ⟨h1, h2, h3, h4, h5⟩ := hm
    by_cases hp : t.proto = 6
    · have hp' : (t.proto == 6) = true := by simpa using hp
      clear h1 hp
      go_enter Try.func15, Try.ntmps15
      go_wp2_with fail
      go_ret
      exact ⟨rfl, G.out⟩
    · have hp' : (t.proto == 6) = false := by simpa using hp
      have hq' : (t.proto == 17) = true := by have := h1; simp; omega
      clear h1 hp
      go_enter Try.func15, Try.ntmps15
      go_wp2_with fail
      go_ret
      exact ⟨rfl, G.out⟩
  · rw [decide_eq_false hm]
    have hb : ((t.proto == 6) = false ∧ (t.proto == 17) = false) ∨ (((t.proto == 6) = true ∨ ((t.proto == 6) = false ∧ (t.proto == 17) = true)) ∧ (decide (0 ≤ t.sport) = false ∨ (0 ≤ t.sport ∧ (decide (t.sport ≤ 65535) = false ∨ (t.sport ≤ 65535 ∧ (decide (0 ≤ t.dport) = false ∨ (0 ≤ t.dport ∧ decide (t.dport ≤ 65535) = false))))))) := by
      have hm' : ¬ ((t.proto = 6 ∨ t.proto = 17) ∧ 0 ≤ t.sport ∧ t.sport ≤ 65535 ∧ 0 ≤ t.dport ∧ t.dport ≤ 65535) := fun ⟨a, b, c, d, e⟩ => hm ⟨a, b, c, d, e⟩
      simp only [beq_eq_false_iff_ne, beq_iff_eq, decide_eq_false_iff_not]; omega
    clear hm
    rcases hb with ⟨p1, p2⟩ | ⟨p, q⟩
    · go_enter Try.func15, Try.ntmps15
      go_wp2_with fail
      go_ret
      exact ⟨rfl, G.out⟩
    · rcases p with p | ⟨p, p2⟩ <;> rcases q with q | ⟨q, q2 | ⟨q2, q3 | ⟨q3, q4⟩⟩⟩
      all_goals
        go_enter Try.func15, Try.ntmps15
        go_wp2_with fail
        go_ret
        exact ⟨rfl, G.out⟩
end
def b1R : Bk := ⟨1, 1, 1⟩
def c1R : ChD := ⟨13, [⟨1, 1, 1⟩], List.replicate 13 1, 1⟩
theorem set1R : setCh (newCh 13) [⟨1, 1, 1⟩] noneOut = (c1R, 0) := by
  have h : gensMay [⟨1, 1, 1⟩] = true := by decide
  unfold setCh
  rw [if_pos h, withoutL_none]
  show (_, _) = _
  rw [show (newCh 13).slots = 13 from rfl, table1]
  rfl
theorem chOk1R : ChOk c1R := ⟨by decide, by decide, by decide, fun x hx => by simp [c1R] at hx; subst hx; decide⟩
def kR (i : Nat) : Tup := ⟨i, 0, 6, 0, 0⟩
def fR (i : Nat) : Fl := ⟨kR i, 1, 1, 0⟩
def rowR (a : Nat) : Nat → List Fl
  | 0 => []
  | i + 1 => (putF a (rowR a i) (fR i)).1
structure RowR (a i : Nat) : Prop where
  len : (rowR a i).length = min i a
  mem : ∀ x ∈ rowR a i, ∃ j, j < i ∧ x = fR j
  nodup : ((rowR a i).map (·.t)).Nodup
  first : 0 < i → 0 < a → fR 0 ∈ rowR a i
section
variable {F0 : List Nat} {w0 w : World} {R : List Asrt}
def RmRel (bt cb a b : Nat) (vl vt : Value) (F0 : List Nat) (w0 : World) (R : List Asrt) (v : Value) (wr : World) : Prop := ∃ i : Nat, v = .int .i64 i ∧ i ≤ b ∧ In F0 w0 wr (FA bt a 1000 (rowR a i) :: ChL cb c1R vl vt R)
end
theorem cutN (n : Int) {m : Int} (h0 : 0 < m) (h1 : m ≤ 1000000) : ∃ N : Nat, wrap64 ((IntKind.u64.wrap n).tmod m) = (N : Int) ∧ (N : Int) < m := by
  have hw : 0 ≤ IntKind.u64.wrap n := by rw [u64_eq]; omega
  rw [Int.tmod_eq_emod_of_nonneg hw]
  have e1 := Int.emod_nonneg (IntKind.u64.wrap n) (show m ≠ 0 by omega)
  have e2 := Int.emod_lt_of_pos (IntKind.u64.wrap n) h0
  refine ⟨(IntKind.u64.wrap n % m).toNat, ?_, by omega⟩
  generalize IntKind.u64.wrap n % m = z at *
  unfold wrap64; omega
theorem madeD_len (k : Tup) (ttl flags : Int) : (madeD k ttl flags []).length = if k.proto = 6 then 40 else 28 := by
  unfold madeD
  rw [List.length_append, buildD_length, innerL_length]
  split <;> simp
section
variable {P : Program} {Q : Exit → Act → World → Prop} {S : World → Prop} {l : List Oper}
def threeB (l : List Oper) (i j k : Nat) (listed : Array Bool) : Bool := decide (Region.ready .any l.toArray listed = [i, j, k]) && (decide (i + 1 < l.toArray.size) && (decide (j + 1 < l.toArray.size) && decide (k + 1 < l.toArray.size)))
theorem e_arm {fuel : Nat} {listed : Array Bool} {a : Act} {w : World} {x : Nat} {o : Oper} (hx : l[x]? = some o) (hxs : x + 1 < l.toArray.size) (hr : x ∈ Region.ready .any l.toArray listed) (h : EArm P l Q S fuel listed x o a w) (inv : HeadInv .any l.toArray (l.toArray.size - 1) listed) :
    wpOp P l.toArray Q x (fun a' w' => (x + 1 < l.toArray.size → S w') ∧ wpAnyE P .any l.toArray Q S fuel (listed.setIfInBounds x true) a' w') a w := by
  have hx' : l.toArray[x]? = some o := by simpa using hx
  have := h (fun a' w' => (x + 1 < l.toArray.size → S w') ∧ wpAnyE P .any l.toArray Q S fuel (listed.setIfInBounds x true) a' w') (fun a w hS hn => ⟨fun _ => hS, hn hS (inv.set hr (by omega))⟩)
  unfold wpOp
  simp only [hx']
  by_cases hwd : Region.wanted o (yielded l.toArray a.tmps) = true
  · rw [if_pos hwd] at this ⊢; exact Or.inl this
  · rw [if_neg hwd] at this ⊢; exact this
theorem e_three {i j k : Nat} {oi oj ok : Oper} {fuel : Nat} {listed : Array Bool} {a : Act} {w : World} (hi : l[i]? = some oi) (hj : l[j]? = some oj) (hk : l[k]? = some ok) (hc : threeB l i j k listed = true)
    (h1 : EArm P l Q S fuel listed i oi a w) (h2 : EArm P l Q S fuel listed j oj a w) (h3 : EArm P l Q S fuel listed k ok a w) : EAt P l Q S (fuel + 1) listed a w := by
  simp only [threeB, Bool.and_eq_true, decide_eq_true_eq] at hc
  obtain ⟨hc0, hci, hcj, hck⟩ := hc
  intro inv
  refine ⟨fun h0 => (by rw [hc0] at h0; cases h0), fun x hx => ?_⟩
  have hr := hx
  rw [hc0] at hx
  rcases List.mem_cons.1 hx with rfl | hx
  · exact e_arm hi hci hr h1 inv
  rcases List.mem_cons.1 hx with rfl | hx
  · exact e_arm hj hcj hr h2 inv
  · obtain rfl : x = k := by simpa using hx
    exact e_arm hk hck hr h3 inv
end
end Go.Proofs.Ytgapbecddgfkmaa
