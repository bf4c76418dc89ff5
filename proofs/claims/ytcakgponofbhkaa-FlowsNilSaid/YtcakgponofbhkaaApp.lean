/- Rows put behind rows: 'append(s, xs...)' in a plain list of operations and in a region that draws its order; parts of a row as what is put behind. -/
import Derived.Test.YtcakgponofbhkaaOwnRows
import Derived.Deep.AppendLies
import Derived.RegionTactic
import Derived.OwnWalk
namespace Go.Proofs.Ytcakgponofbhkaa
open Go.RowKit
set_option linter.unusedVariables false
set_option maxRecDepth 100000

/-- m elements of k cells each are to be read at A. -/
structure Src (w : World) (A : Option Addr) (m k : Nat) (news : List Value) : Prop where
  len : news.length = m * k
  at' : 0 < m → ∃ ad, A = some ad ∧ ∀ j u, news[j]? = some u → w.cell? (ad.add j) = some u

theorem add_at (b o j : Nat) : (⟨b, o, none⟩ : Addr).add j = ⟨b, o + j, none⟩ := by
  unfold Addr.add; split <;> simp_all
theorem Src.nil (w : World) (A : Option Addr) (k : Nat) : Src w A 0 k [] := ⟨by simp, fun h => by omega⟩
theorem Src.of_block {w : World} {g : Nat} {us : Array Value} {T : TypeId} {fz : Nat × Nat} {k : Nat} (h : w.heap[g]? = some (.cells us T fz)) (hk : us.size = k) : Src w (some ⟨g, 0, none⟩) 1 k us.toList :=
  ⟨by simp [hk], fun _ => ⟨_, rfl, fun j u hu => by rw [add_at]; simp only [Nat.zero_add]; exact cell_of h (by rw [← hu, Array.getElem?_toList])⟩⟩
theorem src_alloc {w : World} {A : Option Addr} {m k : Nat} {news : List Value} (h : Src w A m k news) (o : Obj) : Src (w.alloc o) A m k news :=
  ⟨h.len, fun h0 => by
    obtain ⟨ad, e, hc⟩ := h.at' h0
    exact ⟨ad, e, fun j u hu => by
      have := hc j u hu
      rw [World.cell?_alloc_lt _ _ _ (World.block_lt_of_cell? _ _ this)]; exact this⟩⟩
/-- The first m of a row. -/
theorem RowA.src {T : TypeId} {k : Nat} {a : Option Addr} {n' n cap : Nat} {xs : List Value} {w : World} {F : List Nat} (h : RowA T k (.slice a n' cap) n xs w F) {m : Nat} (hm : m ≤ n) : Src w a m k (xs.take (m * k)) := by
  obtain ⟨a', cap', e, h1, h2, h3⟩ := h.shape
  cases e
  have hl := h.2.1
  refine ⟨by rw [List.length_take, hl]; exact Nat.min_eq_left (Nat.mul_le_mul_right _ hm), fun h0 => ?_⟩
  by_cases hk : k = 0
  · subst hk
    have : xs = [] := List.length_eq_zero_iff.1 (by rw [hl]; rfl)
    subst this
    obtain ⟨_, h4 | ⟨g, c, cur, e, _⟩⟩ := h.2
    · omega
    · cases e; exact ⟨_, rfl, fun j u hu => by simp at hu⟩
  · have hx : 0 < xs.length := by rw [hl]; exact Nat.mul_pos (by omega) (by omega)
    obtain ⟨b, rfl, _⟩ := h3 0 xs[0] (by simp [hx])
    refine ⟨_, rfl, fun j u hu => ?_⟩
    rw [List.getElem?_take] at hu
    split at hu
    · obtain ⟨b', e, hc⟩ := h3 j u hu
      cases e
      rw [add_at, Nat.zero_add]; exact hc
    · cases hu
theorem RowA.all {T : TypeId} {k : Nat} {a : Option Addr} {n' n cap : Nat} {xs : List Value} {w : World} {F : List Nat} (h : RowA T k (.slice a n' cap) n xs w F) : Src w a n k xs := by
  have := h.src (Nat.le_refl n)
  rwa [← h.2.1, List.take_length] at this
/-- Where a row's rest lies. -/
def sufA (a : Option Addr) (cap i k : Nat) : Option Addr := if cap = i then a else a.map (·.add (i * k))
theorem RowA.src_from {T : TypeId} {k : Nat} {a : Option Addr} {n' n cap : Nat} {xs : List Value} {w : World} {F : List Nat} (h : RowA T k (.slice a n' cap) n xs w F) {i : Nat} (hi : i ≤ n) : Src w (sufA a cap i k) (n - i) k (xs.drop (i * k)) := by
  obtain ⟨a', cap', e, h1, h2, h3⟩ := h.shape
  cases e
  have hl := h.2.1
  refine ⟨by rw [List.length_drop, hl, Nat.sub_mul], fun h0 => ?_⟩
  obtain ⟨ad, rfl, hc⟩ := (h.all).at' (by omega)
  refine ⟨ad.add (i * k), by rw [sufA, if_neg (by omega)]; rfl, fun j u hu => ?_⟩
  rw [List.getElem?_drop] at hu
  have := hc _ u hu
  obtain ⟨_, h4 | ⟨g, c, cur, e, _⟩⟩ := h.2
  · omega
  · cases e
    rw [add_at] at this ⊢
    rw [add_at]
    rw [show 0 + i * k + j = 0 + (i * k + j) by omega]
    exact this

section
variable {P : Program} {F0 : List Nat} {w0 w : World} {R : List Asrt} {T : TypeId} {k : Nat} {v : Value} {n : Nat} {xs : List Value}

theorem run_append_nil0 {t ty e : TypeId} {i : TypeInfo} {size base : Nat} (ht : P.underlying t = some (.slice e)) (hi : P.info? e = some i) (hown : w.ownsRow base e size v n xs) (A : Option Addr) (c : Nat) :
    (Builtin.append_ #[t, t] ty #[v, .slice none 0 c]).run P w = .ok v w := by
  rcases hown.2 with ⟨rfl, rfl⟩ | ⟨g, cap, cur, rfl, _, _, hnc, _⟩
  · simp [Builtin.append_, run_underlying ht, sizeOf, typeInfo, hi, Builtin.lenOf, Builtin.firstCells]
  · simp [Builtin.append_, run_underlying ht, sizeOf, typeInfo, hi, Builtin.lenOf, Builtin.firstCells, hnc, storeCells]

/-- 'append(s, xs...)'. -/
theorem app_run (h : In F0 w0 w R) (i : Nat) (hA : R[i]? = some (RowA T k v n xs)) {ST ty : TypeId} {by' : Nat} (hST : P.underlying ST = some (.slice T))
    (hinf : (P.info? T).map (fun i => (i.zero.map (fun z => z.cells.size), i.size, i.bytes)) = some (some k, k, by')) (hk : 0 < k) (hby : by' ≤ 1024)
    {A : Option Addr} {m c : Nat} {news : List Value} (hs : Src w A m k news) (h1 : ∀ u ∈ news, u.oneCell' = true) (hn : n + m ≤ 1000000000) :
    ∃ v' w', (Builtin.append_ #[ST, ST] ty #[v, .slice A m c]).run P w = .ok v' w' ∧ In F0 w0 w' (R.set i (RowA T k v' (n + m) (xs ++ news))) ∧ w.grownBy w' v.ownBlock := by
  obtain ⟨F, hrow⟩ := h.get i hA
  obtain ⟨i0, z, j1, j2, jz, j3, j4⟩ : ∃ i0 z, P.info? T = some i0 ∧ i0.zero = some z ∧ z.cells.size = k ∧ i0.size = k ∧ i0.bytes = by' := by
    cases e : P.info? T with
    | none => rw [e] at hinf; cases hinf
    | some i0 =>
      rw [e] at hinf
      simp only [Option.map_some, Option.some.injEq, Prod.mk.injEq] at hinf
      cases hz : i0.zero with
      | none => rw [hz] at hinf; simp at hinf
      | some z =>
        rw [hz] at hinf
        simp only [Option.map_some, Option.some.injEq] at hinf
        exact ⟨i0, z, rfl, hz, hinf.1, hinf.2.1, hinf.2.2⟩
  have hbytes : (n + m) * by' ≤ 140737488355328 := by
    have : (n + m) * by' ≤ 1000000001 * 1024 := Nat.mul_le_mul (by omega) hby
    omega
  have key : ∃ v' w', (Builtin.append_ #[ST, ST] ty #[v, .slice A m c]).run P w = .ok v' w' ∧ w'.ownsRow 0 T k v' (n + m) (xs ++ news) ∧ w.grownBy w' v.ownBlock ∧ (v'.ownBlock = v.ownBlock ∨ v'.ownBlock = some w.heap.size) := by
    rcases A with _ | ad
    · have hm : m = 0 := by
        rcases Nat.eq_zero_or_pos m with h0 | h0
        · exact h0
        · obtain ⟨ad, h, _⟩ := hs.at' h0; cases h
      subst hm
      have hnn : news = [] := List.length_eq_zero_iff.1 (by rw [hs.len]; simp)
      subst hnn
      exact ⟨v, w, run_append_nil0 hST j1 hrow.2 none c, by simpa using hrow.2, World.grownBy.refl w _, .inl rfl⟩
    · have hcells : ∀ j u, news[j]? = some u → w.cell? (ad.add j) = some u := by
        intro j u hu
        rcases Nat.eq_zero_or_pos m with h0 | h0
        · subst h0
          have hnn : news = [] := List.length_eq_zero_iff.1 (by rw [hs.len]; simp)
          subst hnn
          simp at hu
        · obtain ⟨ad', h, hc⟩ := hs.at' h0
          injection h with h
          subst h
          exact hc j u hu
      obtain ⟨v', w', hrun, h2, h3, _, h5⟩ := run_append_own_at (P := P) w 0 ST ty T i0 z k by' hST j1 j2 j3 j4 jz hk v n xs hrow.2 ad m c news hs.len hcells h1 (by unfold maxLen; omega) hbytes (Nat.zero_le _)
      exact ⟨v', w', hrun, h2, h3, h5⟩
  obtain ⟨v', w', r0, r1, r2, r3⟩ := key
  refine ⟨v', w', r0, h.step i hA (RowA.framed _ _ _ _ _) fun F hF => ⟨v'.ownBlock.toList, ⟨rfl, r1⟩, fun b hb => ?_, (Mod.refl F w).of_grown r2 (fun k hk => Or.inl (by rw [hF.1, hk]; simp))⟩, r2⟩
  rw [hF.1]
  rcases r3 with r3 | r3
  · left; rwa [r3] at hb
  · right; rw [r3] at hb; simp at hb; omega

variable {ops : Array Oper} {o : Oper} {a : Act} {Q : Exit → Act → World → Prop}
theorem app_wp {K : Act → World → Prop} (h : In F0 w0 w R) (i : Nat) (hA : R[i]? = some (RowA T k v n xs)) (s x : Operand) (ST : TypeId)
    (ho : o.op = .call { callee := .builtin .append, args := #[s, x], argTypes := #[ST, ST] }) {by' : Nat} (hST : P.underlying ST = some (.slice T))
    (hinf : (P.info? T).map (fun i => (i.zero.map (fun z => z.cells.size), i.size, i.bytes)) = some (some k, k, by')) (hk : 0 < k) (hby : by' ≤ 1024) (hs : a.eval s = v)
    {A : Option Addr} {m c : Nat} {news : List Value} (hx : a.eval x = .slice A m c) (hsrc : Src w A m k news) (h1 : ∀ u ∈ news, u.oneCell' = true) (hn : n + m ≤ 1000000000)
    (hK : ∀ v' w', In F0 w0 w' (R.set i (RowA T k v' (n + m) (xs ++ news))) → w.grownBy w' v.ownBlock → K (a.put o.dst v') w') : o.wp P a w K Q := by
  obtain ⟨v', w', hrun, h2, h3⟩ := app_run (ty := o.type) (c := c) h i hA hST hinf hk hby hsrc h1 hn
  unfold Oper.wp execOp
  simp only [ho, resolve, invoke, builtin, Sem.run_bind, Sem.run_pure, Result.andThen_ok, List.map_toArray, List.map_cons, List.map_nil, hs, hx, hrun]
  exact hK v' w' h2 h3
theorem app_list {rest : List Oper} (hgd : o.guard = none) (h : In F0 w0 w R) (i : Nat) (hA : R[i]? = some (RowA T k v n xs)) (s x : Operand) (ST : TypeId)
    (ho : o.op = .call { callee := .builtin .append, args := #[s, x], argTypes := #[ST, ST] }) {by' : Nat} (hST : P.underlying ST = some (.slice T))
    (hinf : (P.info? T).map (fun i => (i.zero.map (fun z => z.cells.size), i.size, i.bytes)) = some (some k, k, by')) (hk : 0 < k) (hby : by' ≤ 1024) (hs : a.eval s = v)
    {A : Option Addr} {m c : Nat} {news : List Value} (hx : a.eval x = .slice A m c) (hsrc : Src w A m k news) (h1 : ∀ u ∈ news, u.oneCell' = true) (hn : n + m ≤ 1000000000)
    (hK : ∀ v' w', In F0 w0 w' (R.set i (RowA T k v' (n + m) (xs ++ news))) → w.grownBy w' v.ownBlock → wpList P ops Q rest (a.put o.dst v') w') : wpList P ops Q (o :: rest) a w :=
  wpList_plain hgd fun _ hK' => app_wp h i hA s x ST ho hST hinf hk hby hs hx hsrc h1 hn fun v' w' h2 h3 => hK' _ _ (hK v' w' h2 h3)
theorem app_step {K : Act → World → Prop} {E : Prop} (hgd : o.guard = none) (h : In F0 w0 w R) (i : Nat) (hA : R[i]? = some (RowA T k v n xs)) (s x : Operand) (ST : TypeId)
    (ho : o.op = .call { callee := .builtin .append, args := #[s, x], argTypes := #[ST, ST] }) {by' : Nat} (hST : P.underlying ST = some (.slice T))
    (hinf : (P.info? T).map (fun i => (i.zero.map (fun z => z.cells.size), i.size, i.bytes)) = some (some k, k, by')) (hk : 0 < k) (hby : by' ≤ 1024) (hs : a.eval s = v)
    {A : Option Addr} {m c : Nat} {news : List Value} (hx : a.eval x = .slice A m c) (hsrc : Src w A m k news) (h1 : ∀ u ∈ news, u.oneCell' = true) (hn : n + m ≤ 1000000000)
    (hK : ∀ v' w', In F0 w0 w' (R.set i (RowA T k v' (n + m) (xs ++ news))) → w.grownBy w' v.ownBlock → K (a.put o.dst v') w') :
    if Region.wanted o (yielded ops a.tmps) = true then Oper.wp P o a w K Q else E := by
  have hw : Region.wanted o (yielded ops a.tmps) = true := by simp [Region.wanted, hgd]
  rw [if_pos hw]
  exact app_wp h i hA s x ST ho hST hinf hk hby hs hx hsrc h1 hn hK
end

/-- 's[i:]' of a row. -/
theorem run_suffix {P : Program} {ST T : TypeId} {k by' : Nat} (hST : P.underlying ST = some (.slice T)) (hinf : (P.info? T).map (fun i => (i.zero.map (fun z => z.cells.size), i.size, i.bytes)) = some (some k, k, by')) (a : Option Addr) (n cap i : Nat) (h1 : i ≤ n) (w : World) :
    (Instr.slice ST (.slice a n cap) (some (.int .i64 i)) none none).run P w = .ok (.slice (sufA a cap i k) (n - i) (cap - i)) w := by
  have he : P.elem ST = T := by simp [Program.elem, hST]
  have hs : (sizeOf T).run P w = .ok k w := by
    cases e : P.info? T with
    | none => rw [e] at hinf; cases hinf
    | some i0 =>
      rw [e] at hinf
      simp only [Option.map_some, Option.some.injEq, Prod.mk.injEq] at hinf
      simp [sizeOf, typeInfo, e, hinf.2.1]
  have := run_slice_l (P := P) w ST a n cap (by rw [he]; exact hST) .i64 (i : Int) (by omega) (by omega)
  rw [this, he, hs]
  simp [Result.andThen, sliced, sufA]
/-- 's[:i]' of a row. -/
theorem run_prefix {P : Program} {ST T : TypeId} {k by' : Nat} (hST : P.underlying ST = some (.slice T)) (hinf : (P.info? T).map (fun i => (i.zero.map (fun z => z.cells.size), i.size, i.bytes)) = some (some k, k, by')) (b : Nat) (n cap i : Nat) (h1 : i ≤ cap) (w : World) :
    (Instr.slice ST (.slice (some ⟨b, 0, none⟩) n cap) none (some (.int .i64 i)) none).run P w = .ok (.slice (some ⟨b, 0, none⟩) i cap) w := by
  have he : P.elem ST = T := by simp [Program.elem, hST]
  have hs : (sizeOf T).run P w = .ok k w := by
    cases e : P.info? T with
    | none => rw [e] at hinf; cases hinf
    | some i0 =>
      rw [e] at hinf
      simp only [Option.map_some, Option.some.injEq, Prod.mk.injEq] at hinf
      simp [sizeOf, typeInfo, e, hinf.2.1]
  have := run_slice_h (P := P) w ST (some ⟨b, 0, none⟩) n cap (by rw [he]; exact hST) .i64 (i : Int) (by omega) (by omega)
  rw [this, he, hs]
  simp [Result.andThen, sliced, add_at]
theorem run_prefix_at {P : Program} {ST T : TypeId} {k by' : Nat} (hST : P.underlying ST = some (.slice T)) (hinf : (P.info? T).map (fun i => (i.zero.map (fun z => z.cells.size), i.size, i.bytes)) = some (some k, k, by')) (b o : Nat) (n cap i : Nat) (h1 : i ≤ cap) (w : World) :
    (Instr.slice ST (.slice (some ⟨b, o, none⟩) n cap) none (some (.int .i64 i)) none).run P w = .ok (.slice (some ⟨b, o, none⟩) i cap) w := by
  have he : P.elem ST = T := by simp [Program.elem, hST]
  have hs : (sizeOf T).run P w = .ok k w := by
    cases e : P.info? T with
    | none => rw [e] at hinf; cases hinf
    | some i0 =>
      rw [e] at hinf
      simp only [Option.map_some, Option.some.injEq, Prod.mk.injEq] at hinf
      simp [sizeOf, typeInfo, e, hinf.2.1]
  have := run_slice_h (P := P) w ST (some ⟨b, o, none⟩) n cap (by rw [he]; exact hST) .i64 (i : Int) (by omega) (by omega)
  rw [this, he, hs]
  simp [Result.andThen, sliced, add_at]
theorem run_prefix_none {P : Program} {ST T : TypeId} {k by' : Nat} (hST : P.underlying ST = some (.slice T)) (hinf : (P.info? T).map (fun i => (i.zero.map (fun z => z.cells.size), i.size, i.bytes)) = some (some k, k, by')) (n cap i : Nat) (h1 : i ≤ cap) (w : World) :
    (Instr.slice ST (.slice none n cap) none (some (.int .i64 i)) none).run P w = .ok (.slice none i cap) w := by
  have he : P.elem ST = T := by simp [Program.elem, hST]
  have hs : (sizeOf T).run P w = .ok k w := by
    cases e : P.info? T with
    | none => rw [e] at hinf; cases hinf
    | some i0 =>
      rw [e] at hinf
      simp only [Option.map_some, Option.some.injEq, Prod.mk.injEq] at hinf
      simp [sizeOf, typeInfo, e, hinf.2.1]
  have := run_slice_h (P := P) w ST none n cap (by rw [he]; exact hST) .i64 (i : Int) (by omega) (by omega)
  rw [this, he, hs]
  simp [Result.andThen, sliced]
end Go.Proofs.Ytcakgponofbhkaa
