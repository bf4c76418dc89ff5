/- Rows.PathMovesSaid -/
import Derived.Test.YtgapbecddgfkmaaGreatMV4
import Derived.Test.YtgapbecddgfkmaaGreatMV7
import Derived.Test.YtgapbecddgfkmaaGreatMV3
import Derived.Test.YtgapbecddgfkmaaGreatMV2
import Derived.Deep.MidRow
import Derived.Laws.Rows
import Derived.Laws.ResultCell
import Derived.Shelf.Abstract
namespace Go.Proofs.YtgapbecddgfkmaaGreat
open Go.RowKit Go.ChangeShapes Go.WideShapes Go.Deep
open Go.RowKit
set_option linter.unusedVariables false
set_option maxHeartbeats 64000000
set_option maxRecDepth 100000
theorem flatTupR {H : Type} {enc : TypeId × Value → H} : FlatT enc Tryz.prog 24 [.u32, .u32, .i64, .i64, .i64] := by
  refine flat_struct Tryz.underlying24 [(_, [.u32]), (_, [.u32]), (_, [.i64]), (_, [.i64]), (_, [.i64])] rfl ⟨rfl, by kernel_rfl, rfl, by kernel_rfl, rfl, by kernel_rfl, rfl, by kernel_rfl, rfl, by kernel_rfl, trivial⟩ ?_ (by kernel_rfl)
  intro p hp
  simp only [List.mem_cons, List.not_mem_nil, or_false] at hp
  rcases hp with rfl | rfl | rfl | rfl | rfl
  all_goals exact flat_int (by kernel_rfl)
theorem litR_i64 {n : Int} (h : (Lit.int .i64 n).wf = true) : -9223372036854775808 ≤ n ∧ n < 9223372036854775808 := by
  simp [Lit.wf, IntKind.min, IntKind.max, IntKind.signed, IntKind.bits] at h
  omega
theorem litR_u32 {n : Int} (h : (Lit.int .u32 n).wf = true) : 0 ≤ n ∧ n < 4294967296 := by
  simp [Lit.wf, IntKind.min, IntKind.max, IntKind.signed, IntKind.bits] at h
  omega
abbrev encB (b : Bk) : List Value := [.int .i64 b.id, .int .u32 b.addr, .int .i64 b.weight]
def bkV (l : List Bk) : List Value := (l.map encB).flatten
theorem bkV_at : ∀ {l : List Bk} {i : Nat} {b : Bk}, l[i]? = some b → (bkV l)[i * 3]? = some (.int .i64 b.id) ∧ (bkV l)[i * 3 + 1]? = some (.int .u32 b.addr) ∧ (bkV l)[i * 3 + 2]? = some (.int .i64 b.weight)
  | [], _, _, h => by simp at h
  | x :: l, 0, b, h => by
    simp at h; subst h
    simp [bkV, encB]
  | x :: l, i + 1, b, h => by
    have e : bkV (x :: l) = encB x ++ bkV l := by simp [bkV]
    obtain ⟨h0, h1, h2⟩ := bkV_at (l := l) (i := i) (by simpa using h)
    have hl : (encB x).length = 3 := rfl
    rw [e]
    refine ⟨?_, ?_, ?_⟩
    · rw [List.getElem?_append_right (by rw [hl]; omega), hl, show (i + 1) * 3 - 3 = i * 3 by omega]; exact h0
    · rw [List.getElem?_append_right (by rw [hl]; omega), hl, show (i + 1) * 3 + 1 - 3 = i * 3 + 1 by omega]; exact h1
    · rw [List.getElem?_append_right (by rw [hl]; omega), hl, show (i + 1) * 3 + 2 - 3 = i * 3 + 2 by omega]; exact h2
theorem bkV_one (l : List Bk) : ∀ u ∈ bkV l, u.oneCell' = true := by
  intro u hu
  simp only [bkV, List.mem_flatten, List.mem_map] at hu
  obtain ⟨x, ⟨b, _, rfl⟩, hx⟩ := hu
  simp at hx
  rcases hx with rfl | rfl | rfl <;> rfl
structure ArgBks (w : World) (v : Value) (l : List Bk) : Prop where
  ex : ∃ a c, v = .slice a l.length c ∧ Src w a l.length 3 (bkV l) ∧ l.length ≤ c ∧ c ≤ maxLen ∧ (a = none → c = 0)
  wf : ∀ b ∈ l, WfBk b
abbrev encRL (r : Rec) (v : Value) : List Value := [.int .i64 r.kind, .int .u32 r.fl.t.src, .int .u32 r.fl.t.dst, .int .i64 r.fl.t.proto, .int .i64 r.fl.t.sport, .int .i64 r.fl.t.dport, .int .i64 r.fl.bk, .int .i64 r.fl.gen, .int .i64 r.fl.seen, .int .i64 r.gen, v, .int .i64 r.bk, .int .i64 r.till, .int .i64 r.count]
structure WfRI (r : Rec) : Prop where
  rr : WfR r
  bb : ∀ b ∈ r.bks, WfBk b
def RecIs (w : World) (cs : List Value) (r : Rec) : Prop := ∃ v, cs = encRL r v ∧ ArgBks w v r.bks ∧ WfRI r
structure ArgSl {α : Type} (k : Nat) (Q : World → List Value → α → Prop) (w : World) (v : Value) (L : List α) : Prop where
  ex : ∃ a c, v = .slice a L.length c ∧ L.length ≤ c ∧ c ≤ maxLen ∧ (a = none → c = 0) ∧ ∀ i x, L[i]? = some x → ∃ g o cs, a = some ⟨g, o, none⟩ ∧ Q w cs x ∧ ∀ j u, cs[j]? = some u → w.cell? ⟨g, o + i * k + j, none⟩ = some u
abbrev ArgRecs := ArgSl 14 RecIs
structure CallR where
  act : Int
  n : Int
  r : Rec
  rows : List Rec
  picks : List UInt8
def CallRIs (w : World) (cs : List Value) (c : CallR) : Prop := ∃ v vr vp, cs = .int .i64 c.act :: .int .i64 c.n :: (encRL c.r v ++ [vr, vp]) ∧ ArgBks w v c.r.bks ∧ WfRI c.r ∧ ArgRecs w vr c.rows ∧ AB w vp c.picks
abbrev ArgCalls15 := ArgSl 18 CallRIs
section
variable {H : Type} {enc : TypeId × Value → H} {P : Program} {w : World} {base : Nat} {spare : Nat → Bool} {held : Bool}
end
section
variable {w0 w : World} {R : List Asrt}
end
def CrcRel (bs : List UInt8) (c k : Value) : Prop := ∃ i : Nat, i ≤ bs.length ∧ k = .int .i64 i ∧ c = .int .u32 (crcFrom 0xffffffff (bs.take i))
def BitRel (c0 : Nat) (c k : Value) : Prop := ∃ j : Nat, j ≤ 8 ∧ k = .int .i64 j ∧ c = .int .u32 (crcBits j c0)
theorem bits_xor_u32 (a b : Nat) (ha : a < 4294967296) (hb : b < 4294967296) : bits .xor .u32 (a : Int) (b : Int) = ((a ^^^ b : Nat) : Int) := by
  have hx : a ^^^ b < 2 ^ 32 := Nat.xor_lt_two_pow (by omega) (by omega)
  have h1 : (BitVec.ofInt 32 (a : Int)).toNat = a := by
    rw [BitVec.ofInt_natCast, BitVec.toNat_ofNat]; exact Nat.mod_eq_of_lt (by omega)
  have h2 : (BitVec.ofInt 32 (b : Int)).toNat = b := by
    rw [BitVec.ofInt_natCast, BitVec.toNat_ofNat]; exact Nat.mod_eq_of_lt (by omega)
  show IntKind.u32.wrap ((BitVec.ofInt 32 (a : Int) ^^^ BitVec.ofInt 32 (b : Int)).toNat : Int) = _
  rw [BitVec.toNat_xor, h1, h2]
  rw [show ∀ n, IntKind.u32.wrap n = n % 4294967296 from fun n => by simp [IntKind.wrap, IntKind.bits, IntKind.signed]]
  omega
theorem bits_and_u32 (a b : Nat) (ha : a < 4294967296) (hb : b < 4294967296) : bits .and .u32 (a : Int) (b : Int) = ((a &&& b : Nat) : Int) := by
  have hx : a &&& b < 2 ^ 32 := Nat.and_lt_two_pow _ (by omega)
  have h1 : (BitVec.ofInt 32 (a : Int)).toNat = a := by
    rw [BitVec.ofInt_natCast, BitVec.toNat_ofNat]; exact Nat.mod_eq_of_lt (by omega)
  have h2 : (BitVec.ofInt 32 (b : Int)).toNat = b := by
    rw [BitVec.ofInt_natCast, BitVec.toNat_ofNat]; exact Nat.mod_eq_of_lt (by omega)
  show IntKind.u32.wrap ((BitVec.ofInt 32 (a : Int) &&& BitVec.ofInt 32 (b : Int)).toNat : Int) = _
  rw [BitVec.toNat_and, h1, h2]
  rw [show ∀ n, IntKind.u32.wrap n = n % 4294967296 from fun n => by simp [IntKind.wrap, IntKind.bits, IntKind.signed]]
  omega
theorem heap3_mid (w : World) (A B C : Obj) : (((w.alloc A).alloc B).alloc C).heap[w.heap.size + 1]? = some B := by
  rw [heap_alloc_old _ _ (by rw [World.size_alloc, World.size_alloc]; omega), heap_alloc2_new]
def setL : Nat → List Value → Array Value → Array Value
  | _, [], C => C
  | o, x :: xs, C => setL (o + 1) xs (C.setIfInBounds o x)
theorem setL_toList : ∀ (xs : List Value) (o : Nat) (C : Array Value), o + xs.length ≤ C.size → (setL o xs C).toList = C.toList.take o ++ (xs ++ C.toList.drop (o + xs.length))
  | [], o, C, h => by simp [setL]
  | x :: xs, o, C, h => by
    simp only [List.length_cons] at h
    have h1 := setL_toList xs (o + 1) (C.setIfInBounds o x) (by simp; omega)
    show (setL (o + 1) xs (C.setIfInBounds o x)).toList = _
    rw [h1, Array.toList_setIfInBounds]
    have e1 : (C.toList.set o x).take (o + 1) = C.toList.take o ++ [x] := by
      rw [List.take_add_one, List.take_set_of_le (Nat.le_refl _), List.getElem?_set_self (by simp; omega)]; rfl
    have e2 : (C.toList.set o x).drop (o + 1 + xs.length) = C.toList.drop (o + 1 + xs.length) := List.drop_set_of_lt (by omega)
    rw [e1, e2, List.append_assoc]
    simp only [List.length_cons, List.cons_append, List.nil_append]
    rw [show o + 1 + xs.length = o + (xs.length + 1) by omega]
theorem setL_full {xs : List Value} {C : Array Value} (h : xs.length = C.size) : setL 0 xs C = xs.toArray := by
  apply Array.toList_inj.1
  rw [setL_toList xs 0 C (by omega)]
  simp [h]
theorem In.setCs {F0 : List Nat} {w0 : World} {b : Nat} {T : TypeId} : ∀ (xs : List Value) (o : Nat) {w : World} {R : List Asrt} {C : Array Value} (i : Nat), In F0 w0 w R → R[i]? = some (Cells b C T) → In F0 w0 (w.setCells b o xs) (R.set i (Cells b (setL o xs C) T))
  | [], o, w, R, C, i, h, hA => by
    have : R.set i (Cells b C T) = R := set_same hA
    show In F0 w0 w (R.set i (Cells b C T))
    rw [this]; exact h
  | x :: xs, o, w, R, C, i, h, hA => by
    have h1 := h.put i hA o x
    have hi : i < R.length := (List.getElem?_eq_some_iff.1 hA).1
    have h2 := In.setCs (b := b) (T := T) xs (o + 1) (C := C.setIfInBounds o x) i h1 (by simp [hi])
    rw [List.set_set] at h2
    exact h2
theorem In.setFull {F0 : List Nat} {w0 w : World} {R : List Asrt} {b : Nat} {T : TypeId} {C : Array Value} (h : In F0 w0 w R) (i : Nat) (hA : R[i]? = some (Cells b C T)) {xs : List Value} (hl : xs.length = C.size) : In F0 w0 (w.setCells b 0 xs) (R.set i (Cells b xs.toArray T)) := by
  have h1 := In.setCs xs 0 i h hA
  rwa [setL_full hl] at h1
theorem there_of {w : World} {b : Nat} {C : Array Value} {T : TypeId} (h : w.heap[b]? = some (.cells C T (0, 0))) : w.there b 0 C.size := fun j hj => by
  rw [Nat.zero_add]
  refine ⟨?_, free_of h⟩
  rw [cell_of h (Array.getElem?_eq_getElem hj)]; rfl
abbrev ByR (v : Value) (bs : List UInt8) : Asrt := RowA 5 1 v bs.length (u8s bs)
theorem or_add (a b k : Nat) (hb : b < 2 ^ k) : (a * 2 ^ k) ||| b = a * 2 ^ k + b := by
  rw [Nat.mul_comm]; exact (Nat.two_pow_add_eq_or_of_lt hb a).symm
theorem bits_or_u32 (a b : Nat) (ha : a < 4294967296) (hb : b < 4294967296) : bits .or .u32 (a : Int) (b : Int) = ((a ||| b : Nat) : Int) := by
  have hx : a ||| b < 2 ^ 32 := Nat.or_lt_two_pow (by omega) (by omega)
  have h1 : (BitVec.ofInt 32 (a : Int)).toNat = a := by
    rw [BitVec.ofInt_natCast, BitVec.toNat_ofNat]; exact Nat.mod_eq_of_lt (by omega)
  have h2 : (BitVec.ofInt 32 (b : Int)).toNat = b := by
    rw [BitVec.ofInt_natCast, BitVec.toNat_ofNat]; exact Nat.mod_eq_of_lt (by omega)
  show IntKind.u32.wrap ((BitVec.ofInt 32 (a : Int) ||| BitVec.ofInt 32 (b : Int)).toNat : Int) = _
  rw [BitVec.toNat_or, h1, h2]
  rw [show ∀ n, IntKind.u32.wrap n = n % 4294967296 from fun n => by simp [IntKind.wrap, IntKind.bits, IntKind.signed]]
  omega
theorem bits_or_i64 (a b : Nat) (ha : a < 4294967296) (hb : b < 4294967296) : bits .or .i64 (a : Int) (b : Int) = ((a ||| b : Nat) : Int) := by
  have hx : a ||| b < 2 ^ 32 := Nat.or_lt_two_pow (by omega) (by omega)
  have h1 : (BitVec.ofInt 64 (a : Int)).toNat = a := by
    rw [BitVec.ofInt_natCast, BitVec.toNat_ofNat]; exact Nat.mod_eq_of_lt (by omega)
  have h2 : (BitVec.ofInt 64 (b : Int)).toNat = b := by
    rw [BitVec.ofInt_natCast, BitVec.toNat_ofNat]; exact Nat.mod_eq_of_lt (by omega)
  show IntKind.i64.wrap ((BitVec.ofInt 64 (a : Int) ||| BitVec.ofInt 64 (b : Int)).toNat : Int) = _
  rw [BitVec.toNat_or, h1, h2]
  exact IntWalk.i64_in _ (by omega)
theorem num_two (x0 x1 : UInt8) : num [x0, x1] = x0.toNat * 256 + x1.toNat := by simp [num]
theorem num_four (x0 x1 x2 x3 : UInt8) : num [x0, x1, x2, x3] = x0.toNat * 16777216 + x1.toNat * 65536 + x2.toNat * 256 + x3.toNat := by simp [num]; omega
theorem results_cell_tmp2_row {P : Program} {fn : Func} {p u1 u2 : Tmp} {ty : TypeId} (h : fn.results = #[.cell p ty, .tmp u1, .tmp u2]) (tmps : Array Value) (w : World) (g : Nat) (t : TypeId) (cs : Array Value) (fr : Nat × Nat) (d : TypeDesc)
    (hp : tmps.getD p undef = .pointer (some ⟨g, 0, none⟩)) (hg : w.heap[g]? = some (.cells cs t fr))
    (hu : P.underlying ty = some d) (hd : (match d with | .struct _ | .array _ _ => true | _ => false) = true) (hi : (P.info? ty).map (·.size) = some cs.size) :
    (results fn tmps).run P w = .ok (.tuple #[.agg cs, tmps.getD u1 undef, tmps.getD u2 undef]) w := by
  have e : (results fn tmps).run P w = ((asAddr (tmps.getD p undef)).run P w).andThen fun a w₁ => ((loadVar ty a).run P w₁).andThen fun v w₂ => .ok (.tuple #[v, tmps.getD u1 undef, tmps.getD u2 undef]) w₂ := by
    simp only [results, h]
    simp [Sem.run_bind, Result.andThen]
  rw [e, hp]
  simp [asAddr, run_loadVar_row w g t ty cs fr d hg hu hd hi, Result.andThen]
theorem results_tmp_cell_row {P : Program} {fn : Func} {p u : Tmp} {ty : TypeId} (h : fn.results = #[.tmp u, .cell p ty]) (tmps : Array Value) (w : World) (g : Nat) (t : TypeId) (cs : Array Value) (fr : Nat × Nat) (d : TypeDesc)
    (hp : tmps.getD p undef = .pointer (some ⟨g, 0, none⟩)) (hg : w.heap[g]? = some (.cells cs t fr))
    (hu : P.underlying ty = some d) (hd : (match d with | .struct _ | .array _ _ => true | _ => false) = true) (hi : (P.info? ty).map (·.size) = some cs.size) :
    (results fn tmps).run P w = .ok (.tuple #[tmps.getD u undef, .agg cs]) w := by
  have e : (results fn tmps).run P w = ((asAddr (tmps.getD p undef)).run P w).andThen fun a w₁ => ((loadVar ty a).run P w₁).andThen fun v w₂ => .ok (.tuple #[tmps.getD u undef, v]) w₂ := by
    simp only [results, h]
    simp [Sem.run_bind, Result.andThen]
  rw [e, hp]
  simp [asAddr, run_loadVar_row w g t ty cs fr d hg hu hd hi, Result.andThen]
theorem results_cell2_tmp_row {P : Program} {fn : Func} {p p' u : Tmp} {ty ty' : TypeId} (h : fn.results = #[.cell p ty, .cell p' ty', .tmp u]) (tmps : Array Value) (w : World) (g g' : Nat) (t t' : TypeId) (cs cs' : Array Value) (fr fr' : Nat × Nat) (d d' : TypeDesc)
    (hp : tmps.getD p undef = .pointer (some ⟨g, 0, none⟩)) (hg : w.heap[g]? = some (.cells cs t fr)) (hp' : tmps.getD p' undef = .pointer (some ⟨g', 0, none⟩)) (hg' : w.heap[g']? = some (.cells cs' t' fr'))
    (hu : P.underlying ty = some d) (hd : (match d with | .struct _ | .array _ _ => true | _ => false) = true) (hi : (P.info? ty).map (·.size) = some cs.size)
    (hu' : P.underlying ty' = some d') (hd' : (match d' with | .struct _ | .array _ _ => true | _ => false) = true) (hi' : (P.info? ty').map (·.size) = some cs'.size) :
    (results fn tmps).run P w = .ok (.tuple #[.agg cs, .agg cs', tmps.getD u undef]) w := by
  have e : (results fn tmps).run P w = ((asAddr (tmps.getD p undef)).run P w).andThen fun a w₁ => ((loadVar ty a).run P w₁).andThen fun v w₂ => ((asAddr (tmps.getD p' undef)).run P w₂).andThen fun a' w₃ => ((loadVar ty' a').run P w₃).andThen fun v' w₄ => .ok (.tuple #[v, v', tmps.getD u undef]) w₄ := by
    simp only [results, h]
    simp [Sem.run_bind, Result.andThen]
  rw [e, hp, hp']
  simp [asAddr, run_loadVar_row w g t ty cs fr d hg hu hd hi, run_loadVar_row w g' t' ty' cs' fr' d' hg' hu' hd' hi', Result.andThen]
theorem results_cell2_tmp2_row {P : Program} {fn : Func} {p p' u u2 : Tmp} {ty ty' : TypeId} (h : fn.results = #[.cell p ty, .cell p' ty', .tmp u, .tmp u2]) (tmps : Array Value) (w : World) (g g' : Nat) (t t' : TypeId) (cs cs' : Array Value) (fr fr' : Nat × Nat) (d d' : TypeDesc)
    (hp : tmps.getD p undef = .pointer (some ⟨g, 0, none⟩)) (hg : w.heap[g]? = some (.cells cs t fr)) (hp' : tmps.getD p' undef = .pointer (some ⟨g', 0, none⟩)) (hg' : w.heap[g']? = some (.cells cs' t' fr'))
    (hu : P.underlying ty = some d) (hd : (match d with | .struct _ | .array _ _ => true | _ => false) = true) (hi : (P.info? ty).map (·.size) = some cs.size)
    (hu' : P.underlying ty' = some d') (hd' : (match d' with | .struct _ | .array _ _ => true | _ => false) = true) (hi' : (P.info? ty').map (·.size) = some cs'.size) :
    (results fn tmps).run P w = .ok (.tuple #[.agg cs, .agg cs', tmps.getD u undef, tmps.getD u2 undef]) w := by
  have e : (results fn tmps).run P w = ((asAddr (tmps.getD p undef)).run P w).andThen fun a w₁ => ((loadVar ty a).run P w₁).andThen fun v w₂ => ((asAddr (tmps.getD p' undef)).run P w₂).andThen fun a' w₃ => ((loadVar ty' a').run P w₃).andThen fun v' w₄ => .ok (.tuple #[v, v', tmps.getD u undef, tmps.getD u2 undef]) w₄ := by
    simp only [results, h]
    simp [Sem.run_bind, Result.andThen]
  rw [e, hp, hp']
  simp [asAddr, run_loadVar_row w g t ty cs fr d hg hu hd hi, run_loadVar_row w g' t' ty' cs' fr' d' hg' hu' hd' hi', Result.andThen]
theorem seg_two {b : List UInt8} {i : Nat} {x0 x1 : UInt8} (h0 : b[i]? = some x0) (h1 : b[i + 1]? = some x1) : (b.drop i).take 2 = [x0, x1] := by
  have hl := (List.getElem?_eq_some_iff.1 h1).1
  rw [List.drop_eq_getElem_cons (by omega), List.drop_eq_getElem_cons (by omega)]
  have e0 := (List.getElem?_eq_some_iff.1 h0).2
  have e1 := (List.getElem?_eq_some_iff.1 h1).2
  rw [e0, e1]; simp
theorem seg_four {b : List UInt8} {i : Nat} {x0 x1 x2 x3 : UInt8} (h0 : b[i]? = some x0) (h1 : b[i + 1]? = some x1) (h2 : b[i + 2]? = some x2) (h3 : b[i + 3]? = some x3) : (b.drop i).take 4 = [x0, x1, x2, x3] := by
  have hl := (List.getElem?_eq_some_iff.1 h3).1
  have e0 := (List.getElem?_eq_some_iff.1 h0).2
  have e1 := (List.getElem?_eq_some_iff.1 h1).2
  have e2 := (List.getElem?_eq_some_iff.1 h2).2
  have e3 := (List.getElem?_eq_some_iff.1 h3).2
  rw [List.drop_eq_getElem_cons (by omega), List.drop_eq_getElem_cons (by omega), List.drop_eq_getElem_cons (by omega), List.drop_eq_getElem_cons (by omega)]
  rw [e0, e1, e2, e3]; simp
theorem results_cell_tmp_row {P : Program} {fn : Func} {p u : Tmp} {ty : TypeId} (h : fn.results = #[.cell p ty, .tmp u]) (tmps : Array Value) (w : World) (g : Nat) (t : TypeId) (cs : Array Value) (fr : Nat × Nat) (d : TypeDesc)
    (hp : tmps.getD p undef = .pointer (some ⟨g, 0, none⟩)) (hg : w.heap[g]? = some (.cells cs t fr))
    (hu : P.underlying ty = some d) (hd : (match d with | .struct _ | .array _ _ => true | _ => false) = true) (hi : (P.info? ty).map (·.size) = some cs.size) :
    (results fn tmps).run P w = .ok (.tuple #[.agg cs, tmps.getD u undef]) w := by
  rw [results_cell_tmp h, hp]
  simp [asAddr, run_loadVar_row w g t ty cs fr d hg hu hd hi, Result.andThen]
theorem Src.plain {w : World} {A : Option Addr} {m k : Nat} {news : List Value} (h : Src w A m k news) (h0 : 0 < m) (hk : 0 < k) : ∃ g o, A = some ⟨g, o, none⟩ ∧ ∀ j u, news[j]? = some u → w.cell? ⟨g, o + j, none⟩ = some u := by
  obtain ⟨ad, e, hc⟩ := h.at' h0
  have hl : 0 < news.length := by rw [h.len]; exact Nat.mul_pos h0 hk
  have c0 := hc 0 _ (List.getElem?_eq_getElem hl)
  have e2 := addr_none c0
  refine ⟨ad.block, ad.off, by rw [e]; exact congrArg some e2, fun j u hu => ?_⟩
  have := hc j u hu
  rw [e2, add_plain] at this
  exact this
section
variable {F0 : List Nat} {w0 w : World} {R : List Asrt}
theorem w_new {g : Nat} (h : In F0 w0 w (Cells g #[.slice none 0 0] 167 :: R)) : In F0 w0 w (WA g [] :: R) := by
  have h1 := h.rownil 5 1
  exact h1.fold (C := WA g []) 0 rfl (WA.framed _ _) (fun F hF => ⟨_, hF⟩)
theorem src_take {A : Option Addr} {n m : Nat} {bs : List UInt8} (h : Src w A n 1 (u8s bs)) (hn : bs.length = n) (hm : m ≤ n) : Src w A m 1 (u8s (bs.take m)) := by
  refine ⟨by rw [u8s_length, List.length_take]; omega, fun h0 => ?_⟩
  obtain ⟨ad, e, hc⟩ := h.at' (by omega)
  refine ⟨ad, e, fun j u hu => hc j u ?_⟩
  rw [← u8s_take, List.getElem?_take] at hu
  split at hu
  · exact hu
  · cases hu
theorem src_drop {g o n i : Nat} {bs : List UInt8} (h : Src w (some ⟨g, o, none⟩) n 1 (u8s bs)) (hn : bs.length = n) (hi : i < n) : Src w (some ⟨g, o + i, none⟩) (n - i) 1 (u8s (bs.drop i)) := by
  refine ⟨by rw [u8s_length, List.length_drop]; omega, fun h0 => ?_⟩
  obtain ⟨ad, e, hc⟩ := h.at' (by omega)
  cases e
  refine ⟨_, rfl, fun j u hu => ?_⟩
  rw [← u8s_drop, List.getElem?_drop] at hu
  have := hc _ u hu
  rw [add_at] at this ⊢
  rwa [Nat.add_assoc]
theorem run_mid (g o : Nat) (n cap i j : Nat) (h0 : i < cap) (h1 : i ≤ j) (h2 : j ≤ cap) (w : World) :
    (Instr.slice 35 (.slice (some ⟨g, o, none⟩) n cap) (some (.int .i64 i)) (some (.int .i64 j)) none).run Tryz.prog w = .ok (.slice (some ⟨g, o + i, none⟩) (j - i) (cap - i)) w := by
  have he : Tryz.prog.elem 35 = 5 := by simp [Program.elem, Tryz.underlying35]
  have hs : (sizeOf 5).run Tryz.prog w = .ok 1 w := by
    have hinf := infoByte
    cases e : Tryz.prog.info? 5 with
    | none => rw [e] at hinf; cases hinf
    | some i0 =>
      rw [e] at hinf
      simp only [Option.map_some, Option.some.injEq, Prod.mk.injEq] at hinf
      simp [sizeOf, typeInfo, e, hinf.2.1]
  have := run_slice_lh (P := Tryz.prog) w 35 (some ⟨g, o, none⟩) n cap (by rw [he]; exact Tryz.underlying35) .i64 .i64 (i : Int) (j : Int) (by omega) (by omega) (by omega)
  rw [this, he, hs]
  have hne : ¬ cap = i := by omega
  simp [Result.andThen, sliced, add_at, hne]
theorem run_mid_end (g o : Nat) (n cap : Nat) (w : World) :
    (Instr.slice 35 (.slice (some ⟨g, o, none⟩) n cap) (some (.int .i64 cap)) (some (.int .i64 cap)) none).run Tryz.prog w = .ok (.slice (some ⟨g, o, none⟩) 0 0) w := by
  have he : Tryz.prog.elem 35 = 5 := by simp [Program.elem, Tryz.underlying35]
  have hs : (sizeOf 5).run Tryz.prog w = .ok 1 w := by
    have hinf := infoByte
    cases e : Tryz.prog.info? 5 with
    | none => rw [e] at hinf; cases hinf
    | some i0 =>
      rw [e] at hinf
      simp only [Option.map_some, Option.some.injEq, Prod.mk.injEq] at hinf
      simp [sizeOf, typeInfo, e, hinf.2.1]
  have := run_slice_lh (P := Tryz.prog) w 35 (some ⟨g, o, none⟩) n cap (by rw [he]; exact Tryz.underlying35) .i64 .i64 (cap : Int) (cap : Int) (by omega) (by omega) (by omega)
  rw [this, he, hs]
  simp [Result.andThen, sliced]
theorem rdTake_ok {l : List UInt8} {n : Nat} (h : n ≤ l.length) : rdTake l 0 n = (l.take n, l.drop n, 0) := by unfold rdTake; rw [if_neg (by simp), if_neg (by omega)]
structure Bytes (F0 : List Nat) (w0 : World) (R : List Asrt) (A : Option Addr) (c : Nat) (b : List UInt8) : Prop where
  src : ∀ w', In F0 w0 w' R → Src w' A b.length 1 (u8s b)
  nil : A = none → c = 0 ∧ b = []
  ad : A = none ∨ ∃ g o, A = some ⟨g, o, none⟩
  cap : b.length ≤ c
  room : c ≤ maxLen
theorem set_cell_same {g : Nat} {C : Array Value} {T : TypeId} {fz : Nat × Nat} (h : w.heap[g]? = some (.cells C T fz)) {o : Nat} (ho : o < C.size) (v : Value) : (w.setCell ⟨g, o, none⟩ v).cell? ⟨g, o, none⟩ = some v :=
  cell_of (hp_setCell_same h) (by simp [ho])
theorem ByR.shape {v : Value} {bs : List UInt8} {w : World} {R : List Asrt} {F0 : List Nat} {w0 : World} (h : In F0 w0 w (ByR v bs :: R)) : ∃ a c, v = .slice a bs.length c := by
  obtain ⟨F, r⟩ := h.get 0 rfl
  obtain ⟨a, c, rfl, -, -, -⟩ := RowA.shape r
  exact ⟨a, c, rfl⟩
theorem ByR.src {a : Option Addr} {n c : Nat} {bs : List UInt8} {w : World} {R : List Asrt} {F0 : List Nat} {w0 : World} (h : In F0 w0 w R) (i : Nat) (hA : R[i]? = some (ByR (.slice a n c) bs)) : Src w a bs.length 1 (u8s bs) := by
  obtain ⟨F, r⟩ := h.get i hA
  exact r.all
theorem by_app {v : Value} {x y : List UInt8} (h : In F0 w0 w (RowA 5 1 v (x.length + y.length) (u8s x ++ u8s y) :: R)) : In F0 w0 w (ByR v (x ++ y) :: R) := by
  have e : u8s (x ++ y) = u8s x ++ u8s y := by simp [u8s]
  show In F0 w0 w (RowA 5 1 v (x ++ y).length (u8s (x ++ y)) :: R)
  rw [e, List.length_append]; exact h
theorem Bytes.cells {A : Option Addr} {c : Nat} {b : List UInt8} (hb : Bytes F0 w0 R A c b) (h0 : 0 < b.length) : ∃ g o, A = some ⟨g, o, none⟩ ∧ ∀ W, In F0 w0 W R → ∀ j x, b[j]? = some x → W.cell? ⟨g, o + j, none⟩ = some (.int .u8 x.toNat) := by
  obtain ⟨g, o, rfl⟩ : ∃ g o, A = some ⟨g, o, none⟩ := by
    rcases hb.ad with rfl | h
    · have := (hb.nil rfl).2; subst this; simp at h0
    · exact h
  refine ⟨g, o, rfl, fun W hW j x hx => ?_⟩
  obtain ⟨ad, e, hc⟩ := (hb.src W hW).at' h0
  cases e
  have := hc j (.int .u8 x.toNat) (by simp [u8s, hx])
  rwa [add_at] at this
theorem seg_one {b : List UInt8} {i : Nat} {x : UInt8} (h : b[i]? = some x) : (b.drop i).take 1 = [x] := by
  have hl := (List.getElem?_eq_some_iff.1 h).1
  rw [List.drop_eq_getElem_cons hl, (List.getElem?_eq_some_iff.1 h).2]; simp
theorem num_one (x : UInt8) : num [x] = x.toNat := by simp [num]
theorem run_suf (g o : Nat) (n cap i : Nat) (h1 : i ≤ n) (h2 : i < cap) (w : World) :
    (Instr.slice 35 (.slice (some ⟨g, o, none⟩) n cap) (some (.int .i64 i)) none none).run Tryz.prog w = .ok (.slice (some ⟨g, o + i, none⟩) (n - i) (cap - i)) w := by
  rw [run_suffix Tryz.underlying35 infoByte _ _ _ _ h1]
  unfold sufA
  rw [if_neg (by omega)]
  simp [add_at]
theorem In.rowFull (h : In F0 w0 w R) (i : Nat) {g n : Nat} {C : Array Value} {T : TypeId} {k : Nat} (hA : R[i]? = some (Cells g C T)) (hs : C.size = n * k) (hn : n ≤ maxLen) : In F0 w0 w (R.set i (RowA T k (.slice (some ⟨g, 0, none⟩) n n) n C.toList)) :=
  h.imp i hA (RowA.framed _ _ _ _ _) fun F hF => ⟨by rw [hF.1]; simp [Value.ownBlock], by simp [hs], Or.inr ⟨g, n, C, rfl, Nat.zero_le _, hF.2, Nat.le_refl _, hn, hs, by rw [List.take_of_length_le (by simp [hs])]⟩⟩
end
def recN (l : List Rec) : List Value := (l.map (fun r => encRL r (.slice none 0 0))).flatten
abbrev RecR (v : Value) (l : List Rec) : Asrt := RowA 54 14 v l.length (recN l)
section
variable {F0 : List Nat} {w0 w : World} {R : List Asrt} {bt : Nat} {most idle : Int} {L : List Fl}
def KeepPost (r : List Rec × List Fl) (bt : Nat) (most idle : Int) (i : Nat) (F0 : List Nat) (w0 : World) (R : List Asrt) (e : Ending) (w' : World) : Prop := ∃ v, e = .returned v ∧ In F0 w0 w' (RecR v r.1 :: R.set i (FA bt most idle r.2))
theorem rec_one (h : In F0 w0 w R) (r : Rec) : In F0 w0 (w.alloc (.cells (encRL r (.slice none 0 0)).toArray 54)) (RecR (.slice (some ⟨w.heap.size, 0, none⟩) 1 1) [r] :: R) := by
  have h1 := (h.cells (encRL r (.slice none 0 0)).toArray 54).rowFull 0 (n := 1) (k := 14) rfl (by rfl) (by unfold maxLen; omega)
  have e : (encRL r (.slice none 0 0)).toArray.toList = recN [r] := by simp [recN]
  rw [e] at h1
  exact h1
theorem o_pakeep (h : In F0 w0 w R) (i : Nat) (hA : R[i]? = some (FA bt most idle L)) {f : Fl} (wf : WfT f.t) (known : Bool) (was : Int) (ends : Bool) :
    Calls Tryz.prog 43 #[.pointer (some ⟨bt, 0, none⟩), .agg (encF f), .bool known, .int .i64 was, .bool ends] w (KeepPost (keepD most L f known was ends) bt most idle i F0 w0 R) := by
  have hR : R.set i (FA bt most idle L) = R := set_same hA
  have hi := (List.getElem?_eq_some_iff.1 hA).1
  have h1 := h.cells (encF f) 49
  have hA1 : (Cells w.heap.size (encF f) 49 :: R)[i + 1]? = some (FA bt most idle L) := by simpa using hA
  cases ends with
  | true =>
    cases known with
    | false =>
      have e : keepD most L f false was true = ([], L) := rfl
      have G : Hid (KeepPost ([], L) bt most idle i F0 w0 R (.returned (.slice none 0 0)) (w.alloc (.cells (encF f) 49))) := Lib.hid ⟨_, rfl, by
        rw [hR]; exact (h1.drop).rownil _ _⟩
      rw [e]
      obtain ⟨⟨k0, k1, k2, k3, k4⟩, bk, gen, seen⟩ := f
      clear e h h1 hA hA1 hR wf
      go_enter Tryz.func43, Tryz.ntmps43
      go_wp2_with fail
      go_ret
      exact G.out
    | true =>
      have e : keepD most L f true was true = ([delRec f.t], delF f.t L) := rfl
      have K := Lib.hid (o_fdrop h1 (i + 1) hA1 wf)
      rw [e]
      have hb1 := h1.block 0 rfl
      obtain ⟨⟨k0, k1, k2, k3, k4⟩, bk, gen, seen⟩ := f
      have c0 : (w.alloc (.cells #[.int .u32 k0, .int .u32 k1, .int .i64 k2, .int .i64 k3, .int .i64 k4, .int .i64 bk, .int .i64 gen, .int .i64 seen] 49)).cell? ⟨w.heap.size, 0, none⟩ = some (.int .u32 k0) := cell_of hb1 rfl
      have c1 : (w.alloc (.cells #[.int .u32 k0, .int .u32 k1, .int .i64 k2, .int .i64 k3, .int .i64 k4, .int .i64 bk, .int .i64 gen, .int .i64 seen] 49)).cell? ⟨w.heap.size, 1, none⟩ = some (.int .u32 k1) := cell_of hb1 rfl
      have c2 : (w.alloc (.cells #[.int .u32 k0, .int .u32 k1, .int .i64 k2, .int .i64 k3, .int .i64 k4, .int .i64 bk, .int .i64 gen, .int .i64 seen] 49)).cell? ⟨w.heap.size, 2, none⟩ = some (.int .i64 k2) := cell_of hb1 rfl
      have c3 : (w.alloc (.cells #[.int .u32 k0, .int .u32 k1, .int .i64 k2, .int .i64 k3, .int .i64 k4, .int .i64 bk, .int .i64 gen, .int .i64 seen] 49)).cell? ⟨w.heap.size, 3, none⟩ = some (.int .i64 k3) := cell_of hb1 rfl
      have c4 : (w.alloc (.cells #[.int .u32 k0, .int .u32 k1, .int .i64 k2, .int .i64 k3, .int .i64 k4, .int .i64 bk, .int .i64 gen, .int .i64 seen] 49)).cell? ⟨w.heap.size, 4, none⟩ = some (.int .i64 k4) := cell_of hb1 rfl
      have eg : ∀ args w, (callFunc 84 args).run Tryz.prog w = .ok (.enter 84 args) w := enters_of Tryz.func84 (by kernel_rfl) rfl
      clear e h h1 hA hA1 hR wf hb1
      go_enter Tryz.func43, Tryz.ntmps43
      go_wp2_with fail
      generalize w.heap.size = g at *
      refine K.out.mono ?_
      rintro e w1 ⟨rfl, ho⟩
      have hb1 := ho.block 0 rfl
      have d0 : w1.cell? ⟨g, 0, none⟩ = some (.int .u32 k0) := cell_of hb1 rfl
      have d1 : w1.cell? ⟨g, 1, none⟩ = some (.int .u32 k1) := cell_of hb1 rfl
      have d2 : w1.cell? ⟨g, 2, none⟩ = some (.int .i64 k2) := cell_of hb1 rfl
      have d3 : w1.cell? ⟨g, 3, none⟩ = some (.int .i64 k3) := cell_of hb1 rfl
      have d4 : w1.cell? ⟨g, 4, none⟩ = some (.int .i64 k4) := cell_of hb1 rfl
      have G := Lib.hid (rec_one ho.drop (delRec ⟨k0, k1, k2, k3, k4⟩))
      clear ho K hb1 c0 c1 c2 c3 c4
      go_wp2_with fail
      go_ret
      exact ⟨_, rfl, G.out⟩
  | false =>
    by_cases hk : known = true ∧ was = f.bk
    · have e : keepD most L f known was false = ([], (touchF L f.t f.seen).1) := by unfold keepD; rw [if_neg (by simp), if_pos hk]
      have K := Lib.hid (o_ftouch h1 (i + 1) hA1 wf f.seen)
      rw [e]
      obtain ⟨rfl, rfl⟩ := hk
      have hb1 := h1.block 0 rfl
      obtain ⟨⟨k0, k1, k2, k3, k4⟩, bk, gen, seen⟩ := f
      have c0 : (w.alloc (.cells #[.int .u32 k0, .int .u32 k1, .int .i64 k2, .int .i64 k3, .int .i64 k4, .int .i64 bk, .int .i64 gen, .int .i64 seen] 49)).cell? ⟨w.heap.size, 0, none⟩ = some (.int .u32 k0) := cell_of hb1 rfl
      have c1 : (w.alloc (.cells #[.int .u32 k0, .int .u32 k1, .int .i64 k2, .int .i64 k3, .int .i64 k4, .int .i64 bk, .int .i64 gen, .int .i64 seen] 49)).cell? ⟨w.heap.size, 1, none⟩ = some (.int .u32 k1) := cell_of hb1 rfl
      have c2 : (w.alloc (.cells #[.int .u32 k0, .int .u32 k1, .int .i64 k2, .int .i64 k3, .int .i64 k4, .int .i64 bk, .int .i64 gen, .int .i64 seen] 49)).cell? ⟨w.heap.size, 2, none⟩ = some (.int .i64 k2) := cell_of hb1 rfl
      have c3 : (w.alloc (.cells #[.int .u32 k0, .int .u32 k1, .int .i64 k2, .int .i64 k3, .int .i64 k4, .int .i64 bk, .int .i64 gen, .int .i64 seen] 49)).cell? ⟨w.heap.size, 3, none⟩ = some (.int .i64 k3) := cell_of hb1 rfl
      have c4 : (w.alloc (.cells #[.int .u32 k0, .int .u32 k1, .int .i64 k2, .int .i64 k3, .int .i64 k4, .int .i64 bk, .int .i64 gen, .int .i64 seen] 49)).cell? ⟨w.heap.size, 4, none⟩ = some (.int .i64 k4) := cell_of hb1 rfl
      have c5 : (w.alloc (.cells #[.int .u32 k0, .int .u32 k1, .int .i64 k2, .int .i64 k3, .int .i64 k4, .int .i64 bk, .int .i64 gen, .int .i64 seen] 49)).cell? ⟨w.heap.size, 5, none⟩ = some (.int .i64 bk) := cell_of hb1 rfl
      have c7 : (w.alloc (.cells #[.int .u32 k0, .int .u32 k1, .int .i64 k2, .int .i64 k3, .int .i64 k4, .int .i64 bk, .int .i64 gen, .int .i64 seen] 49)).cell? ⟨w.heap.size, 7, none⟩ = some (.int .i64 seen) := cell_of hb1 rfl
      have eg : ∀ args w, (callFunc 83 args).run Tryz.prog w = .ok (.enter 83 args) w := enters_of Tryz.func83 (by kernel_rfl) rfl
      clear e h h1 hA hA1 hR wf hb1
      go_enter Tryz.func43, Tryz.ntmps43
      go_wp2_with fail
      generalize w.heap.size = g at *
      refine K.out.mono ?_
      rintro e w1 ⟨rfl, ho⟩
      have G := Lib.hid (ho.drop.rownil 54 14)
      clear ho K c0 c1 c2 c3 c4 c5 c7
      go_wp2_with fail
      go_ret
      exact ⟨_, rfl, G.out⟩
    · have e : keepD most L f known was false = (if (putF most L f).2.2 = 0 then ([putRec f], (putF most L f).1) else ([], (putF most L f).1)) := by unfold keepD; rw [if_neg (by simp), if_neg hk]
      have K0 := o_fput h1 (i + 1) hA1 wf
      generalize putF most L f = r at *
      obtain ⟨L2, ok, er⟩ := r
      simp only at K0 e
      have K := Lib.hid K0
      rw [e]
      obtain ⟨X, hX⟩ : ∃ X, X = (if er = 0 then ([putRec f], L2) else (([] : List Rec), L2)) := ⟨_, rfl⟩
      rw [← hX]
      have HX0 : er = 0 → X = ([putRec f], L2) := fun h0 => by rw [hX, if_pos h0]
      have HX1 : er ≠ 0 → X = ([], L2) := fun h0 => by rw [hX, if_neg h0]
      clear hX
      have hb1 := h1.block 0 rfl
      obtain ⟨⟨k0, k1, k2, k3, k4⟩, bk, gen, seen⟩ := f
      have c0 : (w.alloc (.cells #[.int .u32 k0, .int .u32 k1, .int .i64 k2, .int .i64 k3, .int .i64 k4, .int .i64 bk, .int .i64 gen, .int .i64 seen] 49)).cell? ⟨w.heap.size, 0, none⟩ = some (.int .u32 k0) := cell_of hb1 rfl
      have c1 : (w.alloc (.cells #[.int .u32 k0, .int .u32 k1, .int .i64 k2, .int .i64 k3, .int .i64 k4, .int .i64 bk, .int .i64 gen, .int .i64 seen] 49)).cell? ⟨w.heap.size, 1, none⟩ = some (.int .u32 k1) := cell_of hb1 rfl
      have c2 : (w.alloc (.cells #[.int .u32 k0, .int .u32 k1, .int .i64 k2, .int .i64 k3, .int .i64 k4, .int .i64 bk, .int .i64 gen, .int .i64 seen] 49)).cell? ⟨w.heap.size, 2, none⟩ = some (.int .i64 k2) := cell_of hb1 rfl
      have c3 : (w.alloc (.cells #[.int .u32 k0, .int .u32 k1, .int .i64 k2, .int .i64 k3, .int .i64 k4, .int .i64 bk, .int .i64 gen, .int .i64 seen] 49)).cell? ⟨w.heap.size, 3, none⟩ = some (.int .i64 k3) := cell_of hb1 rfl
      have c4 : (w.alloc (.cells #[.int .u32 k0, .int .u32 k1, .int .i64 k2, .int .i64 k3, .int .i64 k4, .int .i64 bk, .int .i64 gen, .int .i64 seen] 49)).cell? ⟨w.heap.size, 4, none⟩ = some (.int .i64 k4) := cell_of hb1 rfl
      have c5 : (w.alloc (.cells #[.int .u32 k0, .int .u32 k1, .int .i64 k2, .int .i64 k3, .int .i64 k4, .int .i64 bk, .int .i64 gen, .int .i64 seen] 49)).cell? ⟨w.heap.size, 5, none⟩ = some (.int .i64 bk) := cell_of hb1 rfl
      have c6 : (w.alloc (.cells #[.int .u32 k0, .int .u32 k1, .int .i64 k2, .int .i64 k3, .int .i64 k4, .int .i64 bk, .int .i64 gen, .int .i64 seen] 49)).cell? ⟨w.heap.size, 6, none⟩ = some (.int .i64 gen) := cell_of hb1 rfl
      have c7 : (w.alloc (.cells #[.int .u32 k0, .int .u32 k1, .int .i64 k2, .int .i64 k3, .int .i64 k4, .int .i64 bk, .int .i64 gen, .int .i64 seen] 49)).cell? ⟨w.heap.size, 7, none⟩ = some (.int .i64 seen) := cell_of hb1 rfl
      have eg : ∀ args w, (callFunc 82 args).run Tryz.prog w = .ok (.enter 82 args) w := enters_of Tryz.func82 (by kernel_rfl) rfl
      have hkb : (known && (was == bk)) = false := by
        cases hkn : known with
        | false => rfl
        | true => rw [Bool.true_and, beq_eq_false_iff_ne]; exact fun e => hk ⟨hkn, e⟩
      have HKB : Hid (known = false ∨ (known = true ∧ (was == bk) = false)) := Lib.hid (by cases known with
        | false => exact Or.inl rfl
        | true => exact Or.inr ⟨rfl, by simpa using hkb⟩)
      clear e h h1 hA hA1 hR wf hb1 hk hkb K0
      have HFin : Hid (∀ w1, In F0 w0 w1 ((Cells w.heap.size (encF ⟨⟨k0, k1, k2, k3, k4⟩, bk, gen, seen⟩) 49 :: R).set (i + 1) (FA bt most idle L2)) → (er = 0 → KeepPost X bt most idle i F0 w0 R (.returned (.slice (some ⟨w1.heap.size, 0, none⟩) 1 1)) (w1.alloc (.cells (encRL (putRec ⟨⟨k0, k1, k2, k3, k4⟩, bk, gen, seen⟩) (.slice none 0 0)).toArray 54))) ∧ (er ≠ 0 → KeepPost X bt most idle i F0 w0 R (.returned (.slice none 0 0)) w1)) := Lib.hid fun w1 hw1 => by
        refine ⟨fun h0 => ?_, fun h0 => ?_⟩
        · rw [HX0 h0]; exact ⟨_, rfl, rec_one hw1.drop _⟩
        · rw [HX1 h0]; exact ⟨_, rfl, hw1.drop.rownil 54 14⟩
      clear HX0 HX1
      have HB : Hid (∀ w1, In F0 w0 w1 ((Cells w.heap.size (encF ⟨⟨k0, k1, k2, k3, k4⟩, bk, gen, seen⟩) 49 :: R).set (i + 1) (FA bt most idle L2)) → w1.heap[w.heap.size]? = some (.cells #[.int .u32 k0, .int .u32 k1, .int .i64 k2, .int .i64 k3, .int .i64 k4, .int .i64 bk, .int .i64 gen, .int .i64 seen] 49 (0, 0))) := Lib.hid fun w1 hw1 => hw1.block 0 rfl
      generalize (Cells w.heap.size (encF ⟨⟨k0, k1, k2, k3, k4⟩, bk, gen, seen⟩) 49 :: R).set (i + 1) (FA bt most idle L2) = RR at *
      go_enter Tryz.func43, Tryz.ntmps43
      rcases HKB.out with hq | ⟨hq, hq2⟩
      all_goals
        clear HKB
        go_wp2_with fail
        generalize w.heap.size = g at *
        refine K.out.mono ?_
        rintro e w1 ⟨rfl, ho⟩
        have HH := Lib.hid (HFin.out w1 ho)
        have hb1 := HB.out w1 ho
        have d0 : w1.cell? ⟨g, 0, none⟩ = some (.int .u32 k0) := cell_of hb1 rfl
        have d1 : w1.cell? ⟨g, 1, none⟩ = some (.int .u32 k1) := cell_of hb1 rfl
        have d2 : w1.cell? ⟨g, 2, none⟩ = some (.int .i64 k2) := cell_of hb1 rfl
        have d3 : w1.cell? ⟨g, 3, none⟩ = some (.int .i64 k3) := cell_of hb1 rfl
        have d4 : w1.cell? ⟨g, 4, none⟩ = some (.int .i64 k4) := cell_of hb1 rfl
        have d5 : w1.cell? ⟨g, 5, none⟩ = some (.int .i64 bk) := cell_of hb1 rfl
        have d6 : w1.cell? ⟨g, 6, none⟩ = some (.int .i64 gen) := cell_of hb1 rfl
        have d7 : w1.cell? ⟨g, 7, none⟩ = some (.int .i64 seen) := cell_of hb1 rfl
        clear ho K hb1 c0 c1 c2 c3 c4 c5 c6 c7 HFin HB
        by_cases he : er = 0
        · have G := Lib.hid (HH.out.1 he)
          clear HH
          subst he
          go_wp2_with fail
          go_ret
          exact G.out
        · have G := Lib.hid (HH.out.2 he)
          have he' : (er != 0) = true := by rw [bne_iff_ne]; exact he
          clear HH
          go_wp2_with fail
          go_ret
          exact G.out
end
def inB (x m : Int) : Bool := decide (0 ≤ x ∧ x ≤ m)
section
variable {F0 : List Nat} {w0 w : World} {R : List Asrt}
def BksAt (F0 : List Nat) (w0 : World) (R : List Asrt) (A : Option Addr) (l : List Bk) : Prop := ∀ w', In F0 w0 w' R → Src w' A l.length 3 (bkV l)
theorem BksAt.cell {A : Option Addr} {l : List Bk} (hs : BksAt F0 w0 R A l) (h : In F0 w0 w R) {k : Nat} {b : Bk} (hb : l[k]? = some b) : ∃ g o, A = some ⟨g, o, none⟩ ∧ w.cell? ⟨g, o + k * 3, none⟩ = some (.int .i64 b.id) ∧ w.cell? ⟨g, o + k * 3 + 1, none⟩ = some (.int .u32 b.addr) ∧ w.cell? ⟨g, o + k * 3 + 2, none⟩ = some (.int .i64 b.weight) := by
  have hk := (List.getElem?_eq_some_iff.1 hb).1
  obtain ⟨g, o, e, hc⟩ := (hs w h).plain (by omega) (by decide)
  obtain ⟨b0, b1, b2⟩ := bkV_at hb
  exact ⟨g, o, e, hc _ _ b0, hc _ _ b1, hc _ _ b2⟩
end
end Go.Proofs.YtgapbecddgfkmaaGreat
