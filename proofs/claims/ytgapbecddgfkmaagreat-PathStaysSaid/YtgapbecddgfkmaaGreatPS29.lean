/- Rows.PathStaysSaid -/
import Derived.Test.YtgapbecddgfkmaaGreatPS28
import Derived.Test.YtgapbecddgfkmaaGreatPS18
import Derived.Test.YtgapbecddgfkmaaGreatPS26
import Derived.Test.YtgapbecddgfkmaaGreatPS22
import Derived.Test.YtgapbecddgfkmaaGreatPS23
import Derived.Test.YtgapbecddgfkmaaGreatPS25
import Derived.Test.YtgapbecddgfkmaaGreatPS27
import Derived.Deep.DeepCutAuto
import Derived.Deep.CutBlock
namespace Go.Proofs.YtgapbecddgfkmaaGreat
open Go.RowKit
set_option linter.unusedVariables false
set_option maxHeartbeats 64000000
set_option maxRecDepth 100000
theorem fl_neq (s t : Fl) (w : World) : (binOp .neq 49 (.agg (encF s)) (.agg (encF t))).run Tryz.prog w = .ok (.bool (!decide (s = t))) w := by
  have h := fl_eq s t w
  rw [run_eql_struct] at h
  rw [run_neq_struct]
  revert h
  generalize (Sem.run _ _ _) = r
  intro h
  cases r with
  | ok b w' =>
    simp [Result.andThen] at h ⊢
    exact ⟨by rw [h.1], h.2⟩
  | halt x w' => simp [Result.andThen] at h
theorem tup_neq (s t : Tup) (w : World) : (binOp .neq 24 (.agg (encT s)) (.agg (encT t))).run Tryz.prog w = .ok (.bool (!decide (s = t))) w := by
  have h := tup_eq s t w
  rw [run_eql_struct] at h
  rw [run_neq_struct]
  revert h
  generalize (Sem.run _ _ _) = r
  intro h
  cases r with
  | ok b w' =>
    simp [Result.andThen] at h ⊢
    exact ⟨by rw [h.1], h.2⟩
  | halt x w' => simp [Result.andThen] at h
theorem flatF_at : ∀ {L : List Fl} {j : Nat} {x : Fl}, L[j]? = some x → ∀ (c : Nat) (u : Value), (encF x)[c]? = some u → (flatF L)[j * 8 + c]? = some u
  | [], j, x, h, c, u, hu => by simp at h
  | y :: r, 0, x, h, c, u, hu => by
    simp at h; subst h
    have e : flatF (y :: r) = (encF y).toList ++ flatF r := rfl
    have hc : c < 8 := by have := (Array.getElem?_eq_some_iff.1 hu).1; simpa using this
    rw [e, Nat.zero_mul, Nat.zero_add, List.getElem?_append_left (by simpa using hc), Array.getElem?_toList]; exact hu
  | y :: r, j + 1, x, h, c, u, hu => by
    have e : flatF (y :: r) = (encF y).toList ++ flatF r := rfl
    have ih := flatF_at (L := r) (j := j) (by simpa using h) c u hu
    rw [e, List.getElem?_append_right (by simp; omega)]
    rw [show (j + 1) * 8 + c - (encF y).toList.length = j * 8 + c by simp; omega]
    exact ih
def FlAt (w : World) (b o : Nat) (x : Fl) : Prop := w.cell? ⟨b, o, none⟩ = some (.int .u32 x.t.src) ∧ w.cell? ⟨b, o + 1, none⟩ = some (.int .u32 x.t.dst) ∧ w.cell? ⟨b, o + 2, none⟩ = some (.int .i64 x.t.proto) ∧ w.cell? ⟨b, o + 3, none⟩ = some (.int .i64 x.t.sport) ∧ w.cell? ⟨b, o + 4, none⟩ = some (.int .i64 x.t.dport) ∧ w.cell? ⟨b, o + 5, none⟩ = some (.int .i64 x.bk) ∧ w.cell? ⟨b, o + 6, none⟩ = some (.int .i64 x.gen) ∧ w.cell? ⟨b, o + 7, none⟩ = some (.int .i64 x.seen)
theorem view_flow {a : Option Addr} {n cap : Nat} {L : List Fl} {w : World} {F : List Nat} (h : ViewA 8 (.slice a n cap) L.length (flatF L) w F) (h0 : 0 < L.length) : ∃ g o, a = some ⟨g, o, none⟩ ∧ ∀ (j : Nat) (x : Fl), L[j]? = some x → FlAt w g (o + j * 8) x := by
  obtain ⟨g, o, rfl, hc⟩ := h.at h0 (by omega)
  refine ⟨g, o, rfl, fun j x hx => ?_⟩
  have key : ∀ c u, (encF x)[c]? = some u → w.cell? ⟨g, o + j * 8 + c, none⟩ = some u := fun c u hu => by rw [Nat.add_assoc]; exact hc _ u (flatF_at hx c u hu)
  exact ⟨key 0 _ rfl, key 1 _ rfl, key 2 _ rfl, key 3 _ rfl, key 4 _ rfl, key 5 _ rfl, key 6 _ rfl, key 7 _ rfl⟩
def SameRel (w : World) (A B : List Fl) (k : Value) (wr : World) : Prop := ∃ (j m : Nat), k = .int .i64 j ∧ j ≤ A.length ∧ A.take j = B.take j ∧ wr = w.drewN m
def SamePost (b : Bool) (w : World) (e : Ending) (w' : World) : Prop := e = .returned (.bool b) ∧ ∃ m, w' = w.drewN m
theorem take_next {A B : List Fl} {j : Nat} {x y : Fl} (h : A.take j = B.take j) (hx : A[j]? = some x) (hy : B[j]? = some y) : (x = y → A.take (j + 1) = B.take (j + 1)) ∧ (x ≠ y → A ≠ B) := by
  constructor
  · rintro rfl; rw [List.take_add_one, List.take_add_one, h, hx, hy]
  · rintro hne rfl; rw [hx] at hy; exact hne (Option.some.inj hy)
theorem sameflows {w : World} {v v' : Value} {A B : List Fl} {F F' : List Nat} (h : ViewA 8 v A.length (flatF A) w F) (h' : ViewA 8 v' B.length (flatF B) w F') :
    Calls Tryz.prog 26 #[v, v'] w (SamePost (decide (A = B)) w) := by
  obtain ⟨a, cap, rfl, l1, l2⟩ := h.shape
  obtain ⟨a', cap', rfl, l3, l4⟩ := h'.shape
  unfold maxLen at l2 l4
  by_cases hlen : A.length = B.length
  · have HV : Hid (0 < A.length → ∃ g o g' o', a = some ⟨g, o, none⟩ ∧ a' = some ⟨g', o', none⟩ ∧ ∀ (j : Nat) (x y : Fl), A[j]? = some x → B[j]? = some y → FlAt w g (o + j * 8) x ∧ FlAt w g' (o' + j * 8) y) := Lib.hid fun h0 => by
      obtain ⟨g, o, e1, c1⟩ := view_flow h h0
      obtain ⟨g', o', e2, c2⟩ := view_flow h' (by omega)
      exact ⟨g, o, g', o', e1, e2, fun j x y hx hy => ⟨c1 j x hx, c2 j y hy⟩⟩
    have HS : Hid (SameRel w A B (.int .i64 0) w) := Lib.hid ⟨0, 0, rfl, Nat.zero_le _, rfl, rfl⟩
    have HLEN := Lib.hid hlen
    have hl2 : ((A.length : Int) != (B.length : Int)) = false := by simp [hlen]
    clear h h' hlen
    have hm : Tryz.prog.eqGuardType Tryz.prog.depth 49 = false := by kernel_rfl
    go_enter Tryz.func26, Tryz.ntmps26
    go_wp2_with fail
    go_loopw [5, 13] (fun _ k wr => SameRel w A B k wr) (fun _ k _ => A.length - (intOf k).toNat)
    case atStart => exact HS.out
    case round =>
      obtain ⟨j, m, rfl, hj, htk, rfl⟩ := hrel
      clear HS hl2
      by_cases hlt : j < A.length
      · obtain ⟨x, hx⟩ : ∃ x, A[j]? = some x := ⟨A[j], List.getElem?_eq_getElem hlt⟩
        obtain ⟨y, hy⟩ : ∃ y, B[j]? = some y := ⟨B[j]'(by have := HLEN.out; omega), List.getElem?_eq_getElem _⟩
        obtain ⟨g, o, g', o', e1, e2, hc⟩ := HV.out (by omega)
        subst e1; subst e2
        obtain ⟨⟨a0, a1, a2, a3, a4, a5, a6, a7⟩, b0, b1, b2, b3, b4, b5, b6, b7⟩ := hc j x y hx hy
        have i1 : (j : Int) < (A.length : Int) := by omega
        have i2 : (j : Int) < (B.length : Int) := by have := HLEN.out; omega
        have HT := Lib.hid (take_next htk hx hy)
        have HN := Lib.hid (fl_neq x y)
        have HR : Hid (x = y → ∀ q, SameRel w A B (.int .i64 (j + 1)) (w.drewN q)) := Lib.hid fun e q => ⟨j + 1, q, by congr 1, by omega, HT.out.1 e, rfl⟩
        clear hx hy htk hc hlt
        by_cases he : x = y
        · have hn : ∀ w, (binOp .neq 49 (.agg (encF x)) (.agg (encF y))).run Tryz.prog w = .ok (.bool false) w := fun w => by rw [HN.out]; simp [he]
          have HE := Lib.hid he
          clear he
          go_wp2_with fail
          go_quiet (fail)
          go_wp2_with fail
          go_roundw
          case rel => exact HR.out HE.out _
          case measure => simp [intOf]; omega
        · have hn : ∀ w, (binOp .neq 49 (.agg (encF x)) (.agg (encF y))).run Tryz.prog w = .ok (.bool true) w := fun w => by rw [HN.out]; simp [he]
          have HE : Hid (A ≠ B) := Lib.hid (HT.out.2 he)
          clear he
          go_wp2_with fail
          go_quiet (fail)
          go_wp2_with fail
          go_ret
          exact ⟨by rw [decide_eq_false HE.out]; rfl, _, World.drewN_drewN _ _ _⟩
      · have hge : (A.length : Int) ≤ (j : Int) := by omega
        have HE : Hid (A = B) := Lib.hid (by
          have : j = A.length := by omega
          subst this
          rw [List.take_length] at htk
          rw [htk, HLEN.out, List.take_length])
        clear hlt htk
        go_wp2_with fail
        go_ret
        exact ⟨by rw [decide_eq_true HE.out]; rfl, _, rfl⟩
  · have HE : Hid (A ≠ B) := Lib.hid (fun e => hlen (by rw [e]))
    have hl2 : ((A.length : Int) != (B.length : Int)) = true := by rw [bne_iff_ne]; omega
    clear h h' hlen
    go_enter Tryz.func26, Tryz.ntmps26
    go_wp2_with fail
    go_ret
    exact ⟨by rw [decide_eq_false HE.out]; rfl, 0, rfl⟩
section
variable {P : Program} {Q : Exit → Act → World → Prop} {S : World → Prop} {l : List Oper}
def threeB (l : List Oper) (i j k : Nat) (listed : Array Bool) : Bool := decide (Region.ready .any l.toArray listed = [i, j, k]) && (decide (i + 1 < l.toArray.size) && (decide (j + 1 < l.toArray.size) && decide (k + 1 < l.toArray.size)))
end
def zC23 : Array Value := #[.int .i64 0, .int .i64 0, .int .i64 0, .int .u32 0, .int .u32 0, .int .i64 0, .int .i64 0, .int .i64 0, .slice none 0 0, .int .i64 0, .slice none 0 0, .slice none 0 0]
theorem c23V_one {c : Call23} {ab al ao : Option Addr} {cb cl co : Nat} : (c23V c ab cb al cl ao co).toArray.all (·.oneCell') = true := by simp [c23V, Value.oneCell']
theorem range_old23 {w0 w : World} {R : List Asrt} (h : Own w0 w R) {b o : Nat} {cs : List Value} (hc : ∀ j u, cs[j]? = some u → w0.cell? ⟨b, o + j, none⟩ = some u) : w.rangeAt b o cs := fun j u hu => cell_old h (hc j u hu)
theorem src_cells {W : World} {g : Nat} {C : Array Value} {T : TypeId} (h : W.heap[g]? = some (.cells C T (0, 0))) {m k : Nat} (hs : C.size = m * k) : Src W (some ⟨g, 0, none⟩) m k C.toList := ⟨by simpa using hs, fun _ => ⟨_, rfl, fun j u hu => by
  rw [add_at, Nat.zero_add]; exact cell_of h (by rw [← Array.getElem?_toList]; exact hu)⟩⟩
theorem range_at {w : World} {b : Nat} {C : Array Value} {T : TypeId} (h : w.heap[b]? = some (.cells C T (0, 0))) : w.rangeAt b 0 C.toList := fun j u hu => by
  rw [Nat.zero_add]; exact cell_of h (by rw [← Array.getElem?_toList]; exact hu)
section
variable {F0 : List Nat} {w0 w : World} {R : List Asrt}
theorem c23_box (h : In F0 w0 w R) (c : Call23) (ab : Option Addr) (cb : Nat) (al : Option Addr) (cl : Nat) (ao : Option Addr) (co : Nat) : (w.alloc (.cells zC23 65)).there w.heap.size 0 12 ∧ In F0 w0 ((w.alloc (.cells zC23 65)).setCells w.heap.size 0 (c23V c ab cb al cl ao co).toArray.toList) (Cells w.heap.size (c23V c ab cb al cl ao co).toArray 65 :: R) := by
  have g1 := h.cells zC23 65
  exact ⟨there_of (g1.block 0 rfl), g1.setFull 0 rfl (xs := c23V c ab cb al cl ao co) (b := w.heap.size) (C := zC23) (T := 65) rfl⟩
def StRel (n : Nat) (k : Tup) (home : Int) (bt cb gt : Nat) (w : World) (vi : Value) (wr : World) : Prop := ∃ (i : Nat) (L : List Fl) (c : ChD) (vl vt : Value), vi = .int .i64 i ∧ i ≤ n ∧ i ≤ 40 ∧ StInv k home i L c ∧ In [] w wr (FA bt 8 1000 L :: ChL cb c vl vt (Cells gt (encT k) 24 :: []))
def StMid (k : Tup) (home : Int) (m : Nat) (bt cb gt : Nat) (w : World) (wr : World) : Prop := ∃ (L : List Fl) (c : ChD) (vl vt : Value), StInv k home m L c ∧ In [] w wr (FA bt 8 1000 L :: ChL cb c vl vt (Cells gt (encT k) 24 :: []))
end
def condAt (n : Nat) : Code → Option Code
  | .cond c a b => match c with
    | .tmp t => match Nat.beq t n with
      | true => some (.cond (.tmp t) a b)
      | false => match condAt n a with
        | some c => some c
        | none => condAt n b
    | _ => match condAt n a with
      | some c => some c
      | none => condAt n b
  | .seq a b => match condAt n a with
    | some c => some c
    | none => condAt n b
  | .block _ c => condAt n c
  | .loop c => condAt n c
  | .scope c => condAt n c
  | _ => none
def regAt (n : Nat) : Code → Option Code
  | .region m os d => match Nat.beq m n with
    | true => some (.region m os d)
    | false => none
  | .cond _ a b => match regAt n a with
    | some c => some c
    | none => regAt n b
  | .seq a b => match regAt n a with
    | some c => some c
    | none => regAt n b
  | .block _ c => regAt n c
  | .loop c => regAt n c
  | .scope c => regAt n c
  | _ => none
noncomputable def stC81 : Code := (Tryz.f5.body.bind (condAt 81)).getD .skip
noncomputable def stR7 : Code := (Tryz.f5.body.bind (regAt 7)).getD .skip
noncomputable def stR31 : Code := (Tryz.f5.body.bind (regAt 31)).getD .skip
def nthV : List Value → Nat → Value
  | [], _ => .tuple #[]
  | v :: _, 0 => v
  | _ :: l, n + 1 => nthV l n
theorem meet_f {J : Act → World → Prop} {X : (Nat → Value) → World → Prop} {fr : (Nat → Value) → Act} (hJ : ∀ a' w', (∃ f, X f w' ∧ a' = fr f) → J a' w') {l : List Value} {w : World} (h : X (nthV l) w) (e : (⟨l.toArray, []⟩ : Act) = fr (nthV l)) : Met J ⟨l.toArray, []⟩ w := hJ _ _ ⟨_, h, e⟩
theorem stays_a2 {w wc : World} {k0 k1 k2 k3 k4 home : Int} {i gx bt cb gt : Nat} {L : List Fl} {c : ChD} {vl vt : Value} {x : Call23} {ab al ao : Option Addr} {nb nl no : Nat} (hact : x.act = 2) (hi40 : i ≤ 40) (harg : ArgBy w (.slice ab x.body.length nb) x.body ∧ ArgBks w (.slice al x.l.length nl) x.l ∧ ArgIs w (.slice ao x.out.length no) x.out ∧ Wf23 x) (hsti : StInv ⟨k0, k1, k2, k3, k4⟩ home i L c) (hq : ¬ 1400 < x.body.length ∧ ¬ 12 < x.l.length ∧ ¬ 20 < x.out.length) (hh : 0 ≤ home ∧ home ≤ 65535) (h4 : In [] w wc (Cells gx (c23V x ab nb al nl ao no).toArray 65 :: FA bt 8 1000 L :: ChL cb c vl vt (Cells gt #[.int .u32 k0, .int .u32 k1, .int .i64 k2, .int .i64 k3, .int .i64 k4] 24 :: [])))
    {z0 z1 z3 z4 z7 z8 z10 z12 z13 z14 z15 z16 z17 z18 z19 z20 z21 z22 z23 z24 z25 z26 z27 z28 z29 z30 z31 z32 z33 z34 z35 z36 z37 z38 z39 z40 z41 z42 z43 z44 z45 z46 z47 z48 z49 z50 z51 z52 z53 z54 z55 z56 z57 z58 z59 z60 z61 z62 z63 z64 z65 z66 z67 z68 z69 z70 z71 z72 z73 z74 z75 z76 z77 z78 z79 z80 z82 z83 z84 z85 z86 z87 z88 z89 z90 z91 z92 z93 z94 z95 z96 z97 z98 z99 z100 z101 z102 z103 z104 z105 z106 z107 z108 z109 z110 z111 z112 z113 z114 z115 z116 z117 z118 z119 z120 z121 z122 z123 z124 z125 z126 z127 z128 z129 z130 z131 z132 z133 z134 z135 z136 z137 z138 z139 z140 z141 z142 z143 z144 z145 z146 z147 z148 z149 z150 z151 z152 z153 z154 z155 z156 z157 z158 z159 z160 z161 z162 z163 z164 z165 z166 z167 z168 z169 z170 z171 z172 z173 z174 z175 z176 z177 z178 z179 z180 z181 z182 z183 z184 z185 : Value} {K : Act → World → Prop} {Q' : Exit → Act → World → Prop} (hret : ∀ a' w', bodyPost Tryz.prog Tryz.f5 (TruePost w) .ret a' w' → Q' .ret a' w')
    (hK : ∀ (f : Nat → Value) (wz : World), StMid ⟨k0, k1, k2, k3, k4⟩ home (i + 1) bt cb gt w wz → K ⟨#[z0, z1, .pointer (some ⟨gt, 0, none⟩), z3, f 4, .pointer (some ⟨bt, 0, none⟩), pC cb, z7, z8, .int .i64 home, z10, .pointer (some ⟨gx, 0, none⟩), f 12, f 13, f 14, f 15, f 16, f 17, f 18, f 19, f 20, z21, z22, z23, z24, z25, z26, z27, z28, z29, z30, z31, z32, z33, z34, z35, z36, z37, z38, z39, z40, z41, z42, z43, z44, z45, z46, z47, z48, f 49, f 50, f 51, f 52, f 53, f 54, f 55, f 56, f 57, f 58, f 59, f 60, f 61, f 62, f 63, f 64, f 65, f 66, f 67, f 68, f 69, f 70, f 71, f 72, f 73, f 74, f 75, f 76, f 77, f 78, f 79, f 80, f 81, f 82, f 83, f 84, f 85, f 86, f 87, f 88, f 89, f 90, f 91, f 92, f 93, f 94, f 95, f 96, f 97, f 98, f 99, f 100, f 101, f 102, f 103, f 104, f 105, f 106, f 107, f 108, f 109, f 110, f 111, f 112, f 113, f 114, f 115, f 116, f 117, f 118, f 119, f 120, f 121, f 122, f 123, f 124, f 125, f 126, f 127, f 128, f 129, f 130, f 131, f 132, f 133, f 134, f 135, f 136, f 137, f 138, f 139, f 140, f 141, f 142, f 143, f 144, f 145, f 146, f 147, f 148, f 149, f 150, f 151, f 152, f 153, f 154, f 155, f 156, f 157, f 158, f 159, f 160, f 161, f 162, f 163, f 164, f 165, f 166, f 167, f 168, f 169, f 170, f 171, f 172, f 173, f 174, f 175, f 176, f 177, f 178, f 179, f 180, f 181, f 182, f 183, f 184, z185], []⟩ wz) :
    Code.wp Tryz.prog stC81 (Exit.then K Q') ⟨#[z0, z1, .pointer (some ⟨gt, 0, none⟩), z3, z4, .pointer (some ⟨bt, 0, none⟩), pC cb, z7, z8, .int .i64 home, z10, .pointer (some ⟨gx, 0, none⟩), z12, z13, z14, z15, z16, z17, z18, z19, z20, z21, z22, z23, z24, z25, z26, z27, z28, z29, z30, z31, z32, z33, z34, z35, z36, z37, z38, z39, z40, z41, z42, z43, z44, z45, z46, z47, z48, z49, z50, z51, z52, z53, z54, z55, z56, z57, z58, z59, z60, z61, z62, z63, z64, z65, z66, z67, z68, z69, z70, z71, z72, z73, z74, z75, z76, z77, z78, z79, z80, .bool (x.act == 2), z82, z83, z84, z85, z86, z87, z88, z89, z90, z91, z92, z93, z94, z95, z96, z97, z98, z99, z100, z101, z102, z103, z104, z105, z106, z107, z108, z109, z110, z111, z112, z113, z114, z115, z116, z117, z118, z119, z120, z121, z122, z123, z124, z125, z126, z127, z128, z129, z130, z131, z132, z133, z134, z135, z136, z137, z138, z139, z140, z141, z142, z143, z144, z145, z146, z147, z148, z149, z150, z151, z152, z153, z154, z155, z156, z157, z158, z159, z160, z161, z162, z163, z164, z165, z166, z167, z168, z169, z170, z171, z172, z173, z174, z175, z176, z177, z178, z179, z180, z181, z182, z183, z184, z185], []⟩ wc := by
  refine wp_cut (fun a' w' => ∃ f : Nat → Value, (StMid ⟨k0, k1, k2, k3, k4⟩ home (i + 1) bt cb gt w w') ∧ a' = (⟨#[z0, z1, .pointer (some ⟨gt, 0, none⟩), z3, f 4, .pointer (some ⟨bt, 0, none⟩), pC cb, z7, z8, .int .i64 home, z10, .pointer (some ⟨gx, 0, none⟩), f 12, f 13, f 14, f 15, f 16, f 17, f 18, f 19, f 20, z21, z22, z23, z24, z25, z26, z27, z28, z29, z30, z31, z32, z33, z34, z35, z36, z37, z38, z39, z40, z41, z42, z43, z44, z45, z46, z47, z48, f 49, f 50, f 51, f 52, f 53, f 54, f 55, f 56, f 57, f 58, f 59, f 60, f 61, f 62, f 63, f 64, f 65, f 66, f 67, f 68, f 69, f 70, f 71, f 72, f 73, f 74, f 75, f 76, f 77, f 78, f 79, f 80, f 81, f 82, f 83, f 84, f 85, f 86, f 87, f 88, f 89, f 90, f 91, f 92, f 93, f 94, f 95, f 96, f 97, f 98, f 99, f 100, f 101, f 102, f 103, f 104, f 105, f 106, f 107, f 108, f 109, f 110, f 111, f 112, f 113, f 114, f 115, f 116, f 117, f 118, f 119, f 120, f 121, f 122, f 123, f 124, f 125, f 126, f 127, f 128, f 129, f 130, f 131, f 132, f 133, f 134, f 135, f 136, f 137, f 138, f 139, f 140, f 141, f 142, f 143, f 144, f 145, f 146, f 147, f 148, f 149, f 150, f 151, f 152, f 153, f 154, f 155, f 156, f 157, f 158, f 159, f 160, f 161, f 162, f 163, f 164, f 165, f 166, f 167, f 168, f 169, f 170, f 171, f 172, f 173, f 174, f 175, f 176, f 177, f 178, f 179, f 180, f 181, f 182, f 183, f 184, z185], []⟩ : Act)) (fun a' w' hc => ?_) ?_
  · obtain ⟨f, hc, rfl⟩ := hc
    exact hK f w' hc
  intro J K' hJ hM
  clear hK
  have HARG := Lib.hid harg
  have HSTI := Lib.hid hsti
  have HQ := Lib.hid hq
  have HH := Lib.hid hh
  have H4 := Lib.hid h4
  have HI := Lib.hid hi40
  clear harg hsti hq hh h4 hi40
  have d0 : wc.cell? ⟨gx, 0, none⟩ = some (.int .i64 x.act) := cell_of (H4.out.block 0 rfl) rfl
  have d8 : wc.cell? ⟨gx, 8, none⟩ = some (.slice ab x.body.length nb) := cell_of (H4.out.block 0 rfl) rfl
  have d10 : wc.cell? ⟨gx, 10, none⟩ = some (.slice al x.l.length nl) := cell_of (H4.out.block 0 rfl) rfl
  have d11 : wc.cell? ⟨gx, 11, none⟩ = some (.slice ao x.out.length no) := cell_of (H4.out.block 0 rfl) rfl
  have HSRC : Hid (Src wc al x.l.length 3 (bkV x.l)) := Lib.hid (by
    obtain ⟨a', c', e, h1, h2, h3, h4⟩ := HARG.out.2.1.ex
    rw [Value.slice.injEq] at e
    obtain ⟨rfl, -, rfl⟩ := e
    exact h1.old H4.out)
  have HINT : Hid (∀ (R' : List Asrt) W, In [] w W R' → Src W ao x.out.length 1 (intV x.out)) := Lib.hid (fun R' W hW => by
    obtain ⟨a', c', e, h1, h2, h3, h4⟩ := HARG.out.2.2.1.ex
    rw [Value.slice.injEq] at e
    obtain ⟨rfl, -, rfl⟩ := e
    exact h1.old hW)
  have HOK := Lib.hid (And.intro HSTI.out.ok (And.intro HSTI.out.s HSTI.out.md))
  have ha2' : (x.act == 2) = true := by rw [hact]; rfl
  rw [ha2']
  conv => arg 2; whnf
  have H0 := Lib.hid (H4.out.rownil 33 3)
  have HL12 : Hid (x.l.length ≤ 12 ∧ 0 + x.l.length ≤ 1000000000 ∧ x.l.length + 1 ≤ 1000000000 ∧ (x.l ++ [(⟨home, 77, 1⟩ : Bk)]).length ≤ 1000000 ∧ x.out.length ≤ 1000000000) := Lib.hid (by have := HQ.out; rw [List.length_append]; refine ⟨by omega, by omega, by omega, ?_, by omega⟩; show x.l.length + 1 ≤ _; omega)
  have HSET := Lib.hid (HSTI.out.set (by have := HI.out; omega) x.l HL12.out.1 (fun b hb => by have := HARG.out.2.1.wf b hb; exact ⟨this.a0, this.a1⟩) (fun n => x.out.contains n))
  have hls : (sortBk (x.l ++ [⟨home, 77, 1⟩])).length ≤ 16 := sortN_len _ 16
  obtain ⟨set, hset⟩ : ∃ set, set = sortBk (x.l ++ [⟨home, 77, 1⟩]) := ⟨_, rfl⟩
  rw [← hset] at HSET hls
  obtain ⟨ll, hll⟩ : ∃ ll, ll = x.l ++ [(⟨home, 77, 1⟩ : Bk)] := ⟨_, rfl⟩
  rw [← hll] at hset
  have HSE := Lib.hid (And.intro hset hls)
  have HLL : Hid (bkV x.l ++ #[.int .i64 home, .int .u32 77, .int .i64 1].toList = bkV ll ∧ x.l.length + 1 = ll.length ∧ ll.length ≤ 1000000) := Lib.hid (by rw [hll]; exact ⟨by rw [bkV_snoc], by simp, HL12.out.2.2.2.1⟩)
  clear hset hls hll hact
  go_wp2_with (at_builtin; refine app_list rfl H0.out 0 rfl (.const (.slice none 0 0)) (.tmp 83) 34 (by rfl) Tryz.underlying34 infoBk (by decide) (by decide) (by rfl) (by rfl) HSRC.out (bkV_one _) HL12.out.2.1 ?_)
  intro v1 w5 ho hg
  have H5 : Hid (In [] w (w5.alloc (.cells #[.int .i64 home, .int .u32 77, .int .i64 1] 33)) (Cells w5.heap.size #[.int .i64 home, .int .u32 77, .int .i64 1] 33 :: RowA 33 3 v1 x.l.length (bkV x.l) :: Cells gx (c23V x ab nb al nl ao no).toArray 65 :: FA bt 8 1000 L :: ChL cb c vl vt (Cells gt #[.int .u32 k0, .int .u32 k1, .int .i64 k2, .int .i64 k3, .int .i64 k4] 24 :: []))) := Lib.hid ((show In [] w w5 (RowA 33 3 v1 x.l.length (bkV x.l) :: Cells gx (c23V x ab nb al nl ao no).toArray 65 :: FA bt 8 1000 L :: ChL cb c vl vt (Cells gt #[.int .u32 k0, .int .u32 k1, .int .i64 k2, .int .i64 k3, .int .i64 k4] 24 :: [])) from ho).cells _ _)
  clear ho hg d0 d8 d10 d11
  go_wp2_with (at_builtin; refine app_list rfl H5.out 1 rfl (.tmp 84) (.tmp 87) 34 (by rfl) Tryz.underlying34 infoBk (by decide) (by decide) (by rfl) (by rfl) (Src.of_block (H5.out.block 0 rfl) rfl) (fun u hu => by simp at hu; rcases hu with rfl | rfl | rfl <;> rfl) HL12.out.2.2.1 ?_)
  intro v2 w6 ho hg
  generalize w5.heap.size = g6 at *
  have H6 : Hid (In [] w w6 (BkR v2 ll :: Cells gx (c23V x ab nb al nl ao no).toArray 65 :: FA bt 8 1000 L :: ChL cb c vl vt (Cells gt #[.int .u32 k0, .int .u32 k1, .int .i64 k2, .int .i64 k3, .int .i64 k4] 24 :: []))) := Lib.hid (by
    have h := (show In [] w w6 (Cells g6 #[.int .i64 home, .int .u32 77, .int .i64 1] 33 :: RowA 33 3 v2 (x.l.length + 1) (bkV x.l ++ #[.int .i64 home, .int .u32 77, .int .i64 1].toList) :: Cells gx (c23V x ab nb al nl ao no).toArray 65 :: FA bt 8 1000 L :: ChL cb c vl vt (Cells gt #[.int .u32 k0, .int .u32 k1, .int .i64 k2, .int .i64 k3, .int .i64 k4] 24 :: [])) from ho).drop
    rw [HLL.out.1, HLL.out.2.1] at h
    exact h)
  obtain ⟨F2, r2⟩ := H6.out.get 0 rfl
  obtain ⟨sa, sn, rfl, -, -, -⟩ := RowA.shape r2
  have K6 := Lib.hid (o_sortbk (c := sn) (bks_row (n := ll.length) (c := sn) rfl 0 rfl) HLL.out.2.2 H6.out)
  clear ho hg H5 H0 r2 HSRC
  go_wp2_with fail
  rw [← HSE.out.1] at K6
  refine K6.out.mono ?_
  rintro e w7 ⟨vs, rfl, ho⟩
  obtain ⟨F2, r2⟩ := ho.get 0 rfl
  obtain ⟨ta, tn, rfl, -, -, -⟩ := RowA.shape r2
  have HTN : Hid (ta = none → tn = 0) := Lib.hid (fun e => RowA.noc r2 e)
  have d11 : w7.cell? ⟨gx, 11, none⟩ = some (.slice ao x.out.length no) := cell_of (ho.block 2 rfl) rfl
  have K7 := Lib.hid (o_gone ao x.out.length no ho)
  clear K6 H6 r2 ho
  go_wp2_with fail
  refine K7.out.mono ?_
  rintro e w8 ⟨gg, rfl, ho⟩
  have H8 : In [] w w8 (ChL cb c vl vt (Cells gg #[.slice ao x.out.length no] 63 :: BkR (.slice ta set.length tn) set :: FA bt 8 1000 L :: Cells gt #[.int .u32 k0, .int .u32 k1, .int .i64 k2, .int .i64 k3, .int .i64 k4] 24 :: [])) := ho.sel2 (R1 := [_, _, _, _, _, _, _, _, _]) [5, 6, 7, 0, 1, 4, 8] (by decide) rfl
  have K8 := Lib.hid (o_chsetF (fv := .func (.func 48) #[] #[.pointer (some ⟨gg, 0, none⟩)]) (q := fun n => x.out.contains n) (outF_of (HINT.out _) HL12.out.2.2.2.2) (n := tn) (by rw [HOK.out.2.1]; exact may13) (by rw [HOK.out.2.1]; exact cov13) (by have := HOK.out.2.2; have := HI.out; omega) (bks_row (n := set.length) (c := tn) rfl 1 rfl) HTN.out (by have := HSE.out.2; omega) H8)
  clear K7 ho H8
  generalize (setCh c set (fun n => x.out.contains n)) = sc at *
  obtain ⟨c9, er⟩ := sc
  go_wp2_with fail
  refine K8.out.mono ?_
  rintro e w9 ⟨vl9, vt9, rfl, ho⟩
  have K9 := o_chfind home HSET.out.ok.l ho
  obtain ⟨b9, hb9⟩ := HSET.out.fi
  rw [hb9] at K9
  have K9H := Lib.hid K9
  clear K8 ho K9 hb9
  go_wp2_with fail
  refine K9H.out.mono ?_
  rintro e wA ⟨rfl, ho⟩
  have HF : Hid (∀ o, In [] w (wA.alloc o) (FA bt 8 1000 L :: ChL cb c9 vl9 vt9 (Cells gt #[.int .u32 k0, .int .u32 k1, .int .i64 k2, .int .i64 k3, .int .i64 k4] 24 :: []))) := Lib.hid (fun o => (ho.alloc o).sel2 (R1 := [_, _, _, _, _, _, _]) [5, 0, 1, 2, 6] (by decide) rfl)
  obtain ⟨y0, y1, y2⟩ := b9
  clear K9H ho
  go_wp2_with fail
  refine meet_f hJ ?_ (by kernel_rfl)
  exact ⟨L, c9, vl9, vt9, HSET.out, HF.out _⟩
end Go.Proofs.YtgapbecddgfkmaaGreat
