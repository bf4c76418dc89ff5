/- The queue: all that are due, which are gone then. -/
import Derived.Test.YtcakgponofbhkaaDueDrop
namespace Go.Proofs.Ytcakgponofbhkaa
open Go.RowKit
open Go.Maps (Keyed)
set_option linter.unusedVariables false
set_option maxRecDepth 100000

theorem infoStr : (Try.prog.info? 9).map (fun i => (i.zero, i.size, i.bytes)) = some (some (.string ByteArray.empty), 1, 16) := by kernel_rfl

/-- The value v is a row of the texts l, in a block of its own. -/
def Strs (w : World) (v : Value) (l : List ByteArray) : Prop := w.ownsRow 0 9 1 v l.length (l.map Value.string)
theorem Strs.keep {w w' : World} {v : Value} {l : List ByteArray} (h : Strs w v l) (hb : ∀ b, v.ownBlock = some b → w'.heap[b]? = w.heap[b]?) : Strs w' v l := by
  obtain ⟨h1, h2⟩ := h
  refine ⟨h1, ?_⟩
  rcases h2 with h2 | ⟨g, cap, cur, rfl, h3, h4, h5⟩
  · exact Or.inl h2
  · exact Or.inr ⟨g, cap, cur, rfl, h3, by rw [hb g rfl]; exact h4, h5⟩
theorem Strs.lt {w : World} {v : Value} {l : List ByteArray} (h : Strs w v l) : ∀ b, v.ownBlock = some b → b < w.heap.size := by
  obtain ⟨h1, h2⟩ := h
  rcases h2 with ⟨rfl, _⟩ | ⟨g, cap, cur, rfl, h3, h4, h5⟩
  · intro b hb; cases hb
  · intro b hb; cases hb; exact hp_lt h4
theorem Strs.nil (w : World) : Strs w (.slice none 0 0) [] := ⟨rfl, Or.inl ⟨rfl, rfl⟩⟩

/-- Behind 'Due': the keys, in new memory; the row that is left. -/
structure DuePost (bq : Nat) (S : List KT) (now : Int) (F : List Nat) (w : World) (e : Ending) (w' : World) : Prop where
  ret : ∃ v, e = .returned v ∧ Strs w' v (dueK S now) ∧ (∀ b, v.ownBlock = some b → w.heap.size ≤ b) ∧ ∃ F', IsQ w' bq (dueR S now) F' ∧ Grew F F' w ∧ ∀ b, v.ownBlock = some b → b ∉ F'
  mod : Mod F w w'

def DueRel (bq : Nat) (S : List KT) (now : Int) (F : List Nat) (w : World) (v : Value) (wr : World) : Prop :=
  ∃ S1 S2 F2, S = S1 ++ S2 ∧ (∀ x ∈ S1, x.2 ≤ now) ∧ Strs wr v (S1.map (·.1)) ∧ (∀ b, v.ownBlock = some b → w.heap.size ≤ b) ∧ IsQ wr bq S2 F2 ∧ Grew F F2 w ∧ (∀ b, v.ownBlock = some b → b ∉ F2) ∧ Mod F w wr

theorem due_split {S1 S2 : List KT} {now : Int} (h1 : ∀ x ∈ S1, x.2 ≤ now) (h2 : ∀ x, S2.head? = some x → now < x.2) : dueK (S1 ++ S2) now = S1.map (·.1) ∧ dueR (S1 ++ S2) now = S2 := by
  unfold dueK dueR
  induction S1 with
  | nil =>
    cases S2 with
    | nil => simp
    | cons x r =>
      have := h2 x rfl
      rw [List.nil_append, List.takeWhile_cons, List.dropWhile_cons]
      simp; omega
  | cons y r ih =>
    have hy := h1 y (by simp)
    have := ih (fun x hx => h1 x (List.mem_cons_of_mem _ hx))
    rw [List.cons_append, List.takeWhile_cons, List.dropWhile_cons]
    simp [hy, this]

/-- The measure of the loop: how many keys the queue has. -/
def qLeft (bq : Nat) (w : World) : Nat := match w.cell? ⟨bq, 0, none⟩ with | some (.slice _ n _) => n | _ => 0
theorem IsQ.left {w : World} {bq : Nat} {S : List KT} {F : List Nat} (h : IsQ w bq S F) : qLeft bq w = S.length := by
  obtain ⟨v, bm, L, h⟩ := h
  obtain ⟨a, cap, rfl⟩ := h.val
  unfold qLeft
  rw [cell_of (o := 0) (v := .slice a L.length cap) h.q rfl, h.len]

/-- The first item's cells. -/
theorem IsQ.first {w : World} {bq : Nat} {x : KT} {S : List KT} {F : List Nat} (h : IsQ w bq (x :: S) F) :
    ∃ ba n cap bi, w.cell? ⟨bq, 0, none⟩ = some (.slice (some ⟨ba, 0, none⟩) (n + 1) cap) ∧ w.cell? ⟨ba, 0, none⟩ = some (.pointer (some ⟨bi, 0, none⟩)) ∧ w.cell? ⟨bi, 0, none⟩ = some (.string x.1) ∧ w.cell? ⟨bi, 1, none⟩ = some (.int .i64 x.2) ∧ x.1.size ≤ maxLen ∧ n ≤ 1024 := by
  obtain ⟨v, bm, L, h⟩ := h
  have hlen := h.len
  have hroot := root_head h.heap h.row h.perm
  rcases h.st with ⟨_, rfl⟩ | ⟨ba, cap, rfl, hs⟩
  · simp at hlen
  · have hl0 : 0 < L.length := by simp at hlen; omega
    refine ⟨ba, L.length - 1, cap, (ith L 0).blk, ?_, hs.ptr hl0, ?_, ?_, ?_, ?_⟩
    · have : L.length - 1 + 1 = L.length := by omega
      rw [this]; exact hs.cell
    · have := hs.key hl0; rwa [show (ith L 0).key = x.1 from congrArg Prod.fst hroot] at this
    · have := hs.tm hl0; rwa [show (ith L 0).tm = x.2 from congrArg Prod.snd hroot] at this
    · have := h.small _ (ith_mem hl0); rwa [show (ith L 0).key = x.1 from congrArg Prod.fst hroot] at this
    · have := h.most; omega

theorem qdue_nil (now : Int) (w : World) : Calls Try.prog 54 #[.pointer none, .int .i64 now] w fun e w' => e = .returned (.slice none 0 0) ∧ w = w' := by
  go_enter Try.func54, Try.ntmps54
  go_wp2_with fail
  refine wp_loop_rounds 1 ?_
  rw [rounds_succ]
  go_wp2_with fail
  refine (qlen_nil _).mono ?_
  rintro e w1 ⟨rfl, rfl⟩
  go_wp2_with fail
  go_ret
  exact ⟨rfl, rfl⟩

set_option maxRecDepth 100000 in
set_option maxHeartbeats 2000000 in
theorem qdue {w : World} {bq : Nat} {S : List KT} {F : List Nat} (h : IsQ w bq S F) (now : Int) : Calls Try.prog 54 #[.pointer (some ⟨bq, 0, none⟩), .int .i64 now] w (DuePost bq S now F w) := by
  obtain ⟨i0, hinf, hz0, hz1, hz2⟩ := info_parts infoStr
  have hinf1 := Lib.hid hinf
  have hz01 := Lib.hid hz0
  have hz11 := Lib.hid hz1
  have hz21 := Lib.hid hz2
  clear hinf hz0 hz1 hz2
  have HS0 : Hid (DueRel bq S now F w (.slice none 0 0) w) := Lib.hid ⟨[], S, F, rfl, by simp, Strs.nil w, fun b hb => by simp [Value.ownBlock] at hb, h, Grew.refl _ _, fun b hb => by simp [Value.ownBlock] at hb, Mod.refl _ _⟩
  have H1024 := Lib.hid h.len
  clear h
  go_enter Try.func54, Try.ntmps54
  go_wp2_with fail
  go_loopw [5] (DueRel bq S now F w) (fun _ wr => qLeft bq wr)
  case atStart => exact HS0.out
  case round =>
    obtain ⟨S1, S2, F2, hS, h1, hv, hvn, hq, hg, hvF, hm⟩ := hrel
    clear HS0
    have cl := qlen hq
    cases S2 with
    | nil =>
      have E : DuePost bq S now F w (.returned u5) wr := by
        have := due_split (S2 := []) h1 (by simp)
        rw [← hS] at this
        exact ⟨⟨_, rfl, by rw [this.1]; exact hv, hvn, F2, by rw [this.2]; exact hq, hg, hvF⟩, hm⟩
      have HE := Lib.hid E
      clear E hS h1 hv hvn hq hg hvF hm
      go_wp2_with fail
      refine cl.mono ?_
      rintro e w1 ⟨rfl, rfl⟩
      go_wp2_with fail
      go_ret
      exact HE.out
    | cons x S2 =>
      obtain ⟨ba, n, cap, bi, c0, c1, c2, c3, hx, hn⟩ := hq.first
      have hl1 : (0 : Int) < (S2.length : Int) + 1 := by omega
      by_cases ht : x.2 ≤ now
      · have hqk := hq.keys
        have hS1 : S1.length ≤ 1023 := by
          have := H1024.out
          rw [hS] at this
          simp at this
          omega
        have hdel : delS x.1 (x :: S2) = S2 := head_del hqk
        have hat : (atS (x :: S2) x.1).isSome = true := by rw [(atS_some hqk (k := x.1) (t := x.2)).2 (by simp)]; rfl
        have hlt := hv.lt
        have hFlt := hq.lt
        have hwsz := hm.size
        have E : ∀ v' w1, w1.ownsRow 0 9 1 v' ((S1.map (·.1)).length + 1) ((S1.map (·.1)).map Value.string ++ [.string x.1]) → (wr.alloc (.cells #[.string x.1] 9)).grownBy w1 u5.ownBlock → (v'.ownBlock = u5.ownBlock ∨ v'.ownBlock = some (wr.heap.size + 1)) →
            Calls Try.prog 60 #[.pointer (some ⟨bq, 0, none⟩), .string x.1] w1 fun e w2 => e = .returned (.bool true) ∧ DueRel bq S now F w v' w2 ∧ qLeft bq w2 < qLeft bq wr := by
          intro v' w1 ho hgr ha
          have hsz := hgr.size
          simp at hsz
          have kold : ∀ b, b < wr.heap.size → u5.ownBlock ≠ some b → w1.heap[b]? = wr.heap[b]? := fun b hb hne => by
            rw [hgr.block b (by simp; omega) (fun e => hne e.symm), hp_alloc_old hb]
          have hq1 : IsQ w1 bq (x :: S2) F2 := hq.keep (fun b hb => kold b (hFlt b hb) (fun e => hvF b e hb))
          have hm1 : Mod F w w1 := (hm.alloc _).of_grown hgr (fun k hk => Or.inr (hvn k hk))
          have hvF1 : ∀ b, v'.ownBlock = some b → b ∉ F2 ∧ w.heap.size ≤ b := by
            intro b hb
            rcases ha with ha | ha
            · rw [ha] at hb; exact ⟨hvF b hb, hvn b hb⟩
            · rw [ha] at hb; cases hb; exact ⟨fun hf => by have := hFlt _ hf; omega, by omega⟩
          refine (qdrop hq1 hx).mono fun e w2 hp => ?_
          obtain ⟨F3, g1, g2⟩ := hp.now
          rw [hdel] at g1
          refine ⟨by rw [hp.ret, hat], ⟨S1 ++ [x], S2, F3, by rw [hS]; simp, ?_, ?_, fun b hb => (hvF1 b hb).2, g1, ?_, ?_, ?_⟩, ?_⟩
          · intro y hy
            rcases List.mem_append.1 hy with hy | hy
            · exact h1 y hy
            · simp at hy; subst hy; exact ht
          · have : Strs w1 v' ((S1 ++ [x]).map (·.1)) := by
              have e1 : (List.map (fun y : KT => y.1) (S1 ++ [x])).length = (S1.map (·.1)).length + 1 := by simp
              have e2 : (List.map (fun y : KT => y.1) (S1 ++ [x])).map Value.string = (S1.map (·.1)).map Value.string ++ [.string x.1] := by simp
              unfold Strs
              rw [e1, e2]; exact ho
            exact this.keep (fun b hb => hp.mod.block b (this.lt b hb) (hvF1 b hb).1)
          · intro b hb
            rcases g2 b hb with h | h
            · exact hg b h
            · right; omega
          · intro b hb hf
            rcases g2 b hf with h | h
            · exact (hvF1 b hb).1 h
            · have : b < w1.heap.size := by
                obtain ⟨_, h2⟩ := ho
                rcases h2 with ⟨rfl, _⟩ | ⟨g, cap2, cur, rfl, _, h4, _⟩
                · cases hb
                · cases hb; exact hp_lt h4
              omega
          · exact hm1.trans hp.mod hg
          · rw [g1.left, hq.left]; simp
        have HE := Lib.hid E
        have Hv := Lib.hid hv
        clear E hS h1 hv hvn hq hg hvF hm hqk hdel hat hlt hFlt hwsz
        go_wp2_with fail
        refine cl.mono ?_
        rintro e w1 ⟨rfl, rfl⟩
        go_wp2_with (at_builtin; refine wpList_append_own_at _ rfl (.tmp 32) (.tmp 34) 93 rfl 0 9 i0 (.string ByteArray.empty) 1 16 Try.underlying93 hinf1.out hz01.out hz11.out hz21.out rfl (by decide) _ _ _ rfl (Hv.out.alloc _) ⟨_, 0, none⟩ 1 1 [.string x.1] rfl rfl ?c1 ?c2 ?c3 ?c4 ?c5 ?_)
        case c1 => intro j u hu; cases j with
          | zero => simp at hu; subst hu; exact cell_of hp_alloc_new rfl
          | succ j => simp at hu
        case c2 => intro u hu; simp at hu; subst hu; rfl
        case c3 => simp; unfold maxLen; omega
        case c4 => simp; omega
        case c5 => omega
        intro v' w1 ho hgr _ ha
        have HC := Lib.hid (HE.out v' w1 (by simpa using ho) hgr (by simpa using ha))
        clear ho hgr ha
        go_wp2_with fail
        refine HC.out.mono ?_
        rintro e w2 ⟨rfl, hr, hlt⟩
        have hr := Lib.hid hr
        go_wp2_with fail
        go_roundw
        case rel => exact hr.out
        case measure => exact hlt
      · have E : DuePost bq S now F w (.returned u5) wr := by
          have := due_split (S2 := x :: S2) h1 (by simp; omega)
          rw [← hS] at this
          exact ⟨⟨_, rfl, by rw [this.1]; exact hv, hvn, F2, by rw [this.2]; exact hq, hg, hvF⟩, hm⟩
        have HE := Lib.hid E
        have ht' : now < x.2 := by omega
        clear E hS h1 hv hvn hq hg hvF hm ht
        go_wp2_with fail
        refine cl.mono ?_
        rintro e w1 ⟨rfl, rfl⟩
        go_wp2_with fail
        go_ret
        exact HE.out
end Go.Proofs.Ytcakgponofbhkaa
