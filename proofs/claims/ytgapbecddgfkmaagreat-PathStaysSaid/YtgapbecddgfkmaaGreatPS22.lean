/- Rows.PathStaysSaid -/
import Derived.Test.YtgapbecddgfkmaaGreatPS20
import Derived.Test.YtgapbecddgfkmaaGreatPS18
import Derived.Test.YtgapbecddgfkmaaGreatPS21
import Derived.Test.YtgapbecddgfkmaaGreatPS19
import Derived.Test.YtgapbecddgfkmaaGreatPS8
import Derived.Test.YtgapbecddgfkmaaGreatPS12
namespace Go.Proofs.YtgapbecddgfkmaaGreat
open Go.RowKit
open Go.RowKit Go.ChangeShapes Go.WideShapes Go.Deep
set_option linter.unusedVariables false
set_option maxHeartbeats 64000000
set_option maxRecDepth 100000
structure ChOk (c : ChD) : Prop where
  s : 1 ≤ c.slots ∧ c.slots ≤ 251
  t : c.t.length = c.slots
  l : c.l.length ≤ 1000000
  wf : ∀ x ∈ c.l, 0 ≤ x.addr ∧ x.addr < 4294967296
section
variable {F0 : List Nat} {w0 w : World} {R : List Asrt} {bt cb : Nat} {most idle : Int} {L : List Fl} {c : ChD} {vl vt : Value}
theorem o_config (n : Int) (h : In F0 w0 w R) : Calls Tryz.prog 13 #[.int .i64 n] w fun e w' => e = .returned (.agg (cfC 168364297 13 n 20 1500 200 20000 3)) ∧ In F0 w0 w' R := by
  have G := Lib.hid (h.alloc (.cells (cfC 168364297 13 n 20 1500 200 20000 3) 46))
  clear h
  go_enter Tryz.func13, Tryz.ntmps13
  go_wp2_with fail
  exact bodyPost_ret (results_cell_row Tryz.results13 _ _ w.heap.size 46 _ (0, 0) _ rfl (heap_alloc_new _ _) Tryz.underlying46 rfl (by kernel_rfl)) rfl ⟨rfl, G.out⟩
theorem o_pktown {self sl fl idle0 mtu sg qu ve : Int} (hself : 0 ≤ self ∧ self < 4294967296) (hok : ChOk c) {gen now : Int} {m : List UInt8} (hm : m.length ≤ 100000000) {a : Option Addr} {n : Nat}
    (h : In F0 w0 w (ByR (.slice a m.length n) m :: FA bt most idle L :: ChL cb c vl vt R)) :
    Calls Tryz.prog 12 #[.agg (cfC self sl fl idle0 mtu sg qu ve), .pointer (some ⟨bt, 0, none⟩), pC cb, .int .i64 gen, .int .i64 now, .slice a m.length n] w (PktPost (pktD self mtu most L c gen now m) bt most idle cb c vl vt F0 w0 R) := by
  have h1 : In F0 w0 w (FA bt most idle L :: ChL cb c vl vt (ByR (.slice a m.length n) m :: R)) := h.sel2 (R1 := [_, _, _, _, _]) [1, 2, 3, 4, 0] (by decide) rfl
  have h2 : In F0 w0 w (ByR (.slice a m.length n) m :: R) := h.sel2 (R1 := [_, _, _, _, _]) [0] (by decide) rfl
  refine (o_packet hself hok.s hok.t hok.l hok.wf (ByR.bytes 0 rfl h2) hm h1).mono ?_
  rintro e w' ⟨vp, vr, rfl, ho⟩
  exact ⟨vp, vr, rfl, ho.sel2 (R1 := [_, _, _, _, _, _, _]) [0, 1, 2, 3, 4, 5] (by decide) rfl⟩
theorem bytes_nil : Bytes F0 w0 R none 0 [] := ⟨fun W hW => (by
    obtain ⟨F, r⟩ := (hW.rownil 5 1).get 0 rfl
    exact r.all), fun _ => ⟨rfl, rfl⟩, Or.inl rfl, Nat.le_refl _, Nat.zero_le _⟩
theorem o_chset1 {x : Bk} {g : Nat} (hmd : 0 ≤ c.made ∧ c.made ≤ 1000) (hs : c.slots = 13) (h : In F0 w0 w (Cells g (encBa x) 33 :: ChL cb c vl vt R)) :
    Calls Tryz.prog 11 #[pC cb, .slice (some ⟨g, 0, none⟩) 1 1, .nilFunc] w (SetPost cb (setCh c [x] noneOut) F0 w0 R) := by
  have h0 : In F0 w0 w (ChL cb c vl vt (Cells g (encBa x) 33 :: R)) := h.sel2 (R1 := [_, _, _, _]) [1, 2, 3, 0] (by decide) rfl
  have hsrc : BksAt F0 w0 (Cells g (encBa x) 33 :: R) (some ⟨g, 0, none⟩) [x] := fun W hW => Src.of_block (hW.block 0 rfl) rfl
  refine (o_chset (l := [x]) (n := 1) (by rw [hs]; exact may13) (by rw [hs]; exact cov13) (by omega) hsrc (fun e => by cases e) (by simp) h0).mono ?_
  rintro e w' ⟨vl', vt', rfl, ho⟩
  exact ⟨vl', vt', rfl, ho.sel2 (R1 := [_, _, _, _]) [0, 1, 2] (by decide) rfl⟩
end
def cM1 : ChD := ⟨13, [⟨1, 1, 1⟩], List.replicate 13 1, 1⟩
def cM2 : ChD := ⟨13, [⟨2, 2, 1⟩], List.replicate 13 2, 2⟩
theorem mtuM (k : Tup) (flags : Int) : ¬ min 1500 2000 < 40 + ((innerL k flags []).length : Int) := by
  rw [innerL_length, show min (1500 : Int) 2000 = 1500 from by decide]; split <;> simp
theorem endM (k : Tup) : (decide (k.proto = 6) && decide (u64 0 % 256 &&& 5 ≠ 0)) = false := by
  rw [show u64 0 % 256 &&& 5 = 0 from by decide]; simp
theorem atM (f : Fl) : atF [f] f.t = some f := by unfold atF; simp
theorem mayM_of {k : Tup} (mk : MayT k) {b g t : Int} (h0 : 0 ≤ b) (h1 : b ≤ 65535) (h2 : 0 ≤ g) (h3 : g ≤ 1000000) (h4 : 0 ≤ t) (h5 : t ≤ 1099511627776) : MayF ⟨k, b, g, t⟩ := ⟨mk, h0, h1, h2, h3, h4, h5⟩
section
variable {k : Tup} (wk : WfT k) (mk : MayT k) {gen : Int} (g0 : 0 ≤ gen) (g1 : gen < 1000000)
include wk mk g0 g1
end
theorem at_insdel {L : List Fl} {f : Fl} : atF (insF f (delF f.t L)) f.t = some f := by
  have hn : ∀ y ∈ delF f.t L, y.t ≠ f.t := fun y hy => (delF_mem.1 hy).2
  generalize delF f.t L = M at *
  induction M with
  | nil => simp [insF, atF]
  | cons y r ih =>
    unfold insF
    split
    · unfold atF
      rw [List.find?_cons]
      simp only [hn y (by simp), decide_false]
      exact ih (fun z hz => hn z (List.mem_cons_of_mem _ hz))
    · simp [atF]
theorem at_del_ne {t k : Tup} (h : t ≠ k) : ∀ L : List Fl, atF (delF t L) k = atF L k
  | [] => rfl
  | y :: r => by
    have ih := at_del_ne h r
    unfold atF delF at ih ⊢
    by_cases e : y.t = t
    · rw [List.filter_cons, if_neg (by simp [notT, e]), ih, List.find?_cons]
      have : decide (y.t = k) = false := decide_eq_false (by rw [e]; exact h)
      rw [this]
    · rw [List.filter_cons, if_pos (by simp [notT, e]), List.find?_cons, List.find?_cons, ih]
theorem at_ins_ne {f : Fl} {k : Tup} (h : f.t ≠ k) : ∀ L : List Fl, atF (insF f L) k = atF L k
  | [] => by unfold insF atF; simp [h]
  | y :: r => by
    have ih := at_ins_ne h r
    unfold insF
    split
    · unfold atF at ih ⊢
      rw [List.find?_cons, List.find?_cons, ih]
    · unfold atF
      have : decide (f.t = k) = false := decide_eq_false h
      rw [List.find?_cons, this]
theorem at_touch_ne {t k : Tup} (h : t ≠ k) (L : List Fl) (now : Int) : atF (touchF L t now).1 k = atF L k := by
  unfold touchF
  split
  · rfl
  · rename_i f hf
    split
    · have ht : f.t = t := by have := List.find?_some hf; simpa using this
      show atF (insF _ (delF t L)) k = _
      rw [at_ins_ne (by show f.t ≠ k; rw [ht]; exact h), at_del_ne h]
    · rfl
theorem at_put_ne {f : Fl} {k : Tup} (h : f.t ≠ k) (most : Int) (L : List Fl) : atF (putF most L f).1 k = atF L k := by
  unfold putF
  split
  · rfl
  split
  · rfl
  · show atF (insF _ _) k = _
    rw [at_ins_ne h, at_del_ne h]
theorem keep_ne {most : Int} {L : List Fl} {f : Fl} {k : Tup} (h : f.t ≠ k) (known : Bool) (was : Int) (ends : Bool) : atF (keepD most L f known was ends).2 k = atF L k := by
  unfold keepD
  repeat' split
  · exact at_del_ne h L
  · rfl
  · exact at_touch_ne h L _
  · exact at_put_ne h most L
  · exact at_put_ne h most L
theorem pkt_other {self mtu most gen now : Int} {L : List Fl} {c : ChD} {b : List UInt8} {k : Tup} (h : (withinD b).1 ≠ k) : atF (pktD self mtu most L c gen now b).2 k = atF L k := by
  unfold pktD
  split
  · split
    · rfl
    · split
      · rfl
      · split
        · rfl
        · exact keep_ne h _ _ _
  · rfl
theorem pkt_drop {self mtu most gen now : Int} {L : List Fl} {c : ChD} {b : List UInt8} (h : (pktD self mtu most L c gen now b).1.verdict = 1) :
    (pktD self mtu most L c gen now b).1.reason ≠ 0 ∧ (pktD self mtu most L c gen now b).1.pkt = [] ∧ (pktD self mtu most L c gen now b).1.recs = [] ∧ (pktD self mtu most L c gen now b).2 = L := by
  unfold pktD at h ⊢
  split at h
  · rw [if_pos (by assumption)]
    split at h
    · rename_i hr
      rw [if_pos hr]
      exact ⟨hr, rfl, rfl, rfl⟩
    · rename_i hr
      rw [if_neg hr]
      split at h
      · exact ⟨by show (10 : Int) ≠ 0; decide, rfl, rfl, rfl⟩
      · split at h
        · rename_i hw
          rw [if_pos hw]
          exact ⟨hw, rfl, rfl, rfl⟩
        · exact absurd h (by show ¬ (2 : Int) = 1; decide)
  · exact absurd h (by show ¬ (0 : Int) = 1; decide)
theorem fillM_length (ks : List Nat) (m : Nat) (rs : List MRow) : ∀ n, (fillM ks m rs n).1.length = m
  | 0 => by simp [fillM]
  | n + 1 => by
    rw [fillM_succ]
    have := fillM_length ks m rs n
    unfold stepM nextT
    rw [List.length_set]; exact this
theorem tableM_length (l : List Bk) (m : Nat) : (tableM l m).length = m := by
  unfold tableM
  split
  · exact fillM_length _ _ _ _
  · simp
theorem findBk_id {l : List Bk} {id : Int} {b : Bk} (h : findBk l id = some b) : b.id = id := by
  unfold findBk at h
  have := List.find?_some h
  simpa using this
theorem findBk_in {l : List Bk} {b : Bk} (h : b ∈ l) : ∃ x, findBk l b.id = some x := by
  unfold findBk
  cases e : l.find? (fun x => x.id == b.id) with
  | some x => exact ⟨x, rfl⟩
  | none =>
    have := List.find?_eq_none.1 e b h
    simp at this
structure StInv (k : Tup) (home : Int) (n : Nat) (L : List Fl) (c : ChD) : Prop where
  at' : ∃ f, atF L k = some f ∧ f.bk = home
  fi : ∃ be, findBk c.l home = some be
  ok : ChOk c
  s : c.slots = 13
  md : 0 ≤ c.made ∧ c.made ≤ (n : Int) + 1
theorem StInv.set {k : Tup} {home : Int} {n : Nat} {L : List Fl} {c : ChD} (h : StInv k home n L c) (hn : n ≤ 1000) (l : List Bk) (hl : l.length ≤ 12) (hw : ∀ x ∈ l, 0 ≤ x.addr ∧ x.addr < 4294967296) (q : Int → Bool) :
    StInv k home (n + 1) L (setCh c (sortBk (l ++ [⟨home, 77, 1⟩])) q).1 := by
  have hmem : (⟨home, 77, 1⟩ : Bk) ∈ sortBk (l ++ [⟨home, 77, 1⟩]) := by
    have e : sortBk (l ++ [⟨home, 77, 1⟩]) = insB (sortN (l ++ [⟨home, 77, 1⟩]) l.length) ⟨home, 77, 1⟩ := by
      rw [sortN_all (l := l ++ [(⟨home, 77, 1⟩ : Bk)]) (i := l.length + 1) ⟨by simp, by omega⟩]
      exact sortN_succ (by simp)
    rw [e]; exact insB_in _ _
  have hlen : (sortBk (l ++ [⟨home, 77, 1⟩])).length ≤ 16 := sortN_len _ 16
  have hwf : ∀ x ∈ sortBk (l ++ [⟨home, 77, 1⟩]), 0 ≤ x.addr ∧ x.addr < 4294967296 := fun x hx => by
    rcases List.mem_append.1 (sortN_mem hx) with hx | hx
    · exact hw x hx
    · simp at hx; subst hx; exact ⟨by show (0 : Int) ≤ 77; decide, by show (77 : Int) < 4294967296; decide⟩
  generalize sortBk (l ++ [⟨home, 77, 1⟩]) = set at *
  unfold setCh
  split
  · refine ⟨h.at', findBk_in hmem, ⟨by show 1 ≤ c.slots ∧ c.slots ≤ 251; rw [h.s]; decide, tableM_length _ _, by show set.length ≤ 1000000; omega, hwf⟩, h.s, by show (0 : Int) ≤ c.made + 1; have := h.md; omega, by show c.made + 1 ≤ _; have := h.md; push_cast; omega⟩
  · exact ⟨h.at', h.fi, h.ok, h.s, h.md.1, by show c.made ≤ _; have := h.md; push_cast; omega⟩
theorem StInv.other {k : Tup} {home : Int} {n : Nat} {L : List Fl} {c : ChD} (h : StInv k home n L c) {self mtu most gen now : Int} {b : List UInt8} (hk : (withinD b).1 ≠ k) : StInv k home n (pktD self mtu most L c gen now b).2 c := by
  obtain ⟨f, hf, hb⟩ := h.at'
  exact ⟨⟨f, by rw [pkt_other hk]; exact hf, hb⟩, h.fi, h.ok, h.s, h.md⟩
theorem StInv.more {k : Tup} {home : Int} {n : Nat} {L : List Fl} {c : ChD} (h : StInv k home n L c) : StInv k home (n + 1) L c := ⟨h.at', h.fi, h.ok, h.s, h.md.1, by have := h.md; push_cast; omega⟩
theorem StInv.own {k : Tup} (wk : WfT k) (mk : MayT k) {home : Int} {n : Nat} {L : List Fl} {c : ChD} (h : StInv k home n L c) :
    ∃ pk, (pktD 168364297 1500 8 L c 1 0 (madeD k 9 0 [])).1 = ⟨2, 0, home, pk, []⟩ ∧ StInv k home n (pktD 168364297 1500 8 L c 1 0 (madeD k 9 0 [])).2 c := by
  obtain ⟨f, hf, hb⟩ := h.at'
  obtain ⟨be, hbe⟩ := h.fi
  have hc : choiceD L c k = some be := by unfold choiceD; rw [hf]; dsimp only; rw [hb, hbe]
  obtain ⟨pk, e⟩ := made_goes (self := 168364297) (mtu := 1500) (most := 8) (gen := 1) (now := 0) (L := L) (c := c) wk mk 9 0 [] (by decide) (by decide) hc (by decide) (mtuM k 0)
  have hid := findBk_id hbe
  have ek : keepD 8 L ⟨k, be.id, 1, 0⟩ (atF L k).isSome (wasD L k) (decide (k.proto = 6) && decide (u64 0 % 256 &&& 5 ≠ 0)) = ([], (touchF L k 0).1) := by
    rw [endM, hf]
    unfold keepD
    rw [if_neg (by decide), if_pos ⟨rfl, by unfold wasD; rw [hf]; show f.bk = be.id; rw [hb, hid]⟩]
  rw [ek] at e
  refine ⟨pk, by rw [e, hid], ?_⟩
  rw [e]
  refine ⟨?_, h.fi, h.ok, h.s, h.md⟩
  have ht : f.t = k := by have := List.find?_some hf; simpa using this
  show ∃ f, atF (touchF L k 0).1 k = some f ∧ f.bk = home
  unfold touchF
  rw [hf]
  dsimp only
  split
  · refine ⟨{ f with seen := 0 }, ?_, hb⟩
    have := at_insdel (L := L) (f := { f with seen := 0 })
    simp only [ht] at this ⊢
    exact this
  · exact ⟨f, hf, hb⟩
def firstS : List Bk := [⟨1, 1, 1⟩, ⟨2, 2, 2⟩, ⟨3, 3, 1⟩]
def chS : ChD := ⟨13, firstS, tableM firstS 13, 1⟩
theorem setSt : setCh (newCh 13) firstS noneOut = (chS, 0) := by
  have h : gensMay firstS = true := by decide
  unfold setCh
  rw [if_pos h, withoutL_none]; rfl
theorem chOkS : ChOk chS := ⟨by decide, by show (tableM firstS 13).length = 13; exact tableM_length _ _, by decide, fun x hx => by simp [chS, firstS] at hx; rcases hx with rfl | rfl | rfl <;> decide⟩
theorem slotsS : ∀ i, i < 13 → ∃ be, findBk firstS ((tableM firstS 13).getD i 0) = some be := by
  have h : ∀ i, i < 13 → (findBk firstS ((tableM firstS 13).getD i 0)).isSome = true := by decide +kernel
  exact fun i hi => Option.isSome_iff_exists.1 (h i hi)
theorem firstP {k : Tup} (wk : WfT k) (mk : MayT k) : ∃ (be : Bk) (pk : List UInt8), be ∈ firstS ∧
    pktD 168364297 1500 8 [] chS 1 0 (madeD k 9 0 []) = (⟨2, 0, be.id, pk, [putRec ⟨k, be.id, 1, 0⟩]⟩, [⟨k, be.id, 1, 0⟩]) ∧ StInv k be.id 0 [⟨k, be.id, 1, 0⟩] chS := by
  obtain ⟨be, hbe⟩ := slotsS (hashT k % 13) (Nat.mod_lt _ (by decide))
  have hm : be ∈ firstS := by unfold findBk at hbe; exact List.mem_of_find?_eq_some hbe
  have hc : choiceD [] chS k = some be := by
    show pickCh chS k = _
    unfold pickCh
    rw [if_pos mk]; exact hbe
  obtain ⟨pk, e⟩ := made_goes (self := 168364297) (mtu := 1500) (most := 8) (gen := 1) (now := 0) (L := []) (c := chS) wk mk 9 0 [] (by decide) (by decide) hc (by decide) (mtuM k 0)
  have hb : 0 ≤ be.id ∧ be.id ≤ 65535 := by unfold firstS at hm; simp at hm; rcases hm with rfl | rfl | rfl <;> decide
  have mf : MayF ⟨k, be.id, 1, 0⟩ := mayM_of mk hb.1 hb.2 (by decide) (by decide) (by decide) (by decide)
  have ep : putF 8 [] ⟨k, be.id, 1, 0⟩ = ([⟨k, be.id, 1, 0⟩], true, 0) := by
    unfold putF
    rw [if_neg (fun hn => hn mf), if_neg (by simp)]; rfl
  have ek : keepD 8 [] ⟨k, be.id, 1, 0⟩ (atF [] k).isSome (wasD [] k) (decide (k.proto = 6) && decide (u64 0 % 256 &&& 5 ≠ 0)) = ([putRec ⟨k, be.id, 1, 0⟩], [⟨k, be.id, 1, 0⟩]) := by
    rw [endM, show (atF [] k).isSome = false from rfl]
    unfold keepD
    rw [if_neg (by decide), if_neg (by simp), ep]; rfl
  rw [ek] at e
  have hfb : ∃ b, findBk chS.l be.id = some b := findBk_in hm
  exact ⟨be, pk, hm, e, ⟨⟨⟨k, be.id, 1, 0⟩, atM ⟨k, be.id, 1, 0⟩, rfl⟩, hfb, chOkS, rfl, by decide, by decide⟩⟩
structure Call23 where
  act : Int
  ttl : Int
  flags : Int
  k : Tup
  body : List UInt8
  now : Int
  l : List Bk
  out : List Int
def intV (l : List Int) : List Value := l.map (fun n => .int .i64 n)
structure ArgIs (w : World) (v : Value) (l : List Int) : Prop where
  ex : ∃ a c, v = .slice a l.length c ∧ Src w a l.length 1 (intV l) ∧ l.length ≤ c ∧ c ≤ maxLen ∧ (a = none → c = 0)
structure ArgBy (w : World) (v : Value) (bs : List UInt8) : Prop where
  ex : ∃ a c, v = .slice a bs.length c ∧ Src w a bs.length 1 (u8s bs) ∧ bs.length ≤ c ∧ c ≤ maxLen ∧ (a = none → c = 0) ∧ (a = none ∨ bs = [] ∨ ∃ g o, a = some ⟨g, o, none⟩)
def c23V (c : Call23) (ab : Option Addr) (cb : Nat) (al : Option Addr) (cl : Nat) (ao : Option Addr) (co : Nat) : List Value :=
  [.int .i64 c.act, .int .i64 c.ttl, .int .i64 c.flags, .int .u32 c.k.src, .int .u32 c.k.dst, .int .i64 c.k.proto, .int .i64 c.k.sport, .int .i64 c.k.dport, .slice ab c.body.length cb, .int .i64 c.now, .slice al c.l.length cl, .slice ao c.out.length co]
structure Wf23 (c : Call23) : Prop where
  k : WfT c.k
  now : -9223372036854775808 ≤ c.now ∧ c.now ≤ 9223372036854775807
def C23Is (w : World) (cs : List Value) (c : Call23) : Prop := ∃ ab cb al cl ao co, cs = c23V c ab cb al cl ao co ∧ ArgBy w (.slice ab c.body.length cb) c.body ∧ ArgBks w (.slice al c.l.length cl) c.l ∧ ArgIs w (.slice ao c.out.length co) c.out ∧ Wf23 c
abbrev ArgC23 := ArgSl 12 C23Is
theorem list12 {cs : List Value} (h : cs.length = 12) : ∃ c0 c1 c2 c3 c4 c5 c6 c7 c8 c9 c10 c11, cs = [c0, c1, c2, c3, c4, c5, c6, c7, c8, c9, c10, c11] := by
  match cs, h with
  | [c0, c1, c2, c3, c4, c5, c6, c7, c8, c9, c10, c11], _ => exact ⟨c0, c1, c2, c3, c4, c5, c6, c7, c8, c9, c10, c11, rfl⟩
section
variable {H : Type} {enc : TypeId × Value → H} {w : World} {base : Nat} {spare : Nat → Bool} {held : Bool}
theorem openIs {fuel : Nat} {cs : List Value} {y : DataW H × List MemPlace} (h : DataW.trod enc Tryz.prog w base spare held fuel 63 cs = some y) : ∃ v l, cs = [v] ∧ ArgIs w v l := by
  obtain ⟨v, L, e, hv⟩ := openSl (k := 1) (Q := fun _ cs (n : Int) => cs = [.int .i64 n]) Tryz.underlying63 (by kernel_rfl) (by decide) (fun n cs y hy hl => by
    obtain ⟨m, e, -, -⟩ := DataW.trod_int (k := .i64) (by kernel_rfl) hy
    exact ⟨m, e⟩) h
  obtain ⟨a, c, e1, h1, h2, hn, h3⟩ := hv.ex
  refine ⟨v, L, e, ⟨a, c, e1, ⟨by simp [intV], fun h0 => ?_⟩, h1, h2, hn⟩⟩
  obtain ⟨g, o, cs0, e0, _, _⟩ := h3 0 _ (List.getElem?_eq_getElem h0)
  refine ⟨⟨g, o, none⟩, e0, fun j u hu => ?_⟩
  unfold intV at hu
  rw [List.getElem?_map] at hu
  cases hj : L[j]? with
  | none => rw [hj] at hu; cases hu
  | some x =>
    rw [hj] at hu
    obtain ⟨g', o', cs', e', ec, hc⟩ := h3 _ _ hj
    rw [e0] at e'; cases e'
    subst ec
    have := hc 0 u hu
    rw [add_at]
    rw [Nat.mul_one, Nat.add_zero] at this
    exact this
theorem openBy {fuel : Nat} {cs : List Value} {y : DataW H × List MemPlace} (h : DataW.trod enc Tryz.prog w base spare held fuel 35 cs = some y) : ∃ v l, cs = [v] ∧ ArgBy w v l := by
  obtain ⟨v, L, e, hv⟩ := openSl (k := 1) (Q := fun _ cs (x : UInt8) => cs = [.int .u8 x.toNat]) Tryz.underlying35 (by kernel_rfl) (by decide) (fun n cs y hy hl => by
    obtain ⟨m, e, -, hw⟩ := DataW.trod_int (k := .u8) (by kernel_rfl) hy
    have hb : 0 ≤ m ∧ m < 256 := by
      have hmin : IntKind.u8.min = 0 := rfl
      have hmax : IntKind.u8.max = 255 := rfl
      simp only [Lit.wf, Bool.and_eq_true, decide_eq_true_eq] at hw
      rw [hmin, hmax] at hw
      omega
    refine ⟨UInt8.ofNat m.toNat, ?_⟩
    rw [e, UInt8.toNat_ofNat']
    congr 2
    omega) h
  obtain ⟨a, c, e1, h1, h2, hn, h3⟩ := hv.ex
  refine ⟨v, L, e, ⟨a, c, e1, ⟨by simp [u8s], fun h0 => ?_⟩, h1, h2, hn, ?_⟩⟩
  · obtain ⟨g, o, cs0, e0, _, _⟩ := h3 0 _ (List.getElem?_eq_getElem h0)
    refine ⟨⟨g, o, none⟩, e0, fun j u hu => ?_⟩
    unfold u8s at hu
    rw [List.getElem?_map] at hu
    cases hj : L[j]? with
    | none => rw [hj] at hu; cases hu
    | some x =>
      rw [hj] at hu
      obtain ⟨g', o', cs', e', ec, hc⟩ := h3 _ _ hj
      rw [e0] at e'; cases e'
      subst ec
      have := hc 0 u hu
      rw [add_at]
      rw [Nat.mul_one, Nat.add_zero] at this
      exact this
  · cases L with
    | nil => exact Or.inr (Or.inl rfl)
    | cons x r =>
      obtain ⟨g, o, cs0, e0, _, _⟩ := h3 0 x rfl
      exact Or.inr (Or.inr ⟨g, o, e0⟩)
theorem c23Of {n : Nat} {cs : List Value} {y : DataW H × List MemPlace} (h : DataW.trod enc Tryz.prog w base spare held n 65 cs = some y) (hl : cs.length = 12) : ∃ c, C23Is w cs c := by
  obtain ⟨xs, n', _, _, hlc, hlen, hfl⟩ := DataW.trod_struct Tryz.underlying65 h
  have hxl : xs.length = 8 := by rw [hlen]; rfl
  obtain ⟨z0, t0⟩ := fld hfl (j := 0) rfl rfl rfl (show Tryz.prog.cellsOf 3 = 1 by kernel_rfl) (by omega)
  obtain ⟨z1, t1⟩ := fld hfl (j := 1) rfl rfl rfl (show Tryz.prog.cellsOf 3 = 1 by kernel_rfl) (by omega)
  obtain ⟨z2, t2⟩ := fld hfl (j := 2) rfl rfl rfl (show Tryz.prog.cellsOf 3 = 1 by kernel_rfl) (by omega)
  obtain ⟨z3, t3⟩ := fld hfl (j := 3) rfl rfl rfl (show Tryz.prog.cellsOf 24 = 5 by kernel_rfl) (by omega)
  obtain ⟨z4, t4⟩ := fld hfl (j := 4) rfl rfl rfl (show Tryz.prog.cellsOf 35 = 1 by kernel_rfl) (by omega)
  obtain ⟨z5, t5⟩ := fld hfl (j := 5) rfl rfl rfl (show Tryz.prog.cellsOf 2 = 1 by kernel_rfl) (by omega)
  obtain ⟨z6, t6⟩ := fld hfl (j := 6) rfl rfl rfl (show Tryz.prog.cellsOf 34 = 1 by kernel_rfl) (by omega)
  obtain ⟨z7, t7⟩ := fld hfl (j := 7) rfl rfl rfl (show Tryz.prog.cellsOf 63 = 1 by kernel_rfl) (by omega)
  obtain ⟨a, e0, -, -⟩ := DataW.trod_int (k := .i64) (by kernel_rfl) t0
  obtain ⟨b, e1, -, -⟩ := DataW.trod_int (k := .i64) (by kernel_rfl) t1
  obtain ⟨c, e2, -, -⟩ := DataW.trod_int (k := .i64) (by kernel_rfl) t2
  obtain ⟨ns, n1, n2, n3⟩ := flatTupR w base spare held n' _ _ t3
  obtain ⟨vb, bs, e4, hb⟩ := openBy t4
  obtain ⟨nw, e5, -, hw5⟩ := DataW.trod_int (k := .i64) (by kernel_rfl) t5
  obtain ⟨vl, l, e6, hL⟩ := openBks t6
  obtain ⟨vo, os, e7, hO⟩ := openIs t7
  obtain ⟨c0, c1, c2, c3, c4, c5, c6, c7, c8, c9, c10, c11, rfl⟩ := list12 hl
  obtain ⟨ab, cb, rfl, -, -, -, -, -⟩ := hb.ex
  obtain ⟨al, cl, rfl, -, -, -, -⟩ := hL.ex
  obtain ⟨ao, co, rfl, -, -, -, -⟩ := hO.ex
  obtain ⟨w50, w51⟩ := litR_i64 hw5
  match ns, n1, n2, n3 with
  | [s, d, p, sp, dp], _, e3, hw =>
    change [c0] = _ at e0
    change [c1] = _ at e1
    change [c2] = _ at e2
    change [c3, c4, c5, c6, c7] = _ at e3
    change [c8] = _ at e4
    change [c9] = _ at e5
    change [c10] = _ at e6
    change [c11] = _ at e7
    simp only [encK, List.cons.injEq, and_true] at e0 e1 e2 e3 e4 e5 e6 e7
    obtain ⟨s0, s1⟩ := litR_u32 (hw 0 _ _ rfl rfl)
    obtain ⟨d0, d1⟩ := litR_u32 (hw 1 _ _ rfl rfl)
    obtain ⟨p0, p1⟩ := litR_i64 (hw 2 _ _ rfl rfl)
    obtain ⟨sp0, sp1⟩ := litR_i64 (hw 3 _ _ rfl rfl)
    obtain ⟨dp0, dp1⟩ := litR_i64 (hw 4 _ _ rfl rfl)
    obtain ⟨q1, q2, q3, q4, q5⟩ := e3
    subst e0 e1 e2 e4 e5 e6 e7 q1 q2 q3 q4 q5
    exact ⟨⟨a, b, c, ⟨s, d, p, sp, dp⟩, bs, nw, l, os⟩, ab, cb, al, cl, ao, co, rfl, hb, hL, hO, ⟨⟨s0, s1, d0, d1, p0, by show p ≤ _; omega, sp0, by show sp ≤ _; omega, dp0, by show dp ≤ _; omega⟩, ⟨w50, by show nw ≤ _; omega⟩⟩⟩
theorem openCalls23 {a : Option Addr} {len cap : Nat} {d : DataW H} {p : List MemPlace} (h : DataW.Trod enc Tryz.prog w base spare held 58 (.slice a len cap) d p) : ∃ L, ArgC23 w (.slice a len cap) L := by
  obtain ⟨fuel, hf⟩ := h
  obtain ⟨v, L, e, hL⟩ := openSl (k := 12) (Q := C23Is) Tryz.underlying58 (by kernel_rfl) (by decide) (fun n cs y hy hl => c23Of hy hl) hf
  simp [Value.cells] at e
  subst e
  exact ⟨L, hL⟩
end
section
variable {w0 w : World} {R : List Asrt}
end
section
variable {F0 : List Nat} {w0 w : World} {R : List Asrt}
def OutRel (l : List Int) (n : Int) (F0 : List Nat) (w0 : World) (R : List Asrt) (vj : Value) (wr : World) : Prop := ∃ j : Nat, vj = .int .i64 j ∧ j ≤ l.length ∧ (∀ x ∈ l.take j, x ≠ n) ∧ In F0 w0 wr R
theorem o_gone1 {l : List Int} {A : Option Addr} {c g : Nat} (hs : ∀ W, In F0 w0 W R → Src W A l.length 1 (intV l)) (hl : l.length ≤ 1000000000) (i : Nat) (hA : R[i]? = some (Cells g #[.slice A l.length c] 63)) (n : Int) (h : In F0 w0 w R) :
    Calls Tryz.prog 48 #[.int .i64 n, .pointer (some ⟨g, 0, none⟩)] w fun e w' => e = .returned (.bool (l.contains n)) ∧ In F0 w0 w' R := by
  have c0 : w.cell? ⟨g, 0, none⟩ = some (.slice A l.length c) := cell_of (h.block i hA) rfl
  have HS := Lib.hid hs
  have HR : Hid (OutRel l n F0 w0 R (.int .i64 0) w) := Lib.hid ⟨0, rfl, Nat.zero_le _, by simp, h⟩
  have hln : l.length ≤ 1000000000 := hl
  clear hs hA h hl
  go_enter Tryz.func48, Tryz.ntmps48
  go_wp2_with fail
  go_loopw [8] (OutRel l n F0 w0 R) (fun k _ => l.length - (intOf k).toNat)
  case atStart => exact HR.out
  case round =>
    obtain ⟨j, rfl, hj, hno, ho⟩ := hrel
    clear HR c0
    by_cases hlt : j < l.length
    · obtain ⟨x, hx⟩ : ∃ x, l[j]? = some x := ⟨l[j], List.getElem?_eq_getElem hlt⟩
      obtain ⟨gg, o, rfl, hc⟩ := (HS.out wr ho).plain (by omega) (by decide)
      have cj := hc j (.int .i64 x) (by unfold intV; rw [List.getElem?_map, hx]; rfl)
      have hlt' : (j : Int) < (l.length : Int) := by omega
      have hw2 : wrap64 ((j : Int) + 1) = (j : Int) + 1 := by unfold wrap64; omega
      by_cases hxn : x = n
      · have hq : (x == n) = true := by rw [hxn]; simp
        have G : Hid (l.contains n = true ∧ In F0 w0 wr R) := Lib.hid ⟨by rw [List.contains_iff_mem, ← hxn]; exact List.mem_of_getElem? hx, ho⟩
        clear ho hx hc hno hlt hxn
        go_wp2_with fail
        go_ret
        exact ⟨by rw [G.out.1]; rfl, G.out.2⟩
      · have hq : (x == n) = false := beq_eq_false_iff_ne.2 hxn
        have HN : Hid (OutRel l n F0 w0 R (.int .i64 ((j : Int) + 1)) wr) := Lib.hid ⟨j + 1, by rw [Int.natCast_add]; rfl, hlt, fun y hy => by
          rw [List.take_add_one, hx] at hy
          rcases List.mem_append.1 hy with hy | hy
          · exact hno y hy
          · simp at hy; subst hy; exact hxn, ho⟩
        clear ho hx hc hno hlt hxn
        go_wp2_with fail
        go_roundw
        case rel => (try rw [hw2]); exact HN.out
        case measure => (try rw [hw2]); exact meas_lt hlt'
    · have hge : (l.length : Int) ≤ (j : Int) := by omega
      have G : Hid (l.contains n = false ∧ In F0 w0 wr R) := Lib.hid ⟨by
        rw [List.take_of_length_le (by omega)] at hno
        cases e : l.contains n with
        | false => rfl
        | true => exact absurd rfl (hno n (List.contains_iff_mem.1 e)), ho⟩
      clear ho hno hlt hj
      go_wp2_with fail
      go_ret
      exact ⟨by rw [G.out.1]; rfl, G.out.2⟩
theorem outF_of {l : List Int} {A : Option Addr} {c g : Nat} (hs : ∀ W, In F0 w0 W R → Src W A l.length 1 (intV l)) (hl : l.length ≤ 1000000000) : OutF (.func (.func 48) #[] #[.pointer (some ⟨g, 0, none⟩)]) (fun n => l.contains n) F0 w0 (Cells g #[.slice A l.length c] 63 :: R) :=
  ⟨48, _, rfl, enters_of Tryz.func48 (by kernel_rfl) rfl, fun W n X hW => o_gone1 (fun W' hW' => by
    have e : X ++ Cells g #[.slice A l.length c] 63 :: R = (X ++ [Cells g #[.slice A l.length c] 63]) ++ R := by simp
    rw [e] at hW'
    exact hs W' (In.right' hW')) hl X.length (by simp; rfl) n hW⟩
theorem o_gone (A : Option Addr) (n c : Nat) (h : In F0 w0 w R) :
    Calls Tryz.prog 20 #[.slice A n c] w fun e w' => ∃ g, e = .returned (.func (.func 48) #[] #[.pointer (some ⟨g, 0, none⟩)]) ∧ In F0 w0 w' (Cells g #[.slice A n c] 63 :: R) := by
  have h1 := h.cells #[.slice A n c] 63
  have hmf : ∀ (fn : Fn) (first cap : Array Value) (w : World), (Instr.makeFunc fn first cap).run Tryz.prog w = .ok (.func fn first cap) w := fun _ _ _ _ => rfl
  have G := Lib.hid h1
  clear h h1
  go_enter Tryz.func20, Tryz.ntmps20
  go_wp2_with fail
  go_ret
  exact ⟨_, rfl, G.out⟩
theorem madeD_le (k : Tup) (ttl flags : Int) (body : List UInt8) : (madeD k ttl flags body).length ≤ body.length + 100 := by
  unfold madeD
  rw [List.length_append, buildD_length, innerL_length]
  split <;> omega
def bytesD (c : Call23) : List UInt8 := if c.act = 1 then c.body else madeD c.k c.ttl c.flags c.body
theorem o_l23bytes {c : Call23} {ab al ao : Option Addr} {cb cl co : Nat} (wk : WfT c.k) (hb : ∀ R', Bytes F0 w0 R' ab cb c.body) (hm : c.body.length ≤ 100000) (h : In F0 w0 w R) :
    Calls Tryz.prog 22 #[.agg (c23V c ab cb al cl ao co).toArray] w fun e w' => ∃ A k N, e = .returned (.slice A (bytesD c).length k) ∧ In F0 w0 w' (N :: R) ∧ ∀ R', Bytes F0 w0 (N :: R') A k (bytesD c) := by
  obtain ⟨act, ttl, flags, k, body, now, l, out⟩ := c
  obtain ⟨k0, k1, k2, k3, k4⟩ := k
  simp only at wk hb hm
  have h1 := h.cells #[.int .i64 act, .int .i64 ttl, .int .i64 flags, .int .u32 k0, .int .u32 k1, .int .i64 k2, .int .i64 k3, .int .i64 k4, .slice ab body.length cb, .int .i64 now, .slice al l.length cl, .slice ao out.length co] 65
  have KM := Lib.hid (o_made h1 wk ttl flags (hb _) hm)
  have HB := Lib.hid hb
  have HN := Lib.hid (h1.drop.rownil 5 1)
  have hcv : (c23V ⟨act, ttl, flags, ⟨k0, k1, k2, k3, k4⟩, body, now, l, out⟩ ab cb al cl ao co).toArray = #[.int .i64 act, .int .i64 ttl, .int .i64 flags, .int .u32 k0, .int .u32 k1, .int .i64 k2, .int .i64 k3, .int .i64 k4, .slice ab body.length cb, .int .i64 now, .slice al l.length cl, .slice ao out.length co] := rfl
  rw [hcv]
  clear hcv
  by_cases ha : act = 1
  · have ha' : (act == 1) = true := by rw [ha]; rfl
    have HE : Hid (bytesD ⟨act, ttl, flags, ⟨k0, k1, k2, k3, k4⟩, body, now, l, out⟩ = body) := Lib.hid (if_pos ha)
    clear KM h h1 hb ha wk hm
    go_enter Tryz.func22, Tryz.ntmps22
    go_wp2_with fail
    go_ret
    rw [HE.out]
    exact ⟨ab, cb, _, rfl, HN.out, fun R' => HB.out _⟩
  · have ha' : (act == 1) = false := beq_eq_false_iff_ne.2 ha
    have HE : Hid (bytesD ⟨act, ttl, flags, ⟨k0, k1, k2, k3, k4⟩, body, now, l, out⟩ = madeD ⟨k0, k1, k2, k3, k4⟩ ttl flags body) := Lib.hid (if_neg ha)
    clear h h1 hb ha wk hm HN HB
    go_enter Tryz.func22, Tryz.ntmps22
    go_wp2_with fail
    refine KM.out.mono ?_
    rintro e w1 ⟨v, rfl, ho⟩
    obtain ⟨A, n, rfl⟩ := ByR.shape ho
    have G := Lib.hid (ho.sel2 (R1 := [_, _]) (R2 := R) [0] (by decide) rfl)
    clear ho KM
    go_wp2_with fail
    go_ret
    rw [HE.out]
    exact ⟨A, n, _, rfl, G.out, fun R' => by
      have hb0 := ByR.bytes 0 rfl G.out
      exact ⟨fun W hW => ByR.src hW 0 rfl, hb0.nil, hb0.ad, hb0.cap, hb0.room⟩⟩
theorem bytesD_le (c : Call23) : (bytesD c).length ≤ c.body.length + 100 := by
  unfold bytesD
  split
  · omega
  · exact madeD_le _ _ _ _
theorem ArgBy.bytes {w0 : World} {a : Option Addr} {c : Nat} {bs : List UInt8} (h : ArgBy w0 (.slice a bs.length c) bs) (R : List Asrt) : Bytes [] w0 R a c bs := by
  obtain ⟨a', c', e, h1, h2, h3, h4, h5⟩ := h.ex
  rw [Value.slice.injEq] at e
  obtain ⟨rfl, -, rfl⟩ := e
  exact ⟨fun W hW => h1.old hW, fun e => ⟨h4 e, List.length_eq_zero_iff.1 (by have := h4 e; omega)⟩, h5, h2, h3⟩
end
end Go.Proofs.YtgapbecddgfkmaaGreat
