/- Rows.PathDropsSaid -/
import Derived.Test.YtgapbecddgfkmaaPD1
import Derived.Test.YtgapbecddgfkmaaPN21
import Derived.Deep.DeepCutAuto
namespace Go.Proofs.Ytgapbecddgfkmaa
open Go.RowKit
set_option linter.unusedVariables false
set_option maxHeartbeats 64000000
set_option maxRecDepth 100000
theorem drop_none (k : Tup) (wk : WfT k) (mk : MayT k) : pktD 168364297 1500 8 [] (newCh 13) 1 0 (madeD k 9 0 []) = (⟨1, 10, 0, [], []⟩, []) :=
  made_none wk mk 9 0 [] (by decide) (by decide) (by
    unfold choiceD atF pickCh findBk
    simp [newCh])
theorem made_bytes {n : Nat} (hn : n ≤ 1000000) : ∃ C : Array Value, C.size = n ∧ C.toList = u8s (List.replicate n 0) ∧ ∀ w, (Instr.makeSlice 22 (.int .i64 n) (.int .i64 n)).run Try.prog w = .ok (.slice (some ⟨w.heap.size, 0, none⟩) n n) (w.alloc (.cells C 5)) := by
  obtain ⟨i, hi, hz, hs, hb⟩ := info_parts' (P := Try.prog) (T := 5) (z := .int .u8 0) (k := 1) (by' := 1) (by kernel_rfl)
  have := fun w => run_make w 22 5 i (.int .u8 0) Try.underlying22 hi hz .i64 .i64 (n : Int) (n : Int) (by omega) (by omega) (by rw [hb]; omega) (by omega)
  simp only [hs, Nat.mul_one, Int.toNat_natCast] at this
  refine ⟨_, ?_, ?_, this⟩
  · rw [size_madeCells]
  · apply List.ext_getElem
    · simp [madeCells, u8s]
    · intro j h1 h2
      simp [madeCells, u8s, Value.cells, Nat.mod_one]
theorem choice_one {k : Tup} (mk : MayT k) : choiceD [] c1R k = some ⟨1, 1, 1⟩ := pick_one rfl rfl rfl mk
theorem drop_ttl (k : Tup) (wk : WfT k) (mk : MayT k) : pktD 168364297 1500 8 [] c1R 1 0 (madeD k 1 0 []) = (⟨1, 7, 0, [], []⟩, []) :=
  made_drop wk mk 1 0 [] (by decide) (by decide) (choice_one mk) (r := 7) (by rw [if_pos (by decide)]) (by decide)
theorem drop_mtu (k : Tup) (wk : WfT k) (mk : MayT k) (body : List UInt8) (h1 : 1453 ≤ body.length) (h2 : body.length ≤ 2000) : pktD 168364297 1500 8 [] c1R 1 0 (madeD k 9 0 body) = (⟨1, 11, 0, [], []⟩, []) :=
  made_drop wk mk 9 0 body (by omega) (by decide) (choice_one mk) (r := 11) (by
    rw [if_neg (by decide), if_pos]
    rw [innerL_length]
    split <;> omega) (by decide)
def DrRel (L : List Tup) (bt cb : Nat) (c : ChD) (vl vt : Value) (w : World) (v : Value) (wr : World) : Prop := ∃ i : Nat, v = .int .i64 i ∧ i ≤ L.length ∧ In [] w wr (FA bt 8 100 [] :: ChL cb c vl vt [])
theorem walk_PathDrops (w : World) {a : Option Addr} {len cap : Nat} {L : List Tup} (hL : ArgTp w a len cap L) (y : Int) (hy : (Lit.int .i64 y).wf = true) : Calls Try.prog 5 #[.slice a len cap, .int .i64 y] w (TruePost w) := by
  obtain ⟨q, hq, hq2⟩ := cutN y (m := 400) (by omega) (by omega)
  have HQ := Lib.hid hq
  obtain ⟨sz, hsz, hsz1, hsz2⟩ : ∃ sz : Nat, wrap64 (1453 + (q : Int)) = (sz : Int) ∧ 1453 ≤ sz ∧ sz ≤ 1900 := ⟨1453 + q, by unfold wrap64; omega, by omega, by omega⟩
  have HSZ := Lib.hid hsz
  have HAT : Hid (∀ (i : Nat) (x : Tup), L[i]? = some x → ∃ b o, a = some ⟨b, o, none⟩ ∧ WfT x ∧ ∀ W, In [] w W [] → TpAt W b (o + i * 5) x) := Lib.hid fun i x hx => by
    have hi := (List.getElem?_eq_some_iff.1 hx).1
    have hl := hL.length
    rcases hL.at' with h0 | ⟨b, o, rfl, hb, hc⟩
    · omega
    · exact ⟨b, o, rfl, hL.wf x (List.mem_of_getElem? hx), fun W hW => (hc i x hx).old hW hb⟩
  have hll : L.length ≤ 9223372036854775807 := by have := hL.length; have := hL.room; have := hL.most; unfold maxLen at this; omega
  have hlen : len = L.length := hL.length.symm
  subst hlen
  have h0 := In.start (w := w) (R := []) (F := []) (by simp) rfl
  have K00 := o_fnew h0 8 100
  rw [show clampM 8 = 8 from by decide, show clampI 100 = 100 from by decide] at K00
  have K0 := Lib.hid K00
  have K1 := Lib.hid (fun w' (R' : List Asrt) (h' : In [] w w' R') => o_chnew may13 cov13 h')
  have K2 := Lib.hid (fun w' cb g vl vt (R' : List Asrt) (h' : In [] w w' (Cells g (encBa ⟨1, 1, 1⟩) 43 :: ChL cb (newCh 13) vl vt R')) => o_chset1 (x := ⟨1, 1, 1⟩) (by decide) rfl h')
  have KC := Lib.hid (fun w' (R' : List Asrt) (h' : In [] w w' R') => o_config 8 h')
  have KT := Lib.hid (fun (t : Tup) w' (R' : List Asrt) (h' : In [] w w' R') => o_qmayt t h')
  have KA := Lib.hid (fun w' (R' : List Asrt) (h' : In [] w w' R') => o_awake23 h')
  have HS := Lib.hid set1R
  clear h0 K00 hy hq hL hsz
  go_enter Try.func5, Try.ntmps5
  go_wp2_with fail
  rw [HQ.out, HSZ.out]
  refine K0.out.mono ?_
  rintro e w1 ⟨bt, rfl, ho⟩
  have K1H := Lib.hid (K1.out _ _ ho)
  clear ho K0 K1 HQ HSZ
  go_wp2_with fail
  refine K1H.out.mono ?_
  rintro e w2 ⟨cb, a2, n2, rfl, ho⟩
  have ho2 := ho.sel2 (R1 := [_, _, _, _]) [3, 0, 1, 2] (by decide) rfl
  generalize hvl : Value.slice none 0 0 = vl at ho2
  generalize hvt : Value.slice a2 13 n2 = vt at ho2
  have HR0 : Hid (DrRel L bt cb (newCh 13) vl vt w (.int .i64 0) w2) := Lib.hid ⟨0, rfl, Nat.zero_le _, ho2⟩
  clear ho ho2 K1H hvl hvt
  go_wp2_with fail
  go_loopw [23] (DrRel L bt cb (newCh 13) vl vt w) (fun v _ => L.length - (intOf v).toNat)
  case atStart => exact HR0.out
  case round =>
    obtain ⟨i, rfl, hi, ho⟩ := hrel
    clear HR0
    by_cases hlt : i < L.length
    · obtain ⟨k, hk⟩ : ∃ k, L[i]? = some k := ⟨L[i], List.getElem?_eq_getElem hlt⟩
      obtain ⟨gb, ob, rfl, wk, hat⟩ := HAT.out i k hk
      obtain ⟨c0, c1, c2, c3, c4⟩ := hat wr (ho.sel2 (R1 := [_, _, _, _]) [] (by decide) rfl)
      have hix : (i : Int) < (L.length : Int) := by omega
      have hw2 : wrap64 ((i : Int) + 1) = (i : Int) + 1 := by unfold wrap64; omega
      have HN : Hid (∀ wz, In [] w wz (FA bt 8 100 [] :: ChL cb (newCh 13) vl vt []) → DrRel L bt cb (newCh 13) vl vt w (.int .i64 ((i : Int) + 1)) wz) := Lib.hid fun wz hz => ⟨i + 1, by rw [Int.natCast_add]; rfl, hlt, hz⟩
      by_cases h20 : 20 ≤ i
      · have q20 : (20 : Int) ≤ (i : Int) := by omega
        have HN1 := Lib.hid (HN.out _ (ho.alloc (.cells (encT k) 46)))
        clear HN ho hat h20 hi hlt hk wk
        go_wp2_with fail
        go_roundw
        case rel => (try rw [hw2]); exact HN1.out
        case measure => (try rw [hw2]); exact meas_lt hix
      · have q20 : decide ((20 : Int) ≤ (i : Int)) = false := decide_eq_false (by omega)
        have ho3 := ho.cells (encT k) 46
        have KTH0 := KT.out k _ _ ho3
        by_cases hmk : MayT k
        case neg =>
          rw [decide_eq_false hmk] at KTH0
          have KTH := Lib.hid KTH0
          obtain ⟨k0, k1, k2, k3, k4⟩ := k
          clear KTH0 ho3 ho hat h20 hi hlt hk wk hmk
          go_wp2_with fail
          refine KTH.out.mono ?_
          rintro e w5 ⟨rfl, ho⟩
          have HN1 := Lib.hid (HN.out _ ho.drop)
          clear ho KTH HN
          go_wp2_with fail
          go_roundw
          case rel => (try rw [hw2]); exact HN1.out
          case measure => (try rw [hw2]); exact meas_lt hix
        case pos =>
          rw [decide_eq_true hmk] at KTH0
          have KTH := Lib.hid KTH0
          have hpk := drop_none k wk hmk
          have hml : (madeD k 9 0 []).length ≤ 100000000 := by rw [madeD_len]; split <;> decide
          have KM0 := fun w' (R' : List Asrt) (h' : In [] w w' R') => o_made h' wk 9 0 (A := none) (c := 0) (body := []) bytes_nil (by decide)
          have KP0 := fun w' (R' : List Asrt) v n (h' : In [] w w' (ByR (.slice v (madeD k 9 0 []).length n) (madeD k 9 0 []) :: FA bt 8 100 [] :: ChL cb (newCh 13) vl vt R')) => o_pktown (self := 168364297) (sl := 13) (fl := 8) (idle0 := 20) (mtu := 1500) (sg := 200) (qu := 20000) (ve := 3) (by decide) chOk_new (gen := 1) (now := 0) hml h'
          rw [hpk] at KP0
          generalize madeD k 9 0 [] = m at *
          have KM := Lib.hid KM0
          have KP := Lib.hid KP0
          obtain ⟨k0, k1, k2, k3, k4⟩ := k
          clear KTH0 ho3 ho hat h20 hi hlt hk wk hmk KM0 KP0 hpk hml
          go_wp2_with fail
          refine KTH.out.mono ?_
          rintro e w5 ⟨rfl, ho⟩
          clear KTH c0 c1 c2 c3 c4
          go_upto_region 7 with fail
          generalize wr.heap.size = g3 at *
          have HD1 : In [] w w5.drew (FA bt 8 100 [] :: ChL cb (newCh 13) vl vt (Cells g3 #[.int .u32 k0, .int .u32 k1, .int .i64 k2, .int .i64 k3, .int .i64 k4] 46 :: [])) := (ho.drewN 1).sel2 (R1 := [_, _, _, _, _]) [1, 2, 3, 4, 0] (by decide) rfl
          clear ho
          go_cut [9] (fun x9 wx => ∃ g4 vp vr, x9 = .pointer (some ⟨g4, 0, none⟩) ∧ In [] w wx (Cells g4 (plC 1 10 0 vp vr) 27 :: ByR vp [] :: RecR vr [] :: FA bt 8 100 [] :: ChL cb (newCh 13) vl vt (Cells g3 #[.int .u32 k0, .int .u32 k1, .int .i64 k2, .int .i64 k3, .int .i64 k4] 46 :: [])))
          case first =>
            have HD := Lib.hid HD1
            clear HD1
            refine e_start (fun w' => w'.cell? ⟨g3, 0, none⟩ = some (.int .u32 k0) ∧ w'.cell? ⟨g3, 1, none⟩ = some (.int .u32 k1) ∧ w'.cell? ⟨g3, 2, none⟩ = some (.int .i64 k2) ∧ w'.cell? ⟨g3, 3, none⟩ = some (.int .i64 k3) ∧ w'.cell? ⟨g3, 4, none⟩ = some (.int .i64 k4)) (by kernel_rfl) ⟨cell_of (HD.out.block 4 rfl) rfl, cell_of (HD.out.block 4 rfl) rfl, cell_of (HD.out.block 4 rfl) rfl, cell_of (HD.out.block 4 rfl) rfl, cell_of (HD.out.block 4 rfl) rfl⟩ (fun hS => ?_)
            generalize w5.drew = VD at *
            refine e_take (i := 1) (v := ?_) rfl (by kernel_rfl) (fun _ _ _ h => h) (by rfl) ?_ hS ?_
            rotate_left
            · (intro w hSw; (try dsimp only at hSw); go_simp; try with_reducible rfl)
            try simp only [Act.put, List.setIfInBounds_toArray, List.set_cons_zero, List.set_cons_succ]
            refine e_take (i := 2) (v := ?_) rfl (by kernel_rfl) (fun _ _ _ h => h) (by rfl) ?_ hS ?_
            rotate_left
            · (intro w hSw; (try dsimp only at hSw); go_simp; try with_reducible rfl)
            try simp only [Act.put, List.setIfInBounds_toArray, List.set_cons_zero, List.set_cons_succ]
            refine e_take (i := 3) (v := ?_) rfl (by kernel_rfl) (fun _ _ _ h => h) (by rfl) ?_ hS ?_
            rotate_left
            · (intro w hSw; (try dsimp only at hSw); go_simp; try with_reducible rfl)
            try simp only [Act.put, List.setIfInBounds_toArray, List.set_cons_zero, List.set_cons_succ]
            refine e_two (i := 0) (j := 6) rfl rfl (by kernel_rfl) (fun K' hK => ?_) (fun K' hK => ?_)
            · go_simp
              go_at_call 7
              refine (KC.out _ _ HD.out).mono ?_
              rintro e u1 ⟨rfl, hN1⟩
              have HU1 : Hid (In [] w u1 (FA bt 8 100 [] :: ChL cb (newCh 13) vl vt (Cells g3 #[.int .u32 k0, .int .u32 k1, .int .i64 k2, .int .i64 k3, .int .i64 k4] 46 :: []))) := Lib.hid hN1
              clear hN1
              refine hK.out _ _ ⟨cell_of (HU1.out.block 4 rfl) rfl, cell_of (HU1.out.block 4 rfl) rfl, cell_of (HU1.out.block 4 rfl) rfl, cell_of (HU1.out.block 4 rfl) rfl, cell_of (HU1.out.block 4 rfl) rfl⟩ (fun hS => ?_)
              clear hK K'
              try simp only [Act.put, List.setIfInBounds_toArray, List.set_cons_zero, List.set_cons_succ]
              refine e_two (i := 4) (j := 6) rfl rfl (by kernel_rfl) (fun K' hK => ?_) (fun K' hK => ?_)
              · go_simp
                go_at_call 13
                refine (KM.out _ _ HU1.out).mono ?_
                rintro e u2 ⟨vM, rfl, hN2⟩
                obtain ⟨aM, nM, rfl⟩ := ByR.shape hN2
                have HU2 : Hid (In [] w u2 (ByR (.slice aM m.length nM) m :: FA bt 8 100 [] :: ChL cb (newCh 13) vl vt (Cells g3 #[.int .u32 k0, .int .u32 k1, .int .i64 k2, .int .i64 k3, .int .i64 k4] 46 :: []))) := Lib.hid hN2
                clear hN2
                refine hK.out _ _ ⟨cell_of (HU2.out.block 5 rfl) rfl, cell_of (HU2.out.block 5 rfl) rfl, cell_of (HU2.out.block 5 rfl) rfl, cell_of (HU2.out.block 5 rfl) rfl, cell_of (HU2.out.block 5 rfl) rfl⟩ (fun hS => ?_)
                clear hK K'
                try simp only [Act.put, List.setIfInBounds_toArray, List.set_cons_zero, List.set_cons_succ]
                refine e_two (i := 5) (j := 6) rfl rfl (by kernel_rfl) (fun K' hK => ?_) (fun K' hK => ?_)
                · go_simp
                  go_at_call 6
                  refine (KP.out _ _ _ _ HU2.out).mono ?_
                  rintro e u3 ⟨vp, vr, rfl, hN3⟩
                  obtain ⟨ap, np, rfl⟩ := ByR.shape hN3
                  obtain ⟨Fr, rr⟩ := hN3.get 1 rfl
                  obtain ⟨ar, nr, rfl, -, -, -⟩ := RowA.shape rr
                  have HU3 : Hid (In [] w u3 (ByR (.slice ap ([] : List UInt8).length np) ([] : List UInt8) :: RecR (.slice ar ([] : List Rec).length nr) ([] : List Rec) :: FA bt 8 100 [] :: ChL cb (newCh 13) vl vt (Cells g3 #[.int .u32 k0, .int .u32 k1, .int .i64 k2, .int .i64 k3, .int .i64 k4] 46 :: []))) := Lib.hid hN3
                  clear hN3 rr
                  refine hK.out _ _ ⟨cell_of (HU3.out.block 6 rfl) rfl, cell_of (HU3.out.block 6 rfl) rfl, cell_of (HU3.out.block 6 rfl) rfl, cell_of (HU3.out.block 6 rfl) rfl, cell_of (HU3.out.block 6 rfl) rfl⟩ (fun hS => ?_)
                  clear hK K'
                  try simp only [Act.put, List.setIfInBounds_toArray, List.set_cons_zero, List.set_cons_succ]
                  refine e_pin (i := 6) rfl (by kernel_rfl) (fun K' hK => ?_)
                  go_simp
                  have hA4 := HU3.out.cells (plC 0 0 0 (.slice none 0 0) (.slice none 0 0)) 27
                  generalize u3.heap.size = gA at *
                  generalize (u3.alloc (.cells (plC 0 0 0 (.slice none 0 0) (.slice none 0 0)) 27)) = u4 at *
                  have HU4 : Hid (In [] w u4 (ByR (.slice ap ([] : List UInt8).length np) ([] : List UInt8) :: RecR (.slice ar ([] : List Rec).length nr) ([] : List Rec) :: FA bt 8 100 [] :: ChL cb (newCh 13) vl vt (Cells gA (plC 0 0 0 (.slice none 0 0) (.slice none 0 0)) 27 :: Cells g3 #[.int .u32 k0, .int .u32 k1, .int .i64 k2, .int .i64 k3, .int .i64 k4] 46 :: []))) := Lib.hid (hA4.sel2 (R1 := [_, _, _, _, _, _, _, _]) [1, 2, 3, 4, 5, 6, 0, 7] (by decide) rfl)
                  clear hA4
                  refine hK.out _ _ ⟨cell_of (HU4.out.block 7 rfl) rfl, cell_of (HU4.out.block 7 rfl) rfl, cell_of (HU4.out.block 7 rfl) rfl, cell_of (HU4.out.block 7 rfl) rfl, cell_of (HU4.out.block 7 rfl) rfl⟩ (fun hS => ?_)
                  clear hK K'
                  try simp only [Act.put, List.setIfInBounds_toArray, List.set_cons_zero, List.set_cons_succ]
                  refine e_last (i := 7) rfl (by kernel_rfl) (fun K' hK => ?_)
                  have hF := HU4.out.setFull 6 rfl (xs := (plC 1 10 0 (.slice ap ([] : List UInt8).length np) (.slice ar ([] : List Rec).length nr)).toList) (b := gA) (C := (plC 0 0 0 (.slice none 0 0) (.slice none 0 0))) (T := 27) rfl
                  refine store_step (by rfl) 27 (.tmp 9) (.tmp 40) (by rfl) gA 0 (plC 1 10 0 (.slice ap ([] : List UInt8).length np) (.slice ar ([] : List Rec).length nr)) (by rfl) (by rfl) (there_of (C := (plC 0 0 0 (.slice none 0 0) (.slice none 0 0))) (T := 27) (HU4.out.block 6 rfl)) (by kernel_rfl) (plC_all _ _ _ _ _ _ _ _ _) ?_
                  refine hK.out _ _ ?_
                  clear hK K' hS
                  go_wp2_with fail
                  go_meet
                  exact ⟨gA, _, _, rfl, hF.sel2 (R1 := [_, _, _, _, _, _, _, _]) [6, 0, 1, 2, 3, 4, 5, 7] (by decide) rfl⟩
                · go_simp
                  have hA5 := HU2.out.cells (plC 0 0 0 (.slice none 0 0) (.slice none 0 0)) 27
                  generalize u2.heap.size = gA at *
                  generalize (u2.alloc (.cells (plC 0 0 0 (.slice none 0 0) (.slice none 0 0)) 27)) = u5 at *
                  have HU5 : Hid (In [] w u5 (ByR (.slice aM m.length nM) m :: FA bt 8 100 [] :: ChL cb (newCh 13) vl vt (Cells gA (plC 0 0 0 (.slice none 0 0) (.slice none 0 0)) 27 :: Cells g3 #[.int .u32 k0, .int .u32 k1, .int .i64 k2, .int .i64 k3, .int .i64 k4] 46 :: []))) := Lib.hid (hA5.sel2 (R1 := [_, _, _, _, _, _, _]) [1, 2, 3, 4, 5, 0, 6] (by decide) rfl)
                  clear hA5
                  refine hK.out _ _ ⟨cell_of (HU5.out.block 6 rfl) rfl, cell_of (HU5.out.block 6 rfl) rfl, cell_of (HU5.out.block 6 rfl) rfl, cell_of (HU5.out.block 6 rfl) rfl, cell_of (HU5.out.block 6 rfl) rfl⟩ (fun hS => ?_)
                  clear hK K'
                  try simp only [Act.put, List.setIfInBounds_toArray, List.set_cons_zero, List.set_cons_succ]
                  refine e_pin (i := 5) rfl (by kernel_rfl) (fun K' hK => ?_)
                  go_simp
                  go_at_call 6
                  refine (KP.out _ _ _ _ HU5.out).mono ?_
                  rintro e u6 ⟨vp, vr, rfl, hN6⟩
                  obtain ⟨ap, np, rfl⟩ := ByR.shape hN6
                  obtain ⟨Fr, rr⟩ := hN6.get 1 rfl
                  obtain ⟨ar, nr, rfl, -, -, -⟩ := RowA.shape rr
                  have HU6 : Hid (In [] w u6 (ByR (.slice ap ([] : List UInt8).length np) ([] : List UInt8) :: RecR (.slice ar ([] : List Rec).length nr) ([] : List Rec) :: FA bt 8 100 [] :: ChL cb (newCh 13) vl vt (Cells gA (plC 0 0 0 (.slice none 0 0) (.slice none 0 0)) 27 :: Cells g3 #[.int .u32 k0, .int .u32 k1, .int .i64 k2, .int .i64 k3, .int .i64 k4] 46 :: []))) := Lib.hid hN6
                  clear hN6 rr
                  refine hK.out _ _ ⟨cell_of (HU6.out.block 7 rfl) rfl, cell_of (HU6.out.block 7 rfl) rfl, cell_of (HU6.out.block 7 rfl) rfl, cell_of (HU6.out.block 7 rfl) rfl, cell_of (HU6.out.block 7 rfl) rfl⟩ (fun hS => ?_)
                  clear hK K'
                  try simp only [Act.put, List.setIfInBounds_toArray, List.set_cons_zero, List.set_cons_succ]
                  refine e_last (i := 7) rfl (by kernel_rfl) (fun K' hK => ?_)
                  have hF := HU6.out.setFull 6 rfl (xs := (plC 1 10 0 (.slice ap ([] : List UInt8).length np) (.slice ar ([] : List Rec).length nr)).toList) (b := gA) (C := (plC 0 0 0 (.slice none 0 0) (.slice none 0 0))) (T := 27) rfl
                  refine store_step (by rfl) 27 (.tmp 9) (.tmp 40) (by rfl) gA 0 (plC 1 10 0 (.slice ap ([] : List UInt8).length np) (.slice ar ([] : List Rec).length nr)) (by rfl) (by rfl) (there_of (C := (plC 0 0 0 (.slice none 0 0) (.slice none 0 0))) (T := 27) (HU6.out.block 6 rfl)) (by kernel_rfl) (plC_all _ _ _ _ _ _ _ _ _) ?_
                  refine hK.out _ _ ?_
                  clear hK K' hS
                  go_wp2_with fail
                  go_meet
                  exact ⟨gA, _, _, rfl, hF.sel2 (R1 := [_, _, _, _, _, _, _, _]) [6, 0, 1, 2, 3, 4, 5, 7] (by decide) rfl⟩
              · go_simp
                have hA7 := HU1.out.cells (plC 0 0 0 (.slice none 0 0) (.slice none 0 0)) 27
                generalize u1.heap.size = gA at *
                generalize (u1.alloc (.cells (plC 0 0 0 (.slice none 0 0) (.slice none 0 0)) 27)) = u7 at *
                have HU7 : Hid (In [] w u7 (FA bt 8 100 [] :: ChL cb (newCh 13) vl vt (Cells gA (plC 0 0 0 (.slice none 0 0) (.slice none 0 0)) 27 :: Cells g3 #[.int .u32 k0, .int .u32 k1, .int .i64 k2, .int .i64 k3, .int .i64 k4] 46 :: []))) := Lib.hid (hA7.sel2 (R1 := [_, _, _, _, _, _]) [1, 2, 3, 4, 0, 5] (by decide) rfl)
                clear hA7
                refine hK.out _ _ ⟨cell_of (HU7.out.block 5 rfl) rfl, cell_of (HU7.out.block 5 rfl) rfl, cell_of (HU7.out.block 5 rfl) rfl, cell_of (HU7.out.block 5 rfl) rfl, cell_of (HU7.out.block 5 rfl) rfl⟩ (fun hS => ?_)
                clear hK K'
                try simp only [Act.put, List.setIfInBounds_toArray, List.set_cons_zero, List.set_cons_succ]
                refine e_pin (i := 4) rfl (by kernel_rfl) (fun K' hK => ?_)
                go_simp
                go_at_call 13
                refine (KM.out _ _ HU7.out).mono ?_
                rintro e u8 ⟨vM, rfl, hN8⟩
                obtain ⟨aM, nM, rfl⟩ := ByR.shape hN8
                have HU8 : Hid (In [] w u8 (ByR (.slice aM m.length nM) m :: FA bt 8 100 [] :: ChL cb (newCh 13) vl vt (Cells gA (plC 0 0 0 (.slice none 0 0) (.slice none 0 0)) 27 :: Cells g3 #[.int .u32 k0, .int .u32 k1, .int .i64 k2, .int .i64 k3, .int .i64 k4] 46 :: []))) := Lib.hid hN8
                clear hN8
                refine hK.out _ _ ⟨cell_of (HU8.out.block 6 rfl) rfl, cell_of (HU8.out.block 6 rfl) rfl, cell_of (HU8.out.block 6 rfl) rfl, cell_of (HU8.out.block 6 rfl) rfl, cell_of (HU8.out.block 6 rfl) rfl⟩ (fun hS => ?_)
                clear hK K'
                try simp only [Act.put, List.setIfInBounds_toArray, List.set_cons_zero, List.set_cons_succ]
                refine e_pin (i := 5) rfl (by kernel_rfl) (fun K' hK => ?_)
                go_simp
                go_at_call 6
                refine (KP.out _ _ _ _ HU8.out).mono ?_
                rintro e u9 ⟨vp, vr, rfl, hN9⟩
                obtain ⟨ap, np, rfl⟩ := ByR.shape hN9
                obtain ⟨Fr, rr⟩ := hN9.get 1 rfl
                obtain ⟨ar, nr, rfl, -, -, -⟩ := RowA.shape rr
                have HU9 : Hid (In [] w u9 (ByR (.slice ap ([] : List UInt8).length np) ([] : List UInt8) :: RecR (.slice ar ([] : List Rec).length nr) ([] : List Rec) :: FA bt 8 100 [] :: ChL cb (newCh 13) vl vt (Cells gA (plC 0 0 0 (.slice none 0 0) (.slice none 0 0)) 27 :: Cells g3 #[.int .u32 k0, .int .u32 k1, .int .i64 k2, .int .i64 k3, .int .i64 k4] 46 :: []))) := Lib.hid hN9
                clear hN9 rr
                refine hK.out _ _ ⟨cell_of (HU9.out.block 7 rfl) rfl, cell_of (HU9.out.block 7 rfl) rfl, cell_of (HU9.out.block 7 rfl) rfl, cell_of (HU9.out.block 7 rfl) rfl, cell_of (HU9.out.block 7 rfl) rfl⟩ (fun hS => ?_)
                clear hK K'
                try simp only [Act.put, List.setIfInBounds_toArray, List.set_cons_zero, List.set_cons_succ]
                refine e_last (i := 7) rfl (by kernel_rfl) (fun K' hK => ?_)
                have hF := HU9.out.setFull 6 rfl (xs := (plC 1 10 0 (.slice ap ([] : List UInt8).length np) (.slice ar ([] : List Rec).length nr)).toList) (b := gA) (C := (plC 0 0 0 (.slice none 0 0) (.slice none 0 0))) (T := 27) rfl
                refine store_step (by rfl) 27 (.tmp 9) (.tmp 40) (by rfl) gA 0 (plC 1 10 0 (.slice ap ([] : List UInt8).length np) (.slice ar ([] : List Rec).length nr)) (by rfl) (by rfl) (there_of (C := (plC 0 0 0 (.slice none 0 0) (.slice none 0 0))) (T := 27) (HU9.out.block 6 rfl)) (by kernel_rfl) (plC_all _ _ _ _ _ _ _ _ _) ?_
                refine hK.out _ _ ?_
                clear hK K' hS
                go_wp2_with fail
                go_meet
                exact ⟨gA, _, _, rfl, hF.sel2 (R1 := [_, _, _, _, _, _, _, _]) [6, 0, 1, 2, 3, 4, 5, 7] (by decide) rfl⟩
            · go_simp
              have hA10 := HD.out.cells (plC 0 0 0 (.slice none 0 0) (.slice none 0 0)) 27
              generalize VD.heap.size = gA at *
              generalize (VD.alloc (.cells (plC 0 0 0 (.slice none 0 0) (.slice none 0 0)) 27)) = u10 at *
              have HU10 : Hid (In [] w u10 (FA bt 8 100 [] :: ChL cb (newCh 13) vl vt (Cells gA (plC 0 0 0 (.slice none 0 0) (.slice none 0 0)) 27 :: Cells g3 #[.int .u32 k0, .int .u32 k1, .int .i64 k2, .int .i64 k3, .int .i64 k4] 46 :: []))) := Lib.hid (hA10.sel2 (R1 := [_, _, _, _, _, _]) [1, 2, 3, 4, 0, 5] (by decide) rfl)
              clear hA10
              refine hK.out _ _ ⟨cell_of (HU10.out.block 5 rfl) rfl, cell_of (HU10.out.block 5 rfl) rfl, cell_of (HU10.out.block 5 rfl) rfl, cell_of (HU10.out.block 5 rfl) rfl, cell_of (HU10.out.block 5 rfl) rfl⟩ (fun hS => ?_)
              clear hK K'
              try simp only [Act.put, List.setIfInBounds_toArray, List.set_cons_zero, List.set_cons_succ]
              refine e_pin (i := 0) rfl (by kernel_rfl) (fun K' hK => ?_)
              go_simp
              go_at_call 7
              refine (KC.out _ _ HU10.out).mono ?_
              rintro e u11 ⟨rfl, hN11⟩
              have HU11 : Hid (In [] w u11 (FA bt 8 100 [] :: ChL cb (newCh 13) vl vt (Cells gA (plC 0 0 0 (.slice none 0 0) (.slice none 0 0)) 27 :: Cells g3 #[.int .u32 k0, .int .u32 k1, .int .i64 k2, .int .i64 k3, .int .i64 k4] 46 :: []))) := Lib.hid hN11
              clear hN11
              refine hK.out _ _ ⟨cell_of (HU11.out.block 5 rfl) rfl, cell_of (HU11.out.block 5 rfl) rfl, cell_of (HU11.out.block 5 rfl) rfl, cell_of (HU11.out.block 5 rfl) rfl, cell_of (HU11.out.block 5 rfl) rfl⟩ (fun hS => ?_)
              clear hK K'
              try simp only [Act.put, List.setIfInBounds_toArray, List.set_cons_zero, List.set_cons_succ]
              refine e_pin (i := 4) rfl (by kernel_rfl) (fun K' hK => ?_)
              go_simp
              go_at_call 13
              refine (KM.out _ _ HU11.out).mono ?_
              rintro e u12 ⟨vM, rfl, hN12⟩
              obtain ⟨aM, nM, rfl⟩ := ByR.shape hN12
              have HU12 : Hid (In [] w u12 (ByR (.slice aM m.length nM) m :: FA bt 8 100 [] :: ChL cb (newCh 13) vl vt (Cells gA (plC 0 0 0 (.slice none 0 0) (.slice none 0 0)) 27 :: Cells g3 #[.int .u32 k0, .int .u32 k1, .int .i64 k2, .int .i64 k3, .int .i64 k4] 46 :: []))) := Lib.hid hN12
              clear hN12
              refine hK.out _ _ ⟨cell_of (HU12.out.block 6 rfl) rfl, cell_of (HU12.out.block 6 rfl) rfl, cell_of (HU12.out.block 6 rfl) rfl, cell_of (HU12.out.block 6 rfl) rfl, cell_of (HU12.out.block 6 rfl) rfl⟩ (fun hS => ?_)
              clear hK K'
              try simp only [Act.put, List.setIfInBounds_toArray, List.set_cons_zero, List.set_cons_succ]
              refine e_pin (i := 5) rfl (by kernel_rfl) (fun K' hK => ?_)
              go_simp
              go_at_call 6
              refine (KP.out _ _ _ _ HU12.out).mono ?_
              rintro e u13 ⟨vp, vr, rfl, hN13⟩
              obtain ⟨ap, np, rfl⟩ := ByR.shape hN13
              obtain ⟨Fr, rr⟩ := hN13.get 1 rfl
              obtain ⟨ar, nr, rfl, -, -, -⟩ := RowA.shape rr
              have HU13 : Hid (In [] w u13 (ByR (.slice ap ([] : List UInt8).length np) ([] : List UInt8) :: RecR (.slice ar ([] : List Rec).length nr) ([] : List Rec) :: FA bt 8 100 [] :: ChL cb (newCh 13) vl vt (Cells gA (plC 0 0 0 (.slice none 0 0) (.slice none 0 0)) 27 :: Cells g3 #[.int .u32 k0, .int .u32 k1, .int .i64 k2, .int .i64 k3, .int .i64 k4] 46 :: []))) := Lib.hid hN13
              clear hN13 rr
              refine hK.out _ _ ⟨cell_of (HU13.out.block 7 rfl) rfl, cell_of (HU13.out.block 7 rfl) rfl, cell_of (HU13.out.block 7 rfl) rfl, cell_of (HU13.out.block 7 rfl) rfl, cell_of (HU13.out.block 7 rfl) rfl⟩ (fun hS => ?_)
              clear hK K'
              try simp only [Act.put, List.setIfInBounds_toArray, List.set_cons_zero, List.set_cons_succ]
              refine e_last (i := 7) rfl (by kernel_rfl) (fun K' hK => ?_)
              have hF := HU13.out.setFull 6 rfl (xs := (plC 1 10 0 (.slice ap ([] : List UInt8).length np) (.slice ar ([] : List Rec).length nr)).toList) (b := gA) (C := (plC 0 0 0 (.slice none 0 0) (.slice none 0 0))) (T := 27) rfl
              refine store_step (by rfl) 27 (.tmp 9) (.tmp 40) (by rfl) gA 0 (plC 1 10 0 (.slice ap ([] : List UInt8).length np) (.slice ar ([] : List Rec).length nr)) (by rfl) (by rfl) (there_of (C := (plC 0 0 0 (.slice none 0 0) (.slice none 0 0))) (T := 27) (HU13.out.block 6 rfl)) (by kernel_rfl) (plC_all _ _ _ _ _ _ _ _ _) ?_
              refine hK.out _ _ ?_
              clear hK K' hS
              go_wp2_with fail
              go_meet
              exact ⟨gA, _, _, rfl, hF.sel2 (R1 := [_, _, _, _, _, _, _, _]) [6, 0, 1, 2, 3, 4, 5, 7] (by decide) rfl⟩
          case rest =>
            obtain ⟨g4, vp, vr, rfl, ho⟩ := hcut
            obtain ⟨F8, r8⟩ := ho.get 2 rfl
            obtain ⟨ar, nr, rfl, -, -, -⟩ := RowA.shape r8
            have hb := ho.block 0 rfl
            have p0 : wc.cell? ⟨g4, 0, none⟩ = some (.int .i64 1) := cell_of hb rfl
            have p1 : wc.cell? ⟨g4, 1, none⟩ = some (.int .i64 10) := cell_of hb rfl
            have p4 : wc.cell? ⟨g4, 4, none⟩ = some (.slice ar 0 nr) := cell_of hb rfl
            have K5 := Lib.hid (o_flen ho 3 rfl)
            have HN1 := Lib.hid (HN.out _ (ho.sel2 (R1 := [_, _, _, _, _, _, _, _]) [3, 4, 5, 6] (by decide) rfl))
            clear ho hb r8 KM KP HN HD1
            go_wp2_with fail
            refine K5.out.mono ?_
            rintro e w6 ⟨rfl, rfl⟩
            clear K5
            go_wp2_with fail
            go_roundw
            case rel => (try rw [hw2]); exact HN1.out
            case measure => (try rw [hw2]); exact meas_lt hix
    · have hge : (L.length : Int) ≤ (i : Int) := by omega
      have h2 := ho.cells (encBa ⟨1, 1, 1⟩) 43
      have K2H := K2.out _ cb _ vl vt _ (h2.sel2 (R1 := [_, _, _, _, _]) [0, 2, 3, 4, 1] (by decide) rfl)
      rw [HS.out] at K2H
      have K2G := Lib.hid K2H
      clear ho h2 K2 K2H HS hi hlt
      go_wp2_with fail
      refine K2G.out.mono ?_
      rintro e w3 ⟨vl, vt, rfl, ho⟩
      have HR1 : Hid (DrRel L bt cb c1R vl vt w (.int .i64 0) w3) := Lib.hid ⟨0, rfl, Nat.zero_le _, ho.sel2 (R1 := [_, _, _, _]) [3, 0, 1, 2] (by decide) rfl⟩
      clear ho K2G
      go_wp2_with fail
      go_loopw [70] (DrRel L bt cb c1R vl vt w) (fun v _ => L.length - (intOf v).toNat)
      case atStart => exact HR1.out
      case round =>
        obtain ⟨j, rfl, hj, ho⟩ := hrel
        clear HR1
        by_cases hlt : j < L.length
        · obtain ⟨k, hk⟩ : ∃ k, L[j]? = some k := ⟨L[j], List.getElem?_eq_getElem hlt⟩
          obtain ⟨gb, ob, rfl, wk, hat⟩ := HAT.out j k hk
          obtain ⟨c0, c1, c2, c3, c4⟩ := hat wr (ho.sel2 (R1 := [_, _, _, _]) [] (by decide) rfl)
          have hix : (j : Int) < (L.length : Int) := by omega
          have hw2 : wrap64 ((j : Int) + 1) = (j : Int) + 1 := by unfold wrap64; omega
          have HN : Hid (∀ wz, In [] w wz (FA bt 8 100 [] :: ChL cb c1R vl vt []) → DrRel L bt cb c1R vl vt w (.int .i64 ((j : Int) + 1)) wz) := Lib.hid fun wz hz => ⟨j + 1, by rw [Int.natCast_add]; rfl, hlt, hz⟩
          by_cases h20 : 20 ≤ j
          · have q20 : (20 : Int) ≤ (j : Int) := by omega
            have HN1 := Lib.hid (HN.out _ (ho.alloc (.cells (encT k) 46)))
            clear HN ho hat h20 hj hlt hk wk
            go_wp2_with fail
            go_roundw
            case rel => (try rw [hw2]); exact HN1.out
            case measure => (try rw [hw2]); exact meas_lt hix
          · have q20 : decide ((20 : Int) ≤ (j : Int)) = false := decide_eq_false (by omega)
            have ho3 := ho.cells (encT k) 46
            have KTH0 := KT.out k _ _ ho3
            by_cases hmk : MayT k
            case neg =>
              rw [decide_eq_false hmk] at KTH0
              have KTH := Lib.hid KTH0
              obtain ⟨k0, k1, k2, k3, k4⟩ := k
              clear KTH0 ho3 ho hat h20 hj hlt hk wk hmk
              go_wp2_with fail
              refine KTH.out.mono ?_
              rintro e w5 ⟨rfl, ho⟩
              have HN1 := Lib.hid (HN.out _ ho.drop)
              clear ho KTH HN
              go_wp2_with fail
              go_roundw
              case rel => (try rw [hw2]); exact HN1.out
              case measure => (try rw [hw2]); exact meas_lt hix
            case pos =>
              rw [decide_eq_true hmk] at KTH0
              have KTH := Lib.hid KTH0
              have hpk := drop_ttl k wk hmk
              obtain ⟨body, hbd⟩ : ∃ body : List UInt8, body = List.replicate sz 0 := ⟨_, rfl⟩
              have hbl : body.length = sz := by rw [hbd]; simp
              have hpk2 := drop_mtu k wk hmk body (by omega) (by omega)
              have hml : (madeD k 1 0 []).length ≤ 100000000 := by rw [madeD_len]; split <;> decide
              have hml2 : (madeD k 9 0 body).length ≤ 100000000 := by unfold madeD; rw [List.length_append, buildD_length, innerL_length]; split <;> omega
              obtain ⟨CZ, CZ1, CZ2, CZ3⟩ := made_bytes (n := sz) (by omega)
              have KM0 := fun w' (R' : List Asrt) (h' : In [] w w' R') => o_made h' wk 1 0 (A := none) (c := 0) (body := []) bytes_nil (by decide)
              have KP0 := fun w' (R' : List Asrt) v n (h' : In [] w w' (ByR (.slice v (madeD k 1 0 []).length n) (madeD k 1 0 []) :: FA bt 8 100 [] :: ChL cb c1R vl vt R')) => o_pktown (self := 168364297) (sl := 13) (fl := 8) (idle0 := 20) (mtu := 1500) (sg := 200) (qu := 20000) (ve := 3) (by decide) chOk1R (gen := 1) (now := 0) hml h'
              rw [hpk] at KP0
              have KM2 : ∀ w' (gK : Nat) (R' : List Asrt) (ix : Nat), R'[ix]? = some (ByR (.slice (some ⟨gK, 0, none⟩) sz sz) body) → In [] w w' R' → Calls Try.prog 13 #[.agg (encT k), .int .i64 9, .int .i64 0, .slice (some ⟨gK, 0, none⟩) sz sz] w' fun e w'' => ∃ v, e = .returned v ∧ In [] w w'' (ByR v (madeD k 9 0 body) :: R') := by
                intro w' gK R' ix hA h'
                have := o_made h' wk 9 0 (body := body) (ByR.bytes ix hA h') (by omega)
                rw [hbl] at this
                exact this
              have KP2 := fun w' (R' : List Asrt) v n (h' : In [] w w' (ByR (.slice v (madeD k 9 0 body).length n) (madeD k 9 0 body) :: FA bt 8 100 [] :: ChL cb c1R vl vt R')) => o_pktown (self := 168364297) (sl := 13) (fl := 8) (idle0 := 20) (mtu := 1500) (sg := 200) (qu := 20000) (ve := 3) (by decide) chOk1R (gen := 1) (now := 0) hml2 h'
              rw [hpk2] at KP2
              have HKR : Hid (∀ w' (R' : List Asrt), In [] w w' R' → In [] w (w'.alloc (.cells CZ 5)) (ByR (.slice (some ⟨w'.heap.size, 0, none⟩) sz sz) body :: R')) := Lib.hid fun w' R' h' => by
                have h1 := (h'.cells CZ 5).rowFull 0 (n := sz) (k := 1) rfl (by rw [CZ1]; omega) (by unfold maxLen; omega)
                rw [CZ2, ← hbd] at h1
                unfold ByR
                rw [hbl]; exact h1
              have HMK := Lib.hid CZ3
              clear CZ1 CZ2 CZ3 hbd
              generalize madeD k 1 0 [] = m at *
              generalize madeD k 9 0 body = mm at *
              have KM := Lib.hid KM0
              have KP := Lib.hid KP0
              have KMH := Lib.hid KM2
              have KPH := Lib.hid KP2
              obtain ⟨k0, k1, k2, k3, k4⟩ := k
              clear KTH0 ho3 ho hat h20 hj hlt hk wk hmk KM0 KP0 hpk hml hpk2 hml2 KM2 KP2 hbl
              go_wp2_with fail
              refine KTH.out.mono ?_
              rintro e w5 ⟨rfl, ho⟩
              clear KTH c0 c1 c2 c3 c4
              go_upto_region 17 with fail
              generalize wr.heap.size = g3 at *
              have HD1 : In [] w w5.drew (FA bt 8 100 [] :: ChL cb c1R vl vt (Cells g3 #[.int .u32 k0, .int .u32 k1, .int .i64 k2, .int .i64 k3, .int .i64 k4] 46 :: [])) := (ho.drewN 1).sel2 (R1 := [_, _, _, _, _]) [1, 2, 3, 4, 0] (by decide) rfl
              clear ho
              go_cut [12] (fun x9 wx => ∃ g4 vp vr, x9 = .pointer (some ⟨g4, 0, none⟩) ∧ In [] w wx (Cells g4 (plC 1 7 0 vp vr) 27 :: ByR vp [] :: RecR vr [] :: FA bt 8 100 [] :: ChL cb c1R vl vt (Cells g3 #[.int .u32 k0, .int .u32 k1, .int .i64 k2, .int .i64 k3, .int .i64 k4] 46 :: [])))
              case first =>
                have HD := Lib.hid HD1
                clear HD1 KMH KPH HKR HMK
                refine e_start (fun w' => w'.cell? ⟨g3, 0, none⟩ = some (.int .u32 k0) ∧ w'.cell? ⟨g3, 1, none⟩ = some (.int .u32 k1) ∧ w'.cell? ⟨g3, 2, none⟩ = some (.int .i64 k2) ∧ w'.cell? ⟨g3, 3, none⟩ = some (.int .i64 k3) ∧ w'.cell? ⟨g3, 4, none⟩ = some (.int .i64 k4)) (by kernel_rfl) ⟨cell_of (HD.out.block 4 rfl) rfl, cell_of (HD.out.block 4 rfl) rfl, cell_of (HD.out.block 4 rfl) rfl, cell_of (HD.out.block 4 rfl) rfl, cell_of (HD.out.block 4 rfl) rfl⟩ (fun hS => ?_)
                generalize w5.drew = VD at *
                refine e_take (i := 1) (v := ?_) rfl (by kernel_rfl) (fun _ _ _ h => h) (by rfl) ?_ hS ?_
                rotate_left
                · (intro w hSw; (try dsimp only at hSw); go_simp; try with_reducible rfl)
                try simp only [Act.put, List.setIfInBounds_toArray, List.set_cons_zero, List.set_cons_succ]
                refine e_take (i := 2) (v := ?_) rfl (by kernel_rfl) (fun _ _ _ h => h) (by rfl) ?_ hS ?_
                rotate_left
                · (intro w hSw; (try dsimp only at hSw); go_simp; try with_reducible rfl)
                try simp only [Act.put, List.setIfInBounds_toArray, List.set_cons_zero, List.set_cons_succ]
                refine e_take (i := 3) (v := ?_) rfl (by kernel_rfl) (fun _ _ _ h => h) (by rfl) ?_ hS ?_
                rotate_left
                · (intro w hSw; (try dsimp only at hSw); go_simp; try with_reducible rfl)
                try simp only [Act.put, List.setIfInBounds_toArray, List.set_cons_zero, List.set_cons_succ]
                refine e_two (i := 0) (j := 6) rfl rfl (by kernel_rfl) (fun K' hK => ?_) (fun K' hK => ?_)
                · go_simp
                  go_at_call 7
                  refine (KC.out _ _ HD.out).mono ?_
                  rintro e u1 ⟨rfl, hN1⟩
                  have HU1 : Hid (In [] w u1 (FA bt 8 100 [] :: ChL cb c1R vl vt (Cells g3 #[.int .u32 k0, .int .u32 k1, .int .i64 k2, .int .i64 k3, .int .i64 k4] 46 :: []))) := Lib.hid hN1
                  clear hN1
                  refine hK.out _ _ ⟨cell_of (HU1.out.block 4 rfl) rfl, cell_of (HU1.out.block 4 rfl) rfl, cell_of (HU1.out.block 4 rfl) rfl, cell_of (HU1.out.block 4 rfl) rfl, cell_of (HU1.out.block 4 rfl) rfl⟩ (fun hS => ?_)
                  clear hK K'
                  try simp only [Act.put, List.setIfInBounds_toArray, List.set_cons_zero, List.set_cons_succ]
                  refine e_two (i := 4) (j := 6) rfl rfl (by kernel_rfl) (fun K' hK => ?_) (fun K' hK => ?_)
                  · go_simp
                    go_at_call 13
                    refine (KM.out _ _ HU1.out).mono ?_
                    rintro e u2 ⟨vM, rfl, hN2⟩
                    obtain ⟨aM, nM, rfl⟩ := ByR.shape hN2
                    have HU2 : Hid (In [] w u2 (ByR (.slice aM m.length nM) m :: FA bt 8 100 [] :: ChL cb c1R vl vt (Cells g3 #[.int .u32 k0, .int .u32 k1, .int .i64 k2, .int .i64 k3, .int .i64 k4] 46 :: []))) := Lib.hid hN2
                    clear hN2
                    refine hK.out _ _ ⟨cell_of (HU2.out.block 5 rfl) rfl, cell_of (HU2.out.block 5 rfl) rfl, cell_of (HU2.out.block 5 rfl) rfl, cell_of (HU2.out.block 5 rfl) rfl, cell_of (HU2.out.block 5 rfl) rfl⟩ (fun hS => ?_)
                    clear hK K'
                    try simp only [Act.put, List.setIfInBounds_toArray, List.set_cons_zero, List.set_cons_succ]
                    refine e_two (i := 5) (j := 6) rfl rfl (by kernel_rfl) (fun K' hK => ?_) (fun K' hK => ?_)
                    · go_simp
                      go_at_call 6
                      refine (KP.out _ _ _ _ HU2.out).mono ?_
                      rintro e u3 ⟨vp, vr, rfl, hN3⟩
                      obtain ⟨ap, np, rfl⟩ := ByR.shape hN3
                      obtain ⟨Fr, rr⟩ := hN3.get 1 rfl
                      obtain ⟨ar, nr, rfl, -, -, -⟩ := RowA.shape rr
                      have HU3 : Hid (In [] w u3 (ByR (.slice ap ([] : List UInt8).length np) ([] : List UInt8) :: RecR (.slice ar ([] : List Rec).length nr) ([] : List Rec) :: FA bt 8 100 [] :: ChL cb c1R vl vt (Cells g3 #[.int .u32 k0, .int .u32 k1, .int .i64 k2, .int .i64 k3, .int .i64 k4] 46 :: []))) := Lib.hid hN3
                      clear hN3 rr
                      refine hK.out _ _ ⟨cell_of (HU3.out.block 6 rfl) rfl, cell_of (HU3.out.block 6 rfl) rfl, cell_of (HU3.out.block 6 rfl) rfl, cell_of (HU3.out.block 6 rfl) rfl, cell_of (HU3.out.block 6 rfl) rfl⟩ (fun hS => ?_)
                      clear hK K'
                      try simp only [Act.put, List.setIfInBounds_toArray, List.set_cons_zero, List.set_cons_succ]
                      refine e_pin (i := 6) rfl (by kernel_rfl) (fun K' hK => ?_)
                      go_simp
                      have hA4 := HU3.out.cells (plC 0 0 0 (.slice none 0 0) (.slice none 0 0)) 27
                      generalize u3.heap.size = gA at *
                      generalize (u3.alloc (.cells (plC 0 0 0 (.slice none 0 0) (.slice none 0 0)) 27)) = u4 at *
                      have HU4 : Hid (In [] w u4 (ByR (.slice ap ([] : List UInt8).length np) ([] : List UInt8) :: RecR (.slice ar ([] : List Rec).length nr) ([] : List Rec) :: FA bt 8 100 [] :: ChL cb c1R vl vt (Cells gA (plC 0 0 0 (.slice none 0 0) (.slice none 0 0)) 27 :: Cells g3 #[.int .u32 k0, .int .u32 k1, .int .i64 k2, .int .i64 k3, .int .i64 k4] 46 :: []))) := Lib.hid (hA4.sel2 (R1 := [_, _, _, _, _, _, _, _]) [1, 2, 3, 4, 5, 6, 0, 7] (by decide) rfl)
                      clear hA4
                      refine hK.out _ _ ⟨cell_of (HU4.out.block 7 rfl) rfl, cell_of (HU4.out.block 7 rfl) rfl, cell_of (HU4.out.block 7 rfl) rfl, cell_of (HU4.out.block 7 rfl) rfl, cell_of (HU4.out.block 7 rfl) rfl⟩ (fun hS => ?_)
                      clear hK K'
                      try simp only [Act.put, List.setIfInBounds_toArray, List.set_cons_zero, List.set_cons_succ]
                      refine e_last (i := 7) rfl (by kernel_rfl) (fun K' hK => ?_)
                      have hF := HU4.out.setFull 6 rfl (xs := (plC 1 7 0 (.slice ap ([] : List UInt8).length np) (.slice ar ([] : List Rec).length nr)).toList) (b := gA) (C := (plC 0 0 0 (.slice none 0 0) (.slice none 0 0))) (T := 27) rfl
                      refine store_step (by rfl) 27 (.tmp 12) (.tmp 87) (by rfl) gA 0 (plC 1 7 0 (.slice ap ([] : List UInt8).length np) (.slice ar ([] : List Rec).length nr)) (by rfl) (by rfl) (there_of (C := (plC 0 0 0 (.slice none 0 0) (.slice none 0 0))) (T := 27) (HU4.out.block 6 rfl)) (by kernel_rfl) (plC_all _ _ _ _ _ _ _ _ _) ?_
                      refine hK.out _ _ ?_
                      clear hK K' hS
                      go_wp2_with fail
                      go_meet
                      exact ⟨gA, _, _, rfl, hF.sel2 (R1 := [_, _, _, _, _, _, _, _]) [6, 0, 1, 2, 3, 4, 5, 7] (by decide) rfl⟩
                    · go_simp
                      have hA5 := HU2.out.cells (plC 0 0 0 (.slice none 0 0) (.slice none 0 0)) 27
                      generalize u2.heap.size = gA at *
                      generalize (u2.alloc (.cells (plC 0 0 0 (.slice none 0 0) (.slice none 0 0)) 27)) = u5 at *
                      have HU5 : Hid (In [] w u5 (ByR (.slice aM m.length nM) m :: FA bt 8 100 [] :: ChL cb c1R vl vt (Cells gA (plC 0 0 0 (.slice none 0 0) (.slice none 0 0)) 27 :: Cells g3 #[.int .u32 k0, .int .u32 k1, .int .i64 k2, .int .i64 k3, .int .i64 k4] 46 :: []))) := Lib.hid (hA5.sel2 (R1 := [_, _, _, _, _, _, _]) [1, 2, 3, 4, 5, 0, 6] (by decide) rfl)
                      clear hA5
                      refine hK.out _ _ ⟨cell_of (HU5.out.block 6 rfl) rfl, cell_of (HU5.out.block 6 rfl) rfl, cell_of (HU5.out.block 6 rfl) rfl, cell_of (HU5.out.block 6 rfl) rfl, cell_of (HU5.out.block 6 rfl) rfl⟩ (fun hS => ?_)
                      clear hK K'
                      try simp only [Act.put, List.setIfInBounds_toArray, List.set_cons_zero, List.set_cons_succ]
                      refine e_pin (i := 5) rfl (by kernel_rfl) (fun K' hK => ?_)
                      go_simp
                      go_at_call 6
                      refine (KP.out _ _ _ _ HU5.out).mono ?_
                      rintro e u6 ⟨vp, vr, rfl, hN6⟩
                      obtain ⟨ap, np, rfl⟩ := ByR.shape hN6
                      obtain ⟨Fr, rr⟩ := hN6.get 1 rfl
                      obtain ⟨ar, nr, rfl, -, -, -⟩ := RowA.shape rr
                      have HU6 : Hid (In [] w u6 (ByR (.slice ap ([] : List UInt8).length np) ([] : List UInt8) :: RecR (.slice ar ([] : List Rec).length nr) ([] : List Rec) :: FA bt 8 100 [] :: ChL cb c1R vl vt (Cells gA (plC 0 0 0 (.slice none 0 0) (.slice none 0 0)) 27 :: Cells g3 #[.int .u32 k0, .int .u32 k1, .int .i64 k2, .int .i64 k3, .int .i64 k4] 46 :: []))) := Lib.hid hN6
                      clear hN6 rr
                      refine hK.out _ _ ⟨cell_of (HU6.out.block 7 rfl) rfl, cell_of (HU6.out.block 7 rfl) rfl, cell_of (HU6.out.block 7 rfl) rfl, cell_of (HU6.out.block 7 rfl) rfl, cell_of (HU6.out.block 7 rfl) rfl⟩ (fun hS => ?_)
                      clear hK K'
                      try simp only [Act.put, List.setIfInBounds_toArray, List.set_cons_zero, List.set_cons_succ]
                      refine e_last (i := 7) rfl (by kernel_rfl) (fun K' hK => ?_)
                      have hF := HU6.out.setFull 6 rfl (xs := (plC 1 7 0 (.slice ap ([] : List UInt8).length np) (.slice ar ([] : List Rec).length nr)).toList) (b := gA) (C := (plC 0 0 0 (.slice none 0 0) (.slice none 0 0))) (T := 27) rfl
                      refine store_step (by rfl) 27 (.tmp 12) (.tmp 87) (by rfl) gA 0 (plC 1 7 0 (.slice ap ([] : List UInt8).length np) (.slice ar ([] : List Rec).length nr)) (by rfl) (by rfl) (there_of (C := (plC 0 0 0 (.slice none 0 0) (.slice none 0 0))) (T := 27) (HU6.out.block 6 rfl)) (by kernel_rfl) (plC_all _ _ _ _ _ _ _ _ _) ?_
                      refine hK.out _ _ ?_
                      clear hK K' hS
                      go_wp2_with fail
                      go_meet
                      exact ⟨gA, _, _, rfl, hF.sel2 (R1 := [_, _, _, _, _, _, _, _]) [6, 0, 1, 2, 3, 4, 5, 7] (by decide) rfl⟩
                  · go_simp
                    have hA7 := HU1.out.cells (plC 0 0 0 (.slice none 0 0) (.slice none 0 0)) 27
                    generalize u1.heap.size = gA at *
                    generalize (u1.alloc (.cells (plC 0 0 0 (.slice none 0 0) (.slice none 0 0)) 27)) = u7 at *
                    have HU7 : Hid (In [] w u7 (FA bt 8 100 [] :: ChL cb c1R vl vt (Cells gA (plC 0 0 0 (.slice none 0 0) (.slice none 0 0)) 27 :: Cells g3 #[.int .u32 k0, .int .u32 k1, .int .i64 k2, .int .i64 k3, .int .i64 k4] 46 :: []))) := Lib.hid (hA7.sel2 (R1 := [_, _, _, _, _, _]) [1, 2, 3, 4, 0, 5] (by decide) rfl)
                    clear hA7
                    refine hK.out _ _ ⟨cell_of (HU7.out.block 5 rfl) rfl, cell_of (HU7.out.block 5 rfl) rfl, cell_of (HU7.out.block 5 rfl) rfl, cell_of (HU7.out.block 5 rfl) rfl, cell_of (HU7.out.block 5 rfl) rfl⟩ (fun hS => ?_)
                    clear hK K'
                    try simp only [Act.put, List.setIfInBounds_toArray, List.set_cons_zero, List.set_cons_succ]
                    refine e_pin (i := 4) rfl (by kernel_rfl) (fun K' hK => ?_)
                    go_simp
                    go_at_call 13
                    refine (KM.out _ _ HU7.out).mono ?_
                    rintro e u8 ⟨vM, rfl, hN8⟩
                    obtain ⟨aM, nM, rfl⟩ := ByR.shape hN8
                    have HU8 : Hid (In [] w u8 (ByR (.slice aM m.length nM) m :: FA bt 8 100 [] :: ChL cb c1R vl vt (Cells gA (plC 0 0 0 (.slice none 0 0) (.slice none 0 0)) 27 :: Cells g3 #[.int .u32 k0, .int .u32 k1, .int .i64 k2, .int .i64 k3, .int .i64 k4] 46 :: []))) := Lib.hid hN8
                    clear hN8
                    refine hK.out _ _ ⟨cell_of (HU8.out.block 6 rfl) rfl, cell_of (HU8.out.block 6 rfl) rfl, cell_of (HU8.out.block 6 rfl) rfl, cell_of (HU8.out.block 6 rfl) rfl, cell_of (HU8.out.block 6 rfl) rfl⟩ (fun hS => ?_)
                    clear hK K'
                    try simp only [Act.put, List.setIfInBounds_toArray, List.set_cons_zero, List.set_cons_succ]
                    refine e_pin (i := 5) rfl (by kernel_rfl) (fun K' hK => ?_)
                    go_simp
                    go_at_call 6
                    refine (KP.out _ _ _ _ HU8.out).mono ?_
                    rintro e u9 ⟨vp, vr, rfl, hN9⟩
                    obtain ⟨ap, np, rfl⟩ := ByR.shape hN9
                    obtain ⟨Fr, rr⟩ := hN9.get 1 rfl
                    obtain ⟨ar, nr, rfl, -, -, -⟩ := RowA.shape rr
                    have HU9 : Hid (In [] w u9 (ByR (.slice ap ([] : List UInt8).length np) ([] : List UInt8) :: RecR (.slice ar ([] : List Rec).length nr) ([] : List Rec) :: FA bt 8 100 [] :: ChL cb c1R vl vt (Cells gA (plC 0 0 0 (.slice none 0 0) (.slice none 0 0)) 27 :: Cells g3 #[.int .u32 k0, .int .u32 k1, .int .i64 k2, .int .i64 k3, .int .i64 k4] 46 :: []))) := Lib.hid hN9
                    clear hN9 rr
                    refine hK.out _ _ ⟨cell_of (HU9.out.block 7 rfl) rfl, cell_of (HU9.out.block 7 rfl) rfl, cell_of (HU9.out.block 7 rfl) rfl, cell_of (HU9.out.block 7 rfl) rfl, cell_of (HU9.out.block 7 rfl) rfl⟩ (fun hS => ?_)
                    clear hK K'
                    try simp only [Act.put, List.setIfInBounds_toArray, List.set_cons_zero, List.set_cons_succ]
                    refine e_last (i := 7) rfl (by kernel_rfl) (fun K' hK => ?_)
                    have hF := HU9.out.setFull 6 rfl (xs := (plC 1 7 0 (.slice ap ([] : List UInt8).length np) (.slice ar ([] : List Rec).length nr)).toList) (b := gA) (C := (plC 0 0 0 (.slice none 0 0) (.slice none 0 0))) (T := 27) rfl
                    refine store_step (by rfl) 27 (.tmp 12) (.tmp 87) (by rfl) gA 0 (plC 1 7 0 (.slice ap ([] : List UInt8).length np) (.slice ar ([] : List Rec).length nr)) (by rfl) (by rfl) (there_of (C := (plC 0 0 0 (.slice none 0 0) (.slice none 0 0))) (T := 27) (HU9.out.block 6 rfl)) (by kernel_rfl) (plC_all _ _ _ _ _ _ _ _ _) ?_
                    refine hK.out _ _ ?_
                    clear hK K' hS
                    go_wp2_with fail
                    go_meet
                    exact ⟨gA, _, _, rfl, hF.sel2 (R1 := [_, _, _, _, _, _, _, _]) [6, 0, 1, 2, 3, 4, 5, 7] (by decide) rfl⟩
                · go_simp
                  have hA10 := HD.out.cells (plC 0 0 0 (.slice none 0 0) (.slice none 0 0)) 27
                  generalize VD.heap.size = gA at *
                  generalize (VD.alloc (.cells (plC 0 0 0 (.slice none 0 0) (.slice none 0 0)) 27)) = u10 at *
                  have HU10 : Hid (In [] w u10 (FA bt 8 100 [] :: ChL cb c1R vl vt (Cells gA (plC 0 0 0 (.slice none 0 0) (.slice none 0 0)) 27 :: Cells g3 #[.int .u32 k0, .int .u32 k1, .int .i64 k2, .int .i64 k3, .int .i64 k4] 46 :: []))) := Lib.hid (hA10.sel2 (R1 := [_, _, _, _, _, _]) [1, 2, 3, 4, 0, 5] (by decide) rfl)
                  clear hA10
                  refine hK.out _ _ ⟨cell_of (HU10.out.block 5 rfl) rfl, cell_of (HU10.out.block 5 rfl) rfl, cell_of (HU10.out.block 5 rfl) rfl, cell_of (HU10.out.block 5 rfl) rfl, cell_of (HU10.out.block 5 rfl) rfl⟩ (fun hS => ?_)
                  clear hK K'
                  try simp only [Act.put, List.setIfInBounds_toArray, List.set_cons_zero, List.set_cons_succ]
                  refine e_pin (i := 0) rfl (by kernel_rfl) (fun K' hK => ?_)
                  go_simp
                  go_at_call 7
                  refine (KC.out _ _ HU10.out).mono ?_
                  rintro e u11 ⟨rfl, hN11⟩
                  have HU11 : Hid (In [] w u11 (FA bt 8 100 [] :: ChL cb c1R vl vt (Cells gA (plC 0 0 0 (.slice none 0 0) (.slice none 0 0)) 27 :: Cells g3 #[.int .u32 k0, .int .u32 k1, .int .i64 k2, .int .i64 k3, .int .i64 k4] 46 :: []))) := Lib.hid hN11
                  clear hN11
                  refine hK.out _ _ ⟨cell_of (HU11.out.block 5 rfl) rfl, cell_of (HU11.out.block 5 rfl) rfl, cell_of (HU11.out.block 5 rfl) rfl, cell_of (HU11.out.block 5 rfl) rfl, cell_of (HU11.out.block 5 rfl) rfl⟩ (fun hS => ?_)
                  clear hK K'
                  try simp only [Act.put, List.setIfInBounds_toArray, List.set_cons_zero, List.set_cons_succ]
                  refine e_pin (i := 4) rfl (by kernel_rfl) (fun K' hK => ?_)
                  go_simp
                  go_at_call 13
                  refine (KM.out _ _ HU11.out).mono ?_
                  rintro e u12 ⟨vM, rfl, hN12⟩
                  obtain ⟨aM, nM, rfl⟩ := ByR.shape hN12
                  have HU12 : Hid (In [] w u12 (ByR (.slice aM m.length nM) m :: FA bt 8 100 [] :: ChL cb c1R vl vt (Cells gA (plC 0 0 0 (.slice none 0 0) (.slice none 0 0)) 27 :: Cells g3 #[.int .u32 k0, .int .u32 k1, .int .i64 k2, .int .i64 k3, .int .i64 k4] 46 :: []))) := Lib.hid hN12
                  clear hN12
                  refine hK.out _ _ ⟨cell_of (HU12.out.block 6 rfl) rfl, cell_of (HU12.out.block 6 rfl) rfl, cell_of (HU12.out.block 6 rfl) rfl, cell_of (HU12.out.block 6 rfl) rfl, cell_of (HU12.out.block 6 rfl) rfl⟩ (fun hS => ?_)
                  clear hK K'
                  try simp only [Act.put, List.setIfInBounds_toArray, List.set_cons_zero, List.set_cons_succ]
                  refine e_pin (i := 5) rfl (by kernel_rfl) (fun K' hK => ?_)
                  go_simp
                  go_at_call 6
                  refine (KP.out _ _ _ _ HU12.out).mono ?_
                  rintro e u13 ⟨vp, vr, rfl, hN13⟩
                  obtain ⟨ap, np, rfl⟩ := ByR.shape hN13
                  obtain ⟨Fr, rr⟩ := hN13.get 1 rfl
                  obtain ⟨ar, nr, rfl, -, -, -⟩ := RowA.shape rr
                  have HU13 : Hid (In [] w u13 (ByR (.slice ap ([] : List UInt8).length np) ([] : List UInt8) :: RecR (.slice ar ([] : List Rec).length nr) ([] : List Rec) :: FA bt 8 100 [] :: ChL cb c1R vl vt (Cells gA (plC 0 0 0 (.slice none 0 0) (.slice none 0 0)) 27 :: Cells g3 #[.int .u32 k0, .int .u32 k1, .int .i64 k2, .int .i64 k3, .int .i64 k4] 46 :: []))) := Lib.hid hN13
                  clear hN13 rr
                  refine hK.out _ _ ⟨cell_of (HU13.out.block 7 rfl) rfl, cell_of (HU13.out.block 7 rfl) rfl, cell_of (HU13.out.block 7 rfl) rfl, cell_of (HU13.out.block 7 rfl) rfl, cell_of (HU13.out.block 7 rfl) rfl⟩ (fun hS => ?_)
                  clear hK K'
                  try simp only [Act.put, List.setIfInBounds_toArray, List.set_cons_zero, List.set_cons_succ]
                  refine e_last (i := 7) rfl (by kernel_rfl) (fun K' hK => ?_)
                  have hF := HU13.out.setFull 6 rfl (xs := (plC 1 7 0 (.slice ap ([] : List UInt8).length np) (.slice ar ([] : List Rec).length nr)).toList) (b := gA) (C := (plC 0 0 0 (.slice none 0 0) (.slice none 0 0))) (T := 27) rfl
                  refine store_step (by rfl) 27 (.tmp 12) (.tmp 87) (by rfl) gA 0 (plC 1 7 0 (.slice ap ([] : List UInt8).length np) (.slice ar ([] : List Rec).length nr)) (by rfl) (by rfl) (there_of (C := (plC 0 0 0 (.slice none 0 0) (.slice none 0 0))) (T := 27) (HU13.out.block 6 rfl)) (by kernel_rfl) (plC_all _ _ _ _ _ _ _ _ _) ?_
                  refine hK.out _ _ ?_
                  clear hK K' hS
                  go_wp2_with fail
                  go_meet
                  exact ⟨gA, _, _, rfl, hF.sel2 (R1 := [_, _, _, _, _, _, _, _]) [6, 0, 1, 2, 3, 4, 5, 7] (by decide) rfl⟩
              case rest =>
                obtain ⟨g4, vp4, vr, rfl, ho⟩ := hcut
                obtain ⟨F8, r8⟩ := ho.get 2 rfl
                obtain ⟨ar4, nr4, rfl, -, -, -⟩ := RowA.shape r8
                have ho6 : In [] w wc (FA bt 8 100 [] :: ChL cb c1R vl vt (Cells g3 #[.int .u32 k0, .int .u32 k1, .int .i64 k2, .int .i64 k3, .int .i64 k4] 46 :: Cells g4 (plC 1 7 0 vp4 (.slice ar4 0 nr4)) 27 :: [])) := ho.sel2 (R1 := [_, _, _, _, _, _, _, _]) [3, 4, 5, 6, 7, 0] (by decide) rfl
                clear ho r8 KM KP HD1
                go_upto_region 18 with fail
                generalize wc = W6 at *
                have HD1 := ho6.drewN 1
                clear ho6
                go_cut [13] (fun x9 wx => ∃ g5 vp vr, x9 = .pointer (some ⟨g5, 0, none⟩) ∧ In [] w wx (Cells g5 (plC 1 11 0 vp vr) 27 :: ByR vp [] :: RecR vr [] :: FA bt 8 100 [] :: ChL cb c1R vl vt (Cells g3 #[.int .u32 k0, .int .u32 k1, .int .i64 k2, .int .i64 k3, .int .i64 k4] 46 :: Cells g4 (plC 1 7 0 vp4 (.slice ar4 0 nr4)) 27 :: [])))
                case first =>
                  have HD : Hid (In [] w W6.drew (FA bt 8 100 [] :: ChL cb c1R vl vt (Cells g3 #[.int .u32 k0, .int .u32 k1, .int .i64 k2, .int .i64 k3, .int .i64 k4] 46 :: Cells g4 (plC 1 7 0 vp4 (.slice ar4 0 nr4)) 27 :: []))) := Lib.hid HD1
                  have KC := KC
                  have KM := KMH
                  have KP := KPH
                  clear HD1 KMH KPH
                  refine e_start (fun w' => w'.cell? ⟨g3, 0, none⟩ = some (.int .u32 k0) ∧ w'.cell? ⟨g3, 1, none⟩ = some (.int .u32 k1) ∧ w'.cell? ⟨g3, 2, none⟩ = some (.int .i64 k2) ∧ w'.cell? ⟨g3, 3, none⟩ = some (.int .i64 k3) ∧ w'.cell? ⟨g3, 4, none⟩ = some (.int .i64 k4)) (by kernel_rfl) ⟨cell_of (HD.out.block 4 rfl) rfl, cell_of (HD.out.block 4 rfl) rfl, cell_of (HD.out.block 4 rfl) rfl, cell_of (HD.out.block 4 rfl) rfl, cell_of (HD.out.block 4 rfl) rfl⟩ (fun hS => ?_)
                  generalize W6.drew = VD at *
                  refine e_take (i := 1) (v := ?_) rfl (by kernel_rfl) (fun _ _ _ h => h) (by rfl) ?_ hS ?_
                  rotate_left
                  · (intro w hSw; (try dsimp only at hSw); go_simp; try with_reducible rfl)
                  try simp only [Act.put, List.setIfInBounds_toArray, List.set_cons_zero, List.set_cons_succ]
                  refine e_take (i := 2) (v := ?_) rfl (by kernel_rfl) (fun _ _ _ h => h) (by rfl) ?_ hS ?_
                  rotate_left
                  · (intro w hSw; (try dsimp only at hSw); go_simp; try with_reducible rfl)
                  try simp only [Act.put, List.setIfInBounds_toArray, List.set_cons_zero, List.set_cons_succ]
                  refine e_take (i := 3) (v := ?_) rfl (by kernel_rfl) (fun _ _ _ h => h) (by rfl) ?_ hS ?_
                  rotate_left
                  · (intro w hSw; (try dsimp only at hSw); go_simp; try with_reducible rfl)
                  try simp only [Act.put, List.setIfInBounds_toArray, List.set_cons_zero, List.set_cons_succ]
                  refine e_take (i := 4) (v := ?_) rfl (by kernel_rfl) (fun _ _ _ h => h) (by rfl) ?_ hS ?_
                  rotate_left
                  · (intro w hSw; (try dsimp only at hSw); go_simp; try with_reducible rfl)
                  try simp only [Act.put, List.setIfInBounds_toArray, List.set_cons_zero, List.set_cons_succ]
                  refine e_three (i := 0) (j := 5) (k := 8) rfl rfl rfl (by kernel_rfl) (fun K' hK => ?_) (fun K' hK => ?_) (fun K' hK => ?_)
                  · go_simp
                    go_at_call 7
                    refine (KC.out _ _ HD.out).mono ?_
                    rintro e u1 ⟨rfl, hN1⟩
                    have HU1 : Hid (In [] w u1 (FA bt 8 100 [] :: ChL cb c1R vl vt (Cells g3 #[.int .u32 k0, .int .u32 k1, .int .i64 k2, .int .i64 k3, .int .i64 k4] 46 :: Cells g4 (plC 1 7 0 vp4 (.slice ar4 0 nr4)) 27 :: []))) := Lib.hid hN1
                    clear hN1
                    refine hK.out _ _ ⟨cell_of (HU1.out.block 4 rfl) rfl, cell_of (HU1.out.block 4 rfl) rfl, cell_of (HU1.out.block 4 rfl) rfl, cell_of (HU1.out.block 4 rfl) rfl, cell_of (HU1.out.block 4 rfl) rfl⟩ (fun hS => ?_)
                    clear hK K'
                    try simp only [Act.put, List.setIfInBounds_toArray, List.set_cons_zero, List.set_cons_succ]
                    refine e_two (i := 5) (j := 8) rfl rfl (by kernel_rfl) (fun K' hK => ?_) (fun K' hK => ?_)
                    · have hmk2 := HMK.out u1
                      go_simp
                      clear hmk2
                      have hA2 := HKR.out _ _ HU1.out
                      generalize u1.heap.size = gK at *
                      generalize (u1.alloc (.cells CZ 5)) = u2 at *
                      have HU2 : Hid (In [] w u2 (FA bt 8 100 [] :: ChL cb c1R vl vt (ByR (.slice (some ⟨gK, 0, none⟩) sz sz) body :: Cells g3 #[.int .u32 k0, .int .u32 k1, .int .i64 k2, .int .i64 k3, .int .i64 k4] 46 :: Cells g4 (plC 1 7 0 vp4 (.slice ar4 0 nr4)) 27 :: []))) := Lib.hid (hA2.sel2 (R1 := [_, _, _, _, _, _]) [1, 2, 3, 4, 0, 5] (by decide) rfl)
                      clear hA2
                      refine hK.out _ _ ⟨cell_of (HU2.out.block 5 rfl) rfl, cell_of (HU2.out.block 5 rfl) rfl, cell_of (HU2.out.block 5 rfl) rfl, cell_of (HU2.out.block 5 rfl) rfl, cell_of (HU2.out.block 5 rfl) rfl⟩ (fun hS => ?_)
                      clear hK K'
                      try simp only [Act.put, List.setIfInBounds_toArray, List.set_cons_zero, List.set_cons_succ]
                      refine e_two (i := 6) (j := 8) rfl rfl (by kernel_rfl) (fun K' hK => ?_) (fun K' hK => ?_)
                      · go_simp
                        go_at_call 13
                        refine (KM.out _ gK _ 4 rfl HU2.out).mono ?_
                        rintro e u3 ⟨vM, rfl, hN3⟩
                        obtain ⟨aM, nM, rfl⟩ := ByR.shape hN3
                        have HU3 : Hid (In [] w u3 (ByR (.slice aM mm.length nM) mm :: FA bt 8 100 [] :: ChL cb c1R vl vt (ByR (.slice (some ⟨gK, 0, none⟩) sz sz) body :: Cells g3 #[.int .u32 k0, .int .u32 k1, .int .i64 k2, .int .i64 k3, .int .i64 k4] 46 :: Cells g4 (plC 1 7 0 vp4 (.slice ar4 0 nr4)) 27 :: []))) := Lib.hid hN3
                        clear hN3
                        refine hK.out _ _ ⟨cell_of (HU3.out.block 6 rfl) rfl, cell_of (HU3.out.block 6 rfl) rfl, cell_of (HU3.out.block 6 rfl) rfl, cell_of (HU3.out.block 6 rfl) rfl, cell_of (HU3.out.block 6 rfl) rfl⟩ (fun hS => ?_)
                        clear hK K'
                        try simp only [Act.put, List.setIfInBounds_toArray, List.set_cons_zero, List.set_cons_succ]
                        refine e_two (i := 7) (j := 8) rfl rfl (by kernel_rfl) (fun K' hK => ?_) (fun K' hK => ?_)
                        · go_simp
                          go_at_call 6
                          refine (KP.out _ _ _ _ HU3.out).mono ?_
                          rintro e u4 ⟨vp, vr, rfl, hN4⟩
                          obtain ⟨ap, np, rfl⟩ := ByR.shape hN4
                          obtain ⟨Fr, rr⟩ := hN4.get 1 rfl
                          obtain ⟨ar, nr, rfl, -, -, -⟩ := RowA.shape rr
                          have HU4 : Hid (In [] w u4 (ByR (.slice ap ([] : List UInt8).length np) ([] : List UInt8) :: RecR (.slice ar ([] : List Rec).length nr) ([] : List Rec) :: FA bt 8 100 [] :: ChL cb c1R vl vt (ByR (.slice (some ⟨gK, 0, none⟩) sz sz) body :: Cells g3 #[.int .u32 k0, .int .u32 k1, .int .i64 k2, .int .i64 k3, .int .i64 k4] 46 :: Cells g4 (plC 1 7 0 vp4 (.slice ar4 0 nr4)) 27 :: []))) := Lib.hid hN4
                          clear hN4 rr
                          refine hK.out _ _ ⟨cell_of (HU4.out.block 7 rfl) rfl, cell_of (HU4.out.block 7 rfl) rfl, cell_of (HU4.out.block 7 rfl) rfl, cell_of (HU4.out.block 7 rfl) rfl, cell_of (HU4.out.block 7 rfl) rfl⟩ (fun hS => ?_)
                          clear hK K'
                          try simp only [Act.put, List.setIfInBounds_toArray, List.set_cons_zero, List.set_cons_succ]
                          refine e_pin (i := 8) rfl (by kernel_rfl) (fun K' hK => ?_)
                          go_simp
                          have hA5 := HU4.out.cells (plC 0 0 0 (.slice none 0 0) (.slice none 0 0)) 27
                          generalize u4.heap.size = gA at *
                          generalize (u4.alloc (.cells (plC 0 0 0 (.slice none 0 0) (.slice none 0 0)) 27)) = u5 at *
                          have HU5 : Hid (In [] w u5 (ByR (.slice ap ([] : List UInt8).length np) ([] : List UInt8) :: RecR (.slice ar ([] : List Rec).length nr) ([] : List Rec) :: FA bt 8 100 [] :: ChL cb c1R vl vt (Cells gA (plC 0 0 0 (.slice none 0 0) (.slice none 0 0)) 27 :: ByR (.slice (some ⟨gK, 0, none⟩) sz sz) body :: Cells g3 #[.int .u32 k0, .int .u32 k1, .int .i64 k2, .int .i64 k3, .int .i64 k4] 46 :: Cells g4 (plC 1 7 0 vp4 (.slice ar4 0 nr4)) 27 :: []))) := Lib.hid (hA5.sel2 (R1 := [_, _, _, _, _, _, _, _, _]) [1, 2, 3, 4, 5, 6, 0, 7, 8] (by decide) rfl)
                          clear hA5
                          refine hK.out _ _ ⟨cell_of (HU5.out.block 8 rfl) rfl, cell_of (HU5.out.block 8 rfl) rfl, cell_of (HU5.out.block 8 rfl) rfl, cell_of (HU5.out.block 8 rfl) rfl, cell_of (HU5.out.block 8 rfl) rfl⟩ (fun hS => ?_)
                          clear hK K'
                          try simp only [Act.put, List.setIfInBounds_toArray, List.set_cons_zero, List.set_cons_succ]
                          refine e_last (i := 9) rfl (by kernel_rfl) (fun K' hK => ?_)
                          have hF := HU5.out.setFull 6 rfl (xs := (plC 1 11 0 (.slice ap ([] : List UInt8).length np) (.slice ar ([] : List Rec).length nr)).toList) (b := gA) (C := (plC 0 0 0 (.slice none 0 0) (.slice none 0 0))) (T := 27) rfl
                          refine store_step (by rfl) 27 (.tmp 13) (.tmp 95) (by rfl) gA 0 (plC 1 11 0 (.slice ap ([] : List UInt8).length np) (.slice ar ([] : List Rec).length nr)) (by rfl) (by rfl) (there_of (C := (plC 0 0 0 (.slice none 0 0) (.slice none 0 0))) (T := 27) (HU5.out.block 6 rfl)) (by kernel_rfl) (plC_all _ _ _ _ _ _ _ _ _) ?_
                          refine hK.out _ _ ?_
                          clear hK K' hS
                          go_wp2_with fail
                          go_meet
                          exact ⟨gA, _, _, rfl, hF.sel2 (R1 := [_, _, _, _, _, _, _, _, _]) [6, 0, 1, 2, 3, 4, 5, 8] (by decide) rfl⟩
                        · go_simp
                          have hA6 := HU3.out.cells (plC 0 0 0 (.slice none 0 0) (.slice none 0 0)) 27
                          generalize u3.heap.size = gA at *
                          generalize (u3.alloc (.cells (plC 0 0 0 (.slice none 0 0) (.slice none 0 0)) 27)) = u6 at *
                          have HU6 : Hid (In [] w u6 (ByR (.slice aM mm.length nM) mm :: FA bt 8 100 [] :: ChL cb c1R vl vt (Cells gA (plC 0 0 0 (.slice none 0 0) (.slice none 0 0)) 27 :: ByR (.slice (some ⟨gK, 0, none⟩) sz sz) body :: Cells g3 #[.int .u32 k0, .int .u32 k1, .int .i64 k2, .int .i64 k3, .int .i64 k4] 46 :: Cells g4 (plC 1 7 0 vp4 (.slice ar4 0 nr4)) 27 :: []))) := Lib.hid (hA6.sel2 (R1 := [_, _, _, _, _, _, _, _]) [1, 2, 3, 4, 5, 0, 6, 7] (by decide) rfl)
                          clear hA6
                          refine hK.out _ _ ⟨cell_of (HU6.out.block 7 rfl) rfl, cell_of (HU6.out.block 7 rfl) rfl, cell_of (HU6.out.block 7 rfl) rfl, cell_of (HU6.out.block 7 rfl) rfl, cell_of (HU6.out.block 7 rfl) rfl⟩ (fun hS => ?_)
                          clear hK K'
                          try simp only [Act.put, List.setIfInBounds_toArray, List.set_cons_zero, List.set_cons_succ]
                          refine e_pin (i := 7) rfl (by kernel_rfl) (fun K' hK => ?_)
                          go_simp
                          go_at_call 6
                          refine (KP.out _ _ _ _ HU6.out).mono ?_
                          rintro e u7 ⟨vp, vr, rfl, hN7⟩
                          obtain ⟨ap, np, rfl⟩ := ByR.shape hN7
                          obtain ⟨Fr, rr⟩ := hN7.get 1 rfl
                          obtain ⟨ar, nr, rfl, -, -, -⟩ := RowA.shape rr
                          have HU7 : Hid (In [] w u7 (ByR (.slice ap ([] : List UInt8).length np) ([] : List UInt8) :: RecR (.slice ar ([] : List Rec).length nr) ([] : List Rec) :: FA bt 8 100 [] :: ChL cb c1R vl vt (Cells gA (plC 0 0 0 (.slice none 0 0) (.slice none 0 0)) 27 :: ByR (.slice (some ⟨gK, 0, none⟩) sz sz) body :: Cells g3 #[.int .u32 k0, .int .u32 k1, .int .i64 k2, .int .i64 k3, .int .i64 k4] 46 :: Cells g4 (plC 1 7 0 vp4 (.slice ar4 0 nr4)) 27 :: []))) := Lib.hid hN7
                          clear hN7 rr
                          refine hK.out _ _ ⟨cell_of (HU7.out.block 8 rfl) rfl, cell_of (HU7.out.block 8 rfl) rfl, cell_of (HU7.out.block 8 rfl) rfl, cell_of (HU7.out.block 8 rfl) rfl, cell_of (HU7.out.block 8 rfl) rfl⟩ (fun hS => ?_)
                          clear hK K'
                          try simp only [Act.put, List.setIfInBounds_toArray, List.set_cons_zero, List.set_cons_succ]
                          refine e_last (i := 9) rfl (by kernel_rfl) (fun K' hK => ?_)
                          have hF := HU7.out.setFull 6 rfl (xs := (plC 1 11 0 (.slice ap ([] : List UInt8).length np) (.slice ar ([] : List Rec).length nr)).toList) (b := gA) (C := (plC 0 0 0 (.slice none 0 0) (.slice none 0 0))) (T := 27) rfl
                          refine store_step (by rfl) 27 (.tmp 13) (.tmp 95) (by rfl) gA 0 (plC 1 11 0 (.slice ap ([] : List UInt8).length np) (.slice ar ([] : List Rec).length nr)) (by rfl) (by rfl) (there_of (C := (plC 0 0 0 (.slice none 0 0) (.slice none 0 0))) (T := 27) (HU7.out.block 6 rfl)) (by kernel_rfl) (plC_all _ _ _ _ _ _ _ _ _) ?_
                          refine hK.out _ _ ?_
                          clear hK K' hS
                          go_wp2_with fail
                          go_meet
                          exact ⟨gA, _, _, rfl, hF.sel2 (R1 := [_, _, _, _, _, _, _, _, _]) [6, 0, 1, 2, 3, 4, 5, 8] (by decide) rfl⟩
                      · go_simp
                        have hA8 := HU2.out.cells (plC 0 0 0 (.slice none 0 0) (.slice none 0 0)) 27
                        generalize u2.heap.size = gA at *
                        generalize (u2.alloc (.cells (plC 0 0 0 (.slice none 0 0) (.slice none 0 0)) 27)) = u8 at *
                        have HU8 : Hid (In [] w u8 (FA bt 8 100 [] :: ChL cb c1R vl vt (Cells gA (plC 0 0 0 (.slice none 0 0) (.slice none 0 0)) 27 :: ByR (.slice (some ⟨gK, 0, none⟩) sz sz) body :: Cells g3 #[.int .u32 k0, .int .u32 k1, .int .i64 k2, .int .i64 k3, .int .i64 k4] 46 :: Cells g4 (plC 1 7 0 vp4 (.slice ar4 0 nr4)) 27 :: []))) := Lib.hid (hA8.sel2 (R1 := [_, _, _, _, _, _, _]) [1, 2, 3, 4, 0, 5, 6] (by decide) rfl)
                        clear hA8
                        refine hK.out _ _ ⟨cell_of (HU8.out.block 6 rfl) rfl, cell_of (HU8.out.block 6 rfl) rfl, cell_of (HU8.out.block 6 rfl) rfl, cell_of (HU8.out.block 6 rfl) rfl, cell_of (HU8.out.block 6 rfl) rfl⟩ (fun hS => ?_)
                        clear hK K'
                        try simp only [Act.put, List.setIfInBounds_toArray, List.set_cons_zero, List.set_cons_succ]
                        refine e_pin (i := 6) rfl (by kernel_rfl) (fun K' hK => ?_)
                        go_simp
                        go_at_call 13
                        refine (KM.out _ gK _ 5 rfl HU8.out).mono ?_
                        rintro e u9 ⟨vM, rfl, hN9⟩
                        obtain ⟨aM, nM, rfl⟩ := ByR.shape hN9
                        have HU9 : Hid (In [] w u9 (ByR (.slice aM mm.length nM) mm :: FA bt 8 100 [] :: ChL cb c1R vl vt (Cells gA (plC 0 0 0 (.slice none 0 0) (.slice none 0 0)) 27 :: ByR (.slice (some ⟨gK, 0, none⟩) sz sz) body :: Cells g3 #[.int .u32 k0, .int .u32 k1, .int .i64 k2, .int .i64 k3, .int .i64 k4] 46 :: Cells g4 (plC 1 7 0 vp4 (.slice ar4 0 nr4)) 27 :: []))) := Lib.hid hN9
                        clear hN9
                        refine hK.out _ _ ⟨cell_of (HU9.out.block 7 rfl) rfl, cell_of (HU9.out.block 7 rfl) rfl, cell_of (HU9.out.block 7 rfl) rfl, cell_of (HU9.out.block 7 rfl) rfl, cell_of (HU9.out.block 7 rfl) rfl⟩ (fun hS => ?_)
                        clear hK K'
                        try simp only [Act.put, List.setIfInBounds_toArray, List.set_cons_zero, List.set_cons_succ]
                        refine e_pin (i := 7) rfl (by kernel_rfl) (fun K' hK => ?_)
                        go_simp
                        go_at_call 6
                        refine (KP.out _ _ _ _ HU9.out).mono ?_
                        rintro e u10 ⟨vp, vr, rfl, hN10⟩
                        obtain ⟨ap, np, rfl⟩ := ByR.shape hN10
                        obtain ⟨Fr, rr⟩ := hN10.get 1 rfl
                        obtain ⟨ar, nr, rfl, -, -, -⟩ := RowA.shape rr
                        have HU10 : Hid (In [] w u10 (ByR (.slice ap ([] : List UInt8).length np) ([] : List UInt8) :: RecR (.slice ar ([] : List Rec).length nr) ([] : List Rec) :: FA bt 8 100 [] :: ChL cb c1R vl vt (Cells gA (plC 0 0 0 (.slice none 0 0) (.slice none 0 0)) 27 :: ByR (.slice (some ⟨gK, 0, none⟩) sz sz) body :: Cells g3 #[.int .u32 k0, .int .u32 k1, .int .i64 k2, .int .i64 k3, .int .i64 k4] 46 :: Cells g4 (plC 1 7 0 vp4 (.slice ar4 0 nr4)) 27 :: []))) := Lib.hid hN10
                        clear hN10 rr
                        refine hK.out _ _ ⟨cell_of (HU10.out.block 8 rfl) rfl, cell_of (HU10.out.block 8 rfl) rfl, cell_of (HU10.out.block 8 rfl) rfl, cell_of (HU10.out.block 8 rfl) rfl, cell_of (HU10.out.block 8 rfl) rfl⟩ (fun hS => ?_)
                        clear hK K'
                        try simp only [Act.put, List.setIfInBounds_toArray, List.set_cons_zero, List.set_cons_succ]
                        refine e_last (i := 9) rfl (by kernel_rfl) (fun K' hK => ?_)
                        have hF := HU10.out.setFull 6 rfl (xs := (plC 1 11 0 (.slice ap ([] : List UInt8).length np) (.slice ar ([] : List Rec).length nr)).toList) (b := gA) (C := (plC 0 0 0 (.slice none 0 0) (.slice none 0 0))) (T := 27) rfl
                        refine store_step (by rfl) 27 (.tmp 13) (.tmp 95) (by rfl) gA 0 (plC 1 11 0 (.slice ap ([] : List UInt8).length np) (.slice ar ([] : List Rec).length nr)) (by rfl) (by rfl) (there_of (C := (plC 0 0 0 (.slice none 0 0) (.slice none 0 0))) (T := 27) (HU10.out.block 6 rfl)) (by kernel_rfl) (plC_all _ _ _ _ _ _ _ _ _) ?_
                        refine hK.out _ _ ?_
                        clear hK K' hS
                        go_wp2_with fail
                        go_meet
                        exact ⟨gA, _, _, rfl, hF.sel2 (R1 := [_, _, _, _, _, _, _, _, _]) [6, 0, 1, 2, 3, 4, 5, 8] (by decide) rfl⟩
                    · go_simp
                      have hA11 := HU1.out.cells (plC 0 0 0 (.slice none 0 0) (.slice none 0 0)) 27
                      generalize u1.heap.size = gA at *
                      generalize (u1.alloc (.cells (plC 0 0 0 (.slice none 0 0) (.slice none 0 0)) 27)) = u11 at *
                      have HU11 : Hid (In [] w u11 (FA bt 8 100 [] :: ChL cb c1R vl vt (Cells gA (plC 0 0 0 (.slice none 0 0) (.slice none 0 0)) 27 :: Cells g3 #[.int .u32 k0, .int .u32 k1, .int .i64 k2, .int .i64 k3, .int .i64 k4] 46 :: Cells g4 (plC 1 7 0 vp4 (.slice ar4 0 nr4)) 27 :: []))) := Lib.hid (hA11.sel2 (R1 := [_, _, _, _, _, _]) [1, 2, 3, 4, 0, 5] (by decide) rfl)
                      clear hA11
                      refine hK.out _ _ ⟨cell_of (HU11.out.block 5 rfl) rfl, cell_of (HU11.out.block 5 rfl) rfl, cell_of (HU11.out.block 5 rfl) rfl, cell_of (HU11.out.block 5 rfl) rfl, cell_of (HU11.out.block 5 rfl) rfl⟩ (fun hS => ?_)
                      clear hK K'
                      try simp only [Act.put, List.setIfInBounds_toArray, List.set_cons_zero, List.set_cons_succ]
                      refine e_pin (i := 5) rfl (by kernel_rfl) (fun K' hK => ?_)
                      have hmk12 := HMK.out u11
                      go_simp
                      clear hmk12
                      have hA12 := HKR.out _ _ HU11.out
                      generalize u11.heap.size = gK at *
                      generalize (u11.alloc (.cells CZ 5)) = u12 at *
                      have HU12 : Hid (In [] w u12 (FA bt 8 100 [] :: ChL cb c1R vl vt (Cells gA (plC 0 0 0 (.slice none 0 0) (.slice none 0 0)) 27 :: ByR (.slice (some ⟨gK, 0, none⟩) sz sz) body :: Cells g3 #[.int .u32 k0, .int .u32 k1, .int .i64 k2, .int .i64 k3, .int .i64 k4] 46 :: Cells g4 (plC 1 7 0 vp4 (.slice ar4 0 nr4)) 27 :: []))) := Lib.hid (hA12.sel2 (R1 := [_, _, _, _, _, _, _]) [1, 2, 3, 4, 5, 0, 6] (by decide) rfl)
                      clear hA12
                      refine hK.out _ _ ⟨cell_of (HU12.out.block 6 rfl) rfl, cell_of (HU12.out.block 6 rfl) rfl, cell_of (HU12.out.block 6 rfl) rfl, cell_of (HU12.out.block 6 rfl) rfl, cell_of (HU12.out.block 6 rfl) rfl⟩ (fun hS => ?_)
                      clear hK K'
                      try simp only [Act.put, List.setIfInBounds_toArray, List.set_cons_zero, List.set_cons_succ]
                      refine e_pin (i := 6) rfl (by kernel_rfl) (fun K' hK => ?_)
                      go_simp
                      go_at_call 13
                      refine (KM.out _ gK _ 5 rfl HU12.out).mono ?_
                      rintro e u13 ⟨vM, rfl, hN13⟩
                      obtain ⟨aM, nM, rfl⟩ := ByR.shape hN13
                      have HU13 : Hid (In [] w u13 (ByR (.slice aM mm.length nM) mm :: FA bt 8 100 [] :: ChL cb c1R vl vt (Cells gA (plC 0 0 0 (.slice none 0 0) (.slice none 0 0)) 27 :: ByR (.slice (some ⟨gK, 0, none⟩) sz sz) body :: Cells g3 #[.int .u32 k0, .int .u32 k1, .int .i64 k2, .int .i64 k3, .int .i64 k4] 46 :: Cells g4 (plC 1 7 0 vp4 (.slice ar4 0 nr4)) 27 :: []))) := Lib.hid hN13
                      clear hN13
                      refine hK.out _ _ ⟨cell_of (HU13.out.block 7 rfl) rfl, cell_of (HU13.out.block 7 rfl) rfl, cell_of (HU13.out.block 7 rfl) rfl, cell_of (HU13.out.block 7 rfl) rfl, cell_of (HU13.out.block 7 rfl) rfl⟩ (fun hS => ?_)
                      clear hK K'
                      try simp only [Act.put, List.setIfInBounds_toArray, List.set_cons_zero, List.set_cons_succ]
                      refine e_pin (i := 7) rfl (by kernel_rfl) (fun K' hK => ?_)
                      go_simp
                      go_at_call 6
                      refine (KP.out _ _ _ _ HU13.out).mono ?_
                      rintro e u14 ⟨vp, vr, rfl, hN14⟩
                      obtain ⟨ap, np, rfl⟩ := ByR.shape hN14
                      obtain ⟨Fr, rr⟩ := hN14.get 1 rfl
                      obtain ⟨ar, nr, rfl, -, -, -⟩ := RowA.shape rr
                      have HU14 : Hid (In [] w u14 (ByR (.slice ap ([] : List UInt8).length np) ([] : List UInt8) :: RecR (.slice ar ([] : List Rec).length nr) ([] : List Rec) :: FA bt 8 100 [] :: ChL cb c1R vl vt (Cells gA (plC 0 0 0 (.slice none 0 0) (.slice none 0 0)) 27 :: ByR (.slice (some ⟨gK, 0, none⟩) sz sz) body :: Cells g3 #[.int .u32 k0, .int .u32 k1, .int .i64 k2, .int .i64 k3, .int .i64 k4] 46 :: Cells g4 (plC 1 7 0 vp4 (.slice ar4 0 nr4)) 27 :: []))) := Lib.hid hN14
                      clear hN14 rr
                      refine hK.out _ _ ⟨cell_of (HU14.out.block 8 rfl) rfl, cell_of (HU14.out.block 8 rfl) rfl, cell_of (HU14.out.block 8 rfl) rfl, cell_of (HU14.out.block 8 rfl) rfl, cell_of (HU14.out.block 8 rfl) rfl⟩ (fun hS => ?_)
                      clear hK K'
                      try simp only [Act.put, List.setIfInBounds_toArray, List.set_cons_zero, List.set_cons_succ]
                      refine e_last (i := 9) rfl (by kernel_rfl) (fun K' hK => ?_)
                      have hF := HU14.out.setFull 6 rfl (xs := (plC 1 11 0 (.slice ap ([] : List UInt8).length np) (.slice ar ([] : List Rec).length nr)).toList) (b := gA) (C := (plC 0 0 0 (.slice none 0 0) (.slice none 0 0))) (T := 27) rfl
                      refine store_step (by rfl) 27 (.tmp 13) (.tmp 95) (by rfl) gA 0 (plC 1 11 0 (.slice ap ([] : List UInt8).length np) (.slice ar ([] : List Rec).length nr)) (by rfl) (by rfl) (there_of (C := (plC 0 0 0 (.slice none 0 0) (.slice none 0 0))) (T := 27) (HU14.out.block 6 rfl)) (by kernel_rfl) (plC_all _ _ _ _ _ _ _ _ _) ?_
                      refine hK.out _ _ ?_
                      clear hK K' hS
                      go_wp2_with fail
                      go_meet
                      exact ⟨gA, _, _, rfl, hF.sel2 (R1 := [_, _, _, _, _, _, _, _, _]) [6, 0, 1, 2, 3, 4, 5, 8] (by decide) rfl⟩
                  · have hmk15 := HMK.out VD
                    go_simp
                    clear hmk15
                    have hA15 := HKR.out _ _ HD.out
                    generalize VD.heap.size = gK at *
                    generalize (VD.alloc (.cells CZ 5)) = u15 at *
                    have HU15 : Hid (In [] w u15 (FA bt 8 100 [] :: ChL cb c1R vl vt (ByR (.slice (some ⟨gK, 0, none⟩) sz sz) body :: Cells g3 #[.int .u32 k0, .int .u32 k1, .int .i64 k2, .int .i64 k3, .int .i64 k4] 46 :: Cells g4 (plC 1 7 0 vp4 (.slice ar4 0 nr4)) 27 :: []))) := Lib.hid (hA15.sel2 (R1 := [_, _, _, _, _, _]) [1, 2, 3, 4, 0, 5] (by decide) rfl)
                    clear hA15
                    refine hK.out _ _ ⟨cell_of (HU15.out.block 5 rfl) rfl, cell_of (HU15.out.block 5 rfl) rfl, cell_of (HU15.out.block 5 rfl) rfl, cell_of (HU15.out.block 5 rfl) rfl, cell_of (HU15.out.block 5 rfl) rfl⟩ (fun hS => ?_)
                    clear hK K'
                    try simp only [Act.put, List.setIfInBounds_toArray, List.set_cons_zero, List.set_cons_succ]
                    refine e_two (i := 0) (j := 8) rfl rfl (by kernel_rfl) (fun K' hK => ?_) (fun K' hK => ?_)
                    · go_simp
                      go_at_call 7
                      refine (KC.out _ _ HU15.out).mono ?_
                      rintro e u16 ⟨rfl, hN16⟩
                      have HU16 : Hid (In [] w u16 (FA bt 8 100 [] :: ChL cb c1R vl vt (ByR (.slice (some ⟨gK, 0, none⟩) sz sz) body :: Cells g3 #[.int .u32 k0, .int .u32 k1, .int .i64 k2, .int .i64 k3, .int .i64 k4] 46 :: Cells g4 (plC 1 7 0 vp4 (.slice ar4 0 nr4)) 27 :: []))) := Lib.hid hN16
                      clear hN16
                      refine hK.out _ _ ⟨cell_of (HU16.out.block 5 rfl) rfl, cell_of (HU16.out.block 5 rfl) rfl, cell_of (HU16.out.block 5 rfl) rfl, cell_of (HU16.out.block 5 rfl) rfl, cell_of (HU16.out.block 5 rfl) rfl⟩ (fun hS => ?_)
                      clear hK K'
                      try simp only [Act.put, List.setIfInBounds_toArray, List.set_cons_zero, List.set_cons_succ]
                      refine e_two (i := 6) (j := 8) rfl rfl (by kernel_rfl) (fun K' hK => ?_) (fun K' hK => ?_)
                      · go_simp
                        go_at_call 13
                        refine (KM.out _ gK _ 4 rfl HU16.out).mono ?_
                        rintro e u17 ⟨vM, rfl, hN17⟩
                        obtain ⟨aM, nM, rfl⟩ := ByR.shape hN17
                        have HU17 : Hid (In [] w u17 (ByR (.slice aM mm.length nM) mm :: FA bt 8 100 [] :: ChL cb c1R vl vt (ByR (.slice (some ⟨gK, 0, none⟩) sz sz) body :: Cells g3 #[.int .u32 k0, .int .u32 k1, .int .i64 k2, .int .i64 k3, .int .i64 k4] 46 :: Cells g4 (plC 1 7 0 vp4 (.slice ar4 0 nr4)) 27 :: []))) := Lib.hid hN17
                        clear hN17
                        refine hK.out _ _ ⟨cell_of (HU17.out.block 6 rfl) rfl, cell_of (HU17.out.block 6 rfl) rfl, cell_of (HU17.out.block 6 rfl) rfl, cell_of (HU17.out.block 6 rfl) rfl, cell_of (HU17.out.block 6 rfl) rfl⟩ (fun hS => ?_)
                        clear hK K'
                        try simp only [Act.put, List.setIfInBounds_toArray, List.set_cons_zero, List.set_cons_succ]
                        refine e_two (i := 7) (j := 8) rfl rfl (by kernel_rfl) (fun K' hK => ?_) (fun K' hK => ?_)
                        · go_simp
                          go_at_call 6
                          refine (KP.out _ _ _ _ HU17.out).mono ?_
                          rintro e u18 ⟨vp, vr, rfl, hN18⟩
                          obtain ⟨ap, np, rfl⟩ := ByR.shape hN18
                          obtain ⟨Fr, rr⟩ := hN18.get 1 rfl
                          obtain ⟨ar, nr, rfl, -, -, -⟩ := RowA.shape rr
                          have HU18 : Hid (In [] w u18 (ByR (.slice ap ([] : List UInt8).length np) ([] : List UInt8) :: RecR (.slice ar ([] : List Rec).length nr) ([] : List Rec) :: FA bt 8 100 [] :: ChL cb c1R vl vt (ByR (.slice (some ⟨gK, 0, none⟩) sz sz) body :: Cells g3 #[.int .u32 k0, .int .u32 k1, .int .i64 k2, .int .i64 k3, .int .i64 k4] 46 :: Cells g4 (plC 1 7 0 vp4 (.slice ar4 0 nr4)) 27 :: []))) := Lib.hid hN18
                          clear hN18 rr
                          refine hK.out _ _ ⟨cell_of (HU18.out.block 7 rfl) rfl, cell_of (HU18.out.block 7 rfl) rfl, cell_of (HU18.out.block 7 rfl) rfl, cell_of (HU18.out.block 7 rfl) rfl, cell_of (HU18.out.block 7 rfl) rfl⟩ (fun hS => ?_)
                          clear hK K'
                          try simp only [Act.put, List.setIfInBounds_toArray, List.set_cons_zero, List.set_cons_succ]
                          refine e_pin (i := 8) rfl (by kernel_rfl) (fun K' hK => ?_)
                          go_simp
                          have hA19 := HU18.out.cells (plC 0 0 0 (.slice none 0 0) (.slice none 0 0)) 27
                          generalize u18.heap.size = gA at *
                          generalize (u18.alloc (.cells (plC 0 0 0 (.slice none 0 0) (.slice none 0 0)) 27)) = u19 at *
                          have HU19 : Hid (In [] w u19 (ByR (.slice ap ([] : List UInt8).length np) ([] : List UInt8) :: RecR (.slice ar ([] : List Rec).length nr) ([] : List Rec) :: FA bt 8 100 [] :: ChL cb c1R vl vt (Cells gA (plC 0 0 0 (.slice none 0 0) (.slice none 0 0)) 27 :: ByR (.slice (some ⟨gK, 0, none⟩) sz sz) body :: Cells g3 #[.int .u32 k0, .int .u32 k1, .int .i64 k2, .int .i64 k3, .int .i64 k4] 46 :: Cells g4 (plC 1 7 0 vp4 (.slice ar4 0 nr4)) 27 :: []))) := Lib.hid (hA19.sel2 (R1 := [_, _, _, _, _, _, _, _, _]) [1, 2, 3, 4, 5, 6, 0, 7, 8] (by decide) rfl)
                          clear hA19
                          refine hK.out _ _ ⟨cell_of (HU19.out.block 8 rfl) rfl, cell_of (HU19.out.block 8 rfl) rfl, cell_of (HU19.out.block 8 rfl) rfl, cell_of (HU19.out.block 8 rfl) rfl, cell_of (HU19.out.block 8 rfl) rfl⟩ (fun hS => ?_)
                          clear hK K'
                          try simp only [Act.put, List.setIfInBounds_toArray, List.set_cons_zero, List.set_cons_succ]
                          refine e_last (i := 9) rfl (by kernel_rfl) (fun K' hK => ?_)
                          have hF := HU19.out.setFull 6 rfl (xs := (plC 1 11 0 (.slice ap ([] : List UInt8).length np) (.slice ar ([] : List Rec).length nr)).toList) (b := gA) (C := (plC 0 0 0 (.slice none 0 0) (.slice none 0 0))) (T := 27) rfl
                          refine store_step (by rfl) 27 (.tmp 13) (.tmp 95) (by rfl) gA 0 (plC 1 11 0 (.slice ap ([] : List UInt8).length np) (.slice ar ([] : List Rec).length nr)) (by rfl) (by rfl) (there_of (C := (plC 0 0 0 (.slice none 0 0) (.slice none 0 0))) (T := 27) (HU19.out.block 6 rfl)) (by kernel_rfl) (plC_all _ _ _ _ _ _ _ _ _) ?_
                          refine hK.out _ _ ?_
                          clear hK K' hS
                          go_wp2_with fail
                          go_meet
                          exact ⟨gA, _, _, rfl, hF.sel2 (R1 := [_, _, _, _, _, _, _, _, _]) [6, 0, 1, 2, 3, 4, 5, 8] (by decide) rfl⟩
                        · go_simp
                          have hA20 := HU17.out.cells (plC 0 0 0 (.slice none 0 0) (.slice none 0 0)) 27
                          generalize u17.heap.size = gA at *
                          generalize (u17.alloc (.cells (plC 0 0 0 (.slice none 0 0) (.slice none 0 0)) 27)) = u20 at *
                          have HU20 : Hid (In [] w u20 (ByR (.slice aM mm.length nM) mm :: FA bt 8 100 [] :: ChL cb c1R vl vt (Cells gA (plC 0 0 0 (.slice none 0 0) (.slice none 0 0)) 27 :: ByR (.slice (some ⟨gK, 0, none⟩) sz sz) body :: Cells g3 #[.int .u32 k0, .int .u32 k1, .int .i64 k2, .int .i64 k3, .int .i64 k4] 46 :: Cells g4 (plC 1 7 0 vp4 (.slice ar4 0 nr4)) 27 :: []))) := Lib.hid (hA20.sel2 (R1 := [_, _, _, _, _, _, _, _]) [1, 2, 3, 4, 5, 0, 6, 7] (by decide) rfl)
                          clear hA20
                          refine hK.out _ _ ⟨cell_of (HU20.out.block 7 rfl) rfl, cell_of (HU20.out.block 7 rfl) rfl, cell_of (HU20.out.block 7 rfl) rfl, cell_of (HU20.out.block 7 rfl) rfl, cell_of (HU20.out.block 7 rfl) rfl⟩ (fun hS => ?_)
                          clear hK K'
                          try simp only [Act.put, List.setIfInBounds_toArray, List.set_cons_zero, List.set_cons_succ]
                          refine e_pin (i := 7) rfl (by kernel_rfl) (fun K' hK => ?_)
                          go_simp
                          go_at_call 6
                          refine (KP.out _ _ _ _ HU20.out).mono ?_
                          rintro e u21 ⟨vp, vr, rfl, hN21⟩
                          obtain ⟨ap, np, rfl⟩ := ByR.shape hN21
                          obtain ⟨Fr, rr⟩ := hN21.get 1 rfl
                          obtain ⟨ar, nr, rfl, -, -, -⟩ := RowA.shape rr
                          have HU21 : Hid (In [] w u21 (ByR (.slice ap ([] : List UInt8).length np) ([] : List UInt8) :: RecR (.slice ar ([] : List Rec).length nr) ([] : List Rec) :: FA bt 8 100 [] :: ChL cb c1R vl vt (Cells gA (plC 0 0 0 (.slice none 0 0) (.slice none 0 0)) 27 :: ByR (.slice (some ⟨gK, 0, none⟩) sz sz) body :: Cells g3 #[.int .u32 k0, .int .u32 k1, .int .i64 k2, .int .i64 k3, .int .i64 k4] 46 :: Cells g4 (plC 1 7 0 vp4 (.slice ar4 0 nr4)) 27 :: []))) := Lib.hid hN21
                          clear hN21 rr
                          refine hK.out _ _ ⟨cell_of (HU21.out.block 8 rfl) rfl, cell_of (HU21.out.block 8 rfl) rfl, cell_of (HU21.out.block 8 rfl) rfl, cell_of (HU21.out.block 8 rfl) rfl, cell_of (HU21.out.block 8 rfl) rfl⟩ (fun hS => ?_)
                          clear hK K'
                          try simp only [Act.put, List.setIfInBounds_toArray, List.set_cons_zero, List.set_cons_succ]
                          refine e_last (i := 9) rfl (by kernel_rfl) (fun K' hK => ?_)
                          have hF := HU21.out.setFull 6 rfl (xs := (plC 1 11 0 (.slice ap ([] : List UInt8).length np) (.slice ar ([] : List Rec).length nr)).toList) (b := gA) (C := (plC 0 0 0 (.slice none 0 0) (.slice none 0 0))) (T := 27) rfl
                          refine store_step (by rfl) 27 (.tmp 13) (.tmp 95) (by rfl) gA 0 (plC 1 11 0 (.slice ap ([] : List UInt8).length np) (.slice ar ([] : List Rec).length nr)) (by rfl) (by rfl) (there_of (C := (plC 0 0 0 (.slice none 0 0) (.slice none 0 0))) (T := 27) (HU21.out.block 6 rfl)) (by kernel_rfl) (plC_all _ _ _ _ _ _ _ _ _) ?_
                          refine hK.out _ _ ?_
                          clear hK K' hS
                          go_wp2_with fail
                          go_meet
                          exact ⟨gA, _, _, rfl, hF.sel2 (R1 := [_, _, _, _, _, _, _, _, _]) [6, 0, 1, 2, 3, 4, 5, 8] (by decide) rfl⟩
                      · go_simp
                        have hA22 := HU16.out.cells (plC 0 0 0 (.slice none 0 0) (.slice none 0 0)) 27
                        generalize u16.heap.size = gA at *
                        generalize (u16.alloc (.cells (plC 0 0 0 (.slice none 0 0) (.slice none 0 0)) 27)) = u22 at *
                        have HU22 : Hid (In [] w u22 (FA bt 8 100 [] :: ChL cb c1R vl vt (Cells gA (plC 0 0 0 (.slice none 0 0) (.slice none 0 0)) 27 :: ByR (.slice (some ⟨gK, 0, none⟩) sz sz) body :: Cells g3 #[.int .u32 k0, .int .u32 k1, .int .i64 k2, .int .i64 k3, .int .i64 k4] 46 :: Cells g4 (plC 1 7 0 vp4 (.slice ar4 0 nr4)) 27 :: []))) := Lib.hid (hA22.sel2 (R1 := [_, _, _, _, _, _, _]) [1, 2, 3, 4, 0, 5, 6] (by decide) rfl)
                        clear hA22
                        refine hK.out _ _ ⟨cell_of (HU22.out.block 6 rfl) rfl, cell_of (HU22.out.block 6 rfl) rfl, cell_of (HU22.out.block 6 rfl) rfl, cell_of (HU22.out.block 6 rfl) rfl, cell_of (HU22.out.block 6 rfl) rfl⟩ (fun hS => ?_)
                        clear hK K'
                        try simp only [Act.put, List.setIfInBounds_toArray, List.set_cons_zero, List.set_cons_succ]
                        refine e_pin (i := 6) rfl (by kernel_rfl) (fun K' hK => ?_)
                        go_simp
                        go_at_call 13
                        refine (KM.out _ gK _ 5 rfl HU22.out).mono ?_
                        rintro e u23 ⟨vM, rfl, hN23⟩
                        obtain ⟨aM, nM, rfl⟩ := ByR.shape hN23
                        have HU23 : Hid (In [] w u23 (ByR (.slice aM mm.length nM) mm :: FA bt 8 100 [] :: ChL cb c1R vl vt (Cells gA (plC 0 0 0 (.slice none 0 0) (.slice none 0 0)) 27 :: ByR (.slice (some ⟨gK, 0, none⟩) sz sz) body :: Cells g3 #[.int .u32 k0, .int .u32 k1, .int .i64 k2, .int .i64 k3, .int .i64 k4] 46 :: Cells g4 (plC 1 7 0 vp4 (.slice ar4 0 nr4)) 27 :: []))) := Lib.hid hN23
                        clear hN23
                        refine hK.out _ _ ⟨cell_of (HU23.out.block 7 rfl) rfl, cell_of (HU23.out.block 7 rfl) rfl, cell_of (HU23.out.block 7 rfl) rfl, cell_of (HU23.out.block 7 rfl) rfl, cell_of (HU23.out.block 7 rfl) rfl⟩ (fun hS => ?_)
                        clear hK K'
                        try simp only [Act.put, List.setIfInBounds_toArray, List.set_cons_zero, List.set_cons_succ]
                        refine e_pin (i := 7) rfl (by kernel_rfl) (fun K' hK => ?_)
                        go_simp
                        go_at_call 6
                        refine (KP.out _ _ _ _ HU23.out).mono ?_
                        rintro e u24 ⟨vp, vr, rfl, hN24⟩
                        obtain ⟨ap, np, rfl⟩ := ByR.shape hN24
                        obtain ⟨Fr, rr⟩ := hN24.get 1 rfl
                        obtain ⟨ar, nr, rfl, -, -, -⟩ := RowA.shape rr
                        have HU24 : Hid (In [] w u24 (ByR (.slice ap ([] : List UInt8).length np) ([] : List UInt8) :: RecR (.slice ar ([] : List Rec).length nr) ([] : List Rec) :: FA bt 8 100 [] :: ChL cb c1R vl vt (Cells gA (plC 0 0 0 (.slice none 0 0) (.slice none 0 0)) 27 :: ByR (.slice (some ⟨gK, 0, none⟩) sz sz) body :: Cells g3 #[.int .u32 k0, .int .u32 k1, .int .i64 k2, .int .i64 k3, .int .i64 k4] 46 :: Cells g4 (plC 1 7 0 vp4 (.slice ar4 0 nr4)) 27 :: []))) := Lib.hid hN24
                        clear hN24 rr
                        refine hK.out _ _ ⟨cell_of (HU24.out.block 8 rfl) rfl, cell_of (HU24.out.block 8 rfl) rfl, cell_of (HU24.out.block 8 rfl) rfl, cell_of (HU24.out.block 8 rfl) rfl, cell_of (HU24.out.block 8 rfl) rfl⟩ (fun hS => ?_)
                        clear hK K'
                        try simp only [Act.put, List.setIfInBounds_toArray, List.set_cons_zero, List.set_cons_succ]
                        refine e_last (i := 9) rfl (by kernel_rfl) (fun K' hK => ?_)
                        have hF := HU24.out.setFull 6 rfl (xs := (plC 1 11 0 (.slice ap ([] : List UInt8).length np) (.slice ar ([] : List Rec).length nr)).toList) (b := gA) (C := (plC 0 0 0 (.slice none 0 0) (.slice none 0 0))) (T := 27) rfl
                        refine store_step (by rfl) 27 (.tmp 13) (.tmp 95) (by rfl) gA 0 (plC 1 11 0 (.slice ap ([] : List UInt8).length np) (.slice ar ([] : List Rec).length nr)) (by rfl) (by rfl) (there_of (C := (plC 0 0 0 (.slice none 0 0) (.slice none 0 0))) (T := 27) (HU24.out.block 6 rfl)) (by kernel_rfl) (plC_all _ _ _ _ _ _ _ _ _) ?_
                        refine hK.out _ _ ?_
                        clear hK K' hS
                        go_wp2_with fail
                        go_meet
                        exact ⟨gA, _, _, rfl, hF.sel2 (R1 := [_, _, _, _, _, _, _, _, _]) [6, 0, 1, 2, 3, 4, 5, 8] (by decide) rfl⟩
                    · go_simp
                      have hA25 := HU15.out.cells (plC 0 0 0 (.slice none 0 0) (.slice none 0 0)) 27
                      generalize u15.heap.size = gA at *
                      generalize (u15.alloc (.cells (plC 0 0 0 (.slice none 0 0) (.slice none 0 0)) 27)) = u25 at *
                      have HU25 : Hid (In [] w u25 (FA bt 8 100 [] :: ChL cb c1R vl vt (Cells gA (plC 0 0 0 (.slice none 0 0) (.slice none 0 0)) 27 :: ByR (.slice (some ⟨gK, 0, none⟩) sz sz) body :: Cells g3 #[.int .u32 k0, .int .u32 k1, .int .i64 k2, .int .i64 k3, .int .i64 k4] 46 :: Cells g4 (plC 1 7 0 vp4 (.slice ar4 0 nr4)) 27 :: []))) := Lib.hid (hA25.sel2 (R1 := [_, _, _, _, _, _, _]) [1, 2, 3, 4, 0, 5, 6] (by decide) rfl)
                      clear hA25
                      refine hK.out _ _ ⟨cell_of (HU25.out.block 6 rfl) rfl, cell_of (HU25.out.block 6 rfl) rfl, cell_of (HU25.out.block 6 rfl) rfl, cell_of (HU25.out.block 6 rfl) rfl, cell_of (HU25.out.block 6 rfl) rfl⟩ (fun hS => ?_)
                      clear hK K'
                      try simp only [Act.put, List.setIfInBounds_toArray, List.set_cons_zero, List.set_cons_succ]
                      refine e_pin (i := 0) rfl (by kernel_rfl) (fun K' hK => ?_)
                      go_simp
                      go_at_call 7
                      refine (KC.out _ _ HU25.out).mono ?_
                      rintro e u26 ⟨rfl, hN26⟩
                      have HU26 : Hid (In [] w u26 (FA bt 8 100 [] :: ChL cb c1R vl vt (Cells gA (plC 0 0 0 (.slice none 0 0) (.slice none 0 0)) 27 :: ByR (.slice (some ⟨gK, 0, none⟩) sz sz) body :: Cells g3 #[.int .u32 k0, .int .u32 k1, .int .i64 k2, .int .i64 k3, .int .i64 k4] 46 :: Cells g4 (plC 1 7 0 vp4 (.slice ar4 0 nr4)) 27 :: []))) := Lib.hid hN26
                      clear hN26
                      refine hK.out _ _ ⟨cell_of (HU26.out.block 6 rfl) rfl, cell_of (HU26.out.block 6 rfl) rfl, cell_of (HU26.out.block 6 rfl) rfl, cell_of (HU26.out.block 6 rfl) rfl, cell_of (HU26.out.block 6 rfl) rfl⟩ (fun hS => ?_)
                      clear hK K'
                      try simp only [Act.put, List.setIfInBounds_toArray, List.set_cons_zero, List.set_cons_succ]
                      refine e_pin (i := 6) rfl (by kernel_rfl) (fun K' hK => ?_)
                      go_simp
                      go_at_call 13
                      refine (KM.out _ gK _ 5 rfl HU26.out).mono ?_
                      rintro e u27 ⟨vM, rfl, hN27⟩
                      obtain ⟨aM, nM, rfl⟩ := ByR.shape hN27
                      have HU27 : Hid (In [] w u27 (ByR (.slice aM mm.length nM) mm :: FA bt 8 100 [] :: ChL cb c1R vl vt (Cells gA (plC 0 0 0 (.slice none 0 0) (.slice none 0 0)) 27 :: ByR (.slice (some ⟨gK, 0, none⟩) sz sz) body :: Cells g3 #[.int .u32 k0, .int .u32 k1, .int .i64 k2, .int .i64 k3, .int .i64 k4] 46 :: Cells g4 (plC 1 7 0 vp4 (.slice ar4 0 nr4)) 27 :: []))) := Lib.hid hN27
                      clear hN27
                      refine hK.out _ _ ⟨cell_of (HU27.out.block 7 rfl) rfl, cell_of (HU27.out.block 7 rfl) rfl, cell_of (HU27.out.block 7 rfl) rfl, cell_of (HU27.out.block 7 rfl) rfl, cell_of (HU27.out.block 7 rfl) rfl⟩ (fun hS => ?_)
                      clear hK K'
                      try simp only [Act.put, List.setIfInBounds_toArray, List.set_cons_zero, List.set_cons_succ]
                      refine e_pin (i := 7) rfl (by kernel_rfl) (fun K' hK => ?_)
                      go_simp
                      go_at_call 6
                      refine (KP.out _ _ _ _ HU27.out).mono ?_
                      rintro e u28 ⟨vp, vr, rfl, hN28⟩
                      obtain ⟨ap, np, rfl⟩ := ByR.shape hN28
                      obtain ⟨Fr, rr⟩ := hN28.get 1 rfl
                      obtain ⟨ar, nr, rfl, -, -, -⟩ := RowA.shape rr
                      have HU28 : Hid (In [] w u28 (ByR (.slice ap ([] : List UInt8).length np) ([] : List UInt8) :: RecR (.slice ar ([] : List Rec).length nr) ([] : List Rec) :: FA bt 8 100 [] :: ChL cb c1R vl vt (Cells gA (plC 0 0 0 (.slice none 0 0) (.slice none 0 0)) 27 :: ByR (.slice (some ⟨gK, 0, none⟩) sz sz) body :: Cells g3 #[.int .u32 k0, .int .u32 k1, .int .i64 k2, .int .i64 k3, .int .i64 k4] 46 :: Cells g4 (plC 1 7 0 vp4 (.slice ar4 0 nr4)) 27 :: []))) := Lib.hid hN28
                      clear hN28 rr
                      refine hK.out _ _ ⟨cell_of (HU28.out.block 8 rfl) rfl, cell_of (HU28.out.block 8 rfl) rfl, cell_of (HU28.out.block 8 rfl) rfl, cell_of (HU28.out.block 8 rfl) rfl, cell_of (HU28.out.block 8 rfl) rfl⟩ (fun hS => ?_)
                      clear hK K'
                      try simp only [Act.put, List.setIfInBounds_toArray, List.set_cons_zero, List.set_cons_succ]
                      refine e_last (i := 9) rfl (by kernel_rfl) (fun K' hK => ?_)
                      have hF := HU28.out.setFull 6 rfl (xs := (plC 1 11 0 (.slice ap ([] : List UInt8).length np) (.slice ar ([] : List Rec).length nr)).toList) (b := gA) (C := (plC 0 0 0 (.slice none 0 0) (.slice none 0 0))) (T := 27) rfl
                      refine store_step (by rfl) 27 (.tmp 13) (.tmp 95) (by rfl) gA 0 (plC 1 11 0 (.slice ap ([] : List UInt8).length np) (.slice ar ([] : List Rec).length nr)) (by rfl) (by rfl) (there_of (C := (plC 0 0 0 (.slice none 0 0) (.slice none 0 0))) (T := 27) (HU28.out.block 6 rfl)) (by kernel_rfl) (plC_all _ _ _ _ _ _ _ _ _) ?_
                      refine hK.out _ _ ?_
                      clear hK K' hS
                      go_wp2_with fail
                      go_meet
                      exact ⟨gA, _, _, rfl, hF.sel2 (R1 := [_, _, _, _, _, _, _, _, _]) [6, 0, 1, 2, 3, 4, 5, 8] (by decide) rfl⟩
                  · go_simp
                    have hA29 := HD.out.cells (plC 0 0 0 (.slice none 0 0) (.slice none 0 0)) 27
                    generalize VD.heap.size = gA at *
                    generalize (VD.alloc (.cells (plC 0 0 0 (.slice none 0 0) (.slice none 0 0)) 27)) = u29 at *
                    have HU29 : Hid (In [] w u29 (FA bt 8 100 [] :: ChL cb c1R vl vt (Cells gA (plC 0 0 0 (.slice none 0 0) (.slice none 0 0)) 27 :: Cells g3 #[.int .u32 k0, .int .u32 k1, .int .i64 k2, .int .i64 k3, .int .i64 k4] 46 :: Cells g4 (plC 1 7 0 vp4 (.slice ar4 0 nr4)) 27 :: []))) := Lib.hid (hA29.sel2 (R1 := [_, _, _, _, _, _]) [1, 2, 3, 4, 0, 5] (by decide) rfl)
                    clear hA29
                    refine hK.out _ _ ⟨cell_of (HU29.out.block 5 rfl) rfl, cell_of (HU29.out.block 5 rfl) rfl, cell_of (HU29.out.block 5 rfl) rfl, cell_of (HU29.out.block 5 rfl) rfl, cell_of (HU29.out.block 5 rfl) rfl⟩ (fun hS => ?_)
                    clear hK K'
                    try simp only [Act.put, List.setIfInBounds_toArray, List.set_cons_zero, List.set_cons_succ]
                    refine e_two (i := 0) (j := 5) rfl rfl (by kernel_rfl) (fun K' hK => ?_) (fun K' hK => ?_)
                    · go_simp
                      go_at_call 7
                      refine (KC.out _ _ HU29.out).mono ?_
                      rintro e u30 ⟨rfl, hN30⟩
                      have HU30 : Hid (In [] w u30 (FA bt 8 100 [] :: ChL cb c1R vl vt (Cells gA (plC 0 0 0 (.slice none 0 0) (.slice none 0 0)) 27 :: Cells g3 #[.int .u32 k0, .int .u32 k1, .int .i64 k2, .int .i64 k3, .int .i64 k4] 46 :: Cells g4 (plC 1 7 0 vp4 (.slice ar4 0 nr4)) 27 :: []))) := Lib.hid hN30
                      clear hN30
                      refine hK.out _ _ ⟨cell_of (HU30.out.block 5 rfl) rfl, cell_of (HU30.out.block 5 rfl) rfl, cell_of (HU30.out.block 5 rfl) rfl, cell_of (HU30.out.block 5 rfl) rfl, cell_of (HU30.out.block 5 rfl) rfl⟩ (fun hS => ?_)
                      clear hK K'
                      try simp only [Act.put, List.setIfInBounds_toArray, List.set_cons_zero, List.set_cons_succ]
                      refine e_pin (i := 5) rfl (by kernel_rfl) (fun K' hK => ?_)
                      have hmk31 := HMK.out u30
                      go_simp
                      clear hmk31
                      have hA31 := HKR.out _ _ HU30.out
                      generalize u30.heap.size = gK at *
                      generalize (u30.alloc (.cells CZ 5)) = u31 at *
                      have HU31 : Hid (In [] w u31 (FA bt 8 100 [] :: ChL cb c1R vl vt (Cells gA (plC 0 0 0 (.slice none 0 0) (.slice none 0 0)) 27 :: ByR (.slice (some ⟨gK, 0, none⟩) sz sz) body :: Cells g3 #[.int .u32 k0, .int .u32 k1, .int .i64 k2, .int .i64 k3, .int .i64 k4] 46 :: Cells g4 (plC 1 7 0 vp4 (.slice ar4 0 nr4)) 27 :: []))) := Lib.hid (hA31.sel2 (R1 := [_, _, _, _, _, _, _]) [1, 2, 3, 4, 5, 0, 6] (by decide) rfl)
                      clear hA31
                      refine hK.out _ _ ⟨cell_of (HU31.out.block 6 rfl) rfl, cell_of (HU31.out.block 6 rfl) rfl, cell_of (HU31.out.block 6 rfl) rfl, cell_of (HU31.out.block 6 rfl) rfl, cell_of (HU31.out.block 6 rfl) rfl⟩ (fun hS => ?_)
                      clear hK K'
                      try simp only [Act.put, List.setIfInBounds_toArray, List.set_cons_zero, List.set_cons_succ]
                      refine e_pin (i := 6) rfl (by kernel_rfl) (fun K' hK => ?_)
                      go_simp
                      go_at_call 13
                      refine (KM.out _ gK _ 5 rfl HU31.out).mono ?_
                      rintro e u32 ⟨vM, rfl, hN32⟩
                      obtain ⟨aM, nM, rfl⟩ := ByR.shape hN32
                      have HU32 : Hid (In [] w u32 (ByR (.slice aM mm.length nM) mm :: FA bt 8 100 [] :: ChL cb c1R vl vt (Cells gA (plC 0 0 0 (.slice none 0 0) (.slice none 0 0)) 27 :: ByR (.slice (some ⟨gK, 0, none⟩) sz sz) body :: Cells g3 #[.int .u32 k0, .int .u32 k1, .int .i64 k2, .int .i64 k3, .int .i64 k4] 46 :: Cells g4 (plC 1 7 0 vp4 (.slice ar4 0 nr4)) 27 :: []))) := Lib.hid hN32
                      clear hN32
                      refine hK.out _ _ ⟨cell_of (HU32.out.block 7 rfl) rfl, cell_of (HU32.out.block 7 rfl) rfl, cell_of (HU32.out.block 7 rfl) rfl, cell_of (HU32.out.block 7 rfl) rfl, cell_of (HU32.out.block 7 rfl) rfl⟩ (fun hS => ?_)
                      clear hK K'
                      try simp only [Act.put, List.setIfInBounds_toArray, List.set_cons_zero, List.set_cons_succ]
                      refine e_pin (i := 7) rfl (by kernel_rfl) (fun K' hK => ?_)
                      go_simp
                      go_at_call 6
                      refine (KP.out _ _ _ _ HU32.out).mono ?_
                      rintro e u33 ⟨vp, vr, rfl, hN33⟩
                      obtain ⟨ap, np, rfl⟩ := ByR.shape hN33
                      obtain ⟨Fr, rr⟩ := hN33.get 1 rfl
                      obtain ⟨ar, nr, rfl, -, -, -⟩ := RowA.shape rr
                      have HU33 : Hid (In [] w u33 (ByR (.slice ap ([] : List UInt8).length np) ([] : List UInt8) :: RecR (.slice ar ([] : List Rec).length nr) ([] : List Rec) :: FA bt 8 100 [] :: ChL cb c1R vl vt (Cells gA (plC 0 0 0 (.slice none 0 0) (.slice none 0 0)) 27 :: ByR (.slice (some ⟨gK, 0, none⟩) sz sz) body :: Cells g3 #[.int .u32 k0, .int .u32 k1, .int .i64 k2, .int .i64 k3, .int .i64 k4] 46 :: Cells g4 (plC 1 7 0 vp4 (.slice ar4 0 nr4)) 27 :: []))) := Lib.hid hN33
                      clear hN33 rr
                      refine hK.out _ _ ⟨cell_of (HU33.out.block 8 rfl) rfl, cell_of (HU33.out.block 8 rfl) rfl, cell_of (HU33.out.block 8 rfl) rfl, cell_of (HU33.out.block 8 rfl) rfl, cell_of (HU33.out.block 8 rfl) rfl⟩ (fun hS => ?_)
                      clear hK K'
                      try simp only [Act.put, List.setIfInBounds_toArray, List.set_cons_zero, List.set_cons_succ]
                      refine e_last (i := 9) rfl (by kernel_rfl) (fun K' hK => ?_)
                      have hF := HU33.out.setFull 6 rfl (xs := (plC 1 11 0 (.slice ap ([] : List UInt8).length np) (.slice ar ([] : List Rec).length nr)).toList) (b := gA) (C := (plC 0 0 0 (.slice none 0 0) (.slice none 0 0))) (T := 27) rfl
                      refine store_step (by rfl) 27 (.tmp 13) (.tmp 95) (by rfl) gA 0 (plC 1 11 0 (.slice ap ([] : List UInt8).length np) (.slice ar ([] : List Rec).length nr)) (by rfl) (by rfl) (there_of (C := (plC 0 0 0 (.slice none 0 0) (.slice none 0 0))) (T := 27) (HU33.out.block 6 rfl)) (by kernel_rfl) (plC_all _ _ _ _ _ _ _ _ _) ?_
                      refine hK.out _ _ ?_
                      clear hK K' hS
                      go_wp2_with fail
                      go_meet
                      exact ⟨gA, _, _, rfl, hF.sel2 (R1 := [_, _, _, _, _, _, _, _, _]) [6, 0, 1, 2, 3, 4, 5, 8] (by decide) rfl⟩
                    · have hmk34 := HMK.out u29
                      go_simp
                      clear hmk34
                      have hA34 := HKR.out _ _ HU29.out
                      generalize u29.heap.size = gK at *
                      generalize (u29.alloc (.cells CZ 5)) = u34 at *
                      have HU34 : Hid (In [] w u34 (FA bt 8 100 [] :: ChL cb c1R vl vt (Cells gA (plC 0 0 0 (.slice none 0 0) (.slice none 0 0)) 27 :: ByR (.slice (some ⟨gK, 0, none⟩) sz sz) body :: Cells g3 #[.int .u32 k0, .int .u32 k1, .int .i64 k2, .int .i64 k3, .int .i64 k4] 46 :: Cells g4 (plC 1 7 0 vp4 (.slice ar4 0 nr4)) 27 :: []))) := Lib.hid (hA34.sel2 (R1 := [_, _, _, _, _, _, _]) [1, 2, 3, 4, 5, 0, 6] (by decide) rfl)
                      clear hA34
                      refine hK.out _ _ ⟨cell_of (HU34.out.block 6 rfl) rfl, cell_of (HU34.out.block 6 rfl) rfl, cell_of (HU34.out.block 6 rfl) rfl, cell_of (HU34.out.block 6 rfl) rfl, cell_of (HU34.out.block 6 rfl) rfl⟩ (fun hS => ?_)
                      clear hK K'
                      try simp only [Act.put, List.setIfInBounds_toArray, List.set_cons_zero, List.set_cons_succ]
                      refine e_pin (i := 0) rfl (by kernel_rfl) (fun K' hK => ?_)
                      go_simp
                      go_at_call 7
                      refine (KC.out _ _ HU34.out).mono ?_
                      rintro e u35 ⟨rfl, hN35⟩
                      have HU35 : Hid (In [] w u35 (FA bt 8 100 [] :: ChL cb c1R vl vt (Cells gA (plC 0 0 0 (.slice none 0 0) (.slice none 0 0)) 27 :: ByR (.slice (some ⟨gK, 0, none⟩) sz sz) body :: Cells g3 #[.int .u32 k0, .int .u32 k1, .int .i64 k2, .int .i64 k3, .int .i64 k4] 46 :: Cells g4 (plC 1 7 0 vp4 (.slice ar4 0 nr4)) 27 :: []))) := Lib.hid hN35
                      clear hN35
                      refine hK.out _ _ ⟨cell_of (HU35.out.block 6 rfl) rfl, cell_of (HU35.out.block 6 rfl) rfl, cell_of (HU35.out.block 6 rfl) rfl, cell_of (HU35.out.block 6 rfl) rfl, cell_of (HU35.out.block 6 rfl) rfl⟩ (fun hS => ?_)
                      clear hK K'
                      try simp only [Act.put, List.setIfInBounds_toArray, List.set_cons_zero, List.set_cons_succ]
                      refine e_pin (i := 6) rfl (by kernel_rfl) (fun K' hK => ?_)
                      go_simp
                      go_at_call 13
                      refine (KM.out _ gK _ 5 rfl HU35.out).mono ?_
                      rintro e u36 ⟨vM, rfl, hN36⟩
                      obtain ⟨aM, nM, rfl⟩ := ByR.shape hN36
                      have HU36 : Hid (In [] w u36 (ByR (.slice aM mm.length nM) mm :: FA bt 8 100 [] :: ChL cb c1R vl vt (Cells gA (plC 0 0 0 (.slice none 0 0) (.slice none 0 0)) 27 :: ByR (.slice (some ⟨gK, 0, none⟩) sz sz) body :: Cells g3 #[.int .u32 k0, .int .u32 k1, .int .i64 k2, .int .i64 k3, .int .i64 k4] 46 :: Cells g4 (plC 1 7 0 vp4 (.slice ar4 0 nr4)) 27 :: []))) := Lib.hid hN36
                      clear hN36
                      refine hK.out _ _ ⟨cell_of (HU36.out.block 7 rfl) rfl, cell_of (HU36.out.block 7 rfl) rfl, cell_of (HU36.out.block 7 rfl) rfl, cell_of (HU36.out.block 7 rfl) rfl, cell_of (HU36.out.block 7 rfl) rfl⟩ (fun hS => ?_)
                      clear hK K'
                      try simp only [Act.put, List.setIfInBounds_toArray, List.set_cons_zero, List.set_cons_succ]
                      refine e_pin (i := 7) rfl (by kernel_rfl) (fun K' hK => ?_)
                      go_simp
                      go_at_call 6
                      refine (KP.out _ _ _ _ HU36.out).mono ?_
                      rintro e u37 ⟨vp, vr, rfl, hN37⟩
                      obtain ⟨ap, np, rfl⟩ := ByR.shape hN37
                      obtain ⟨Fr, rr⟩ := hN37.get 1 rfl
                      obtain ⟨ar, nr, rfl, -, -, -⟩ := RowA.shape rr
                      have HU37 : Hid (In [] w u37 (ByR (.slice ap ([] : List UInt8).length np) ([] : List UInt8) :: RecR (.slice ar ([] : List Rec).length nr) ([] : List Rec) :: FA bt 8 100 [] :: ChL cb c1R vl vt (Cells gA (plC 0 0 0 (.slice none 0 0) (.slice none 0 0)) 27 :: ByR (.slice (some ⟨gK, 0, none⟩) sz sz) body :: Cells g3 #[.int .u32 k0, .int .u32 k1, .int .i64 k2, .int .i64 k3, .int .i64 k4] 46 :: Cells g4 (plC 1 7 0 vp4 (.slice ar4 0 nr4)) 27 :: []))) := Lib.hid hN37
                      clear hN37 rr
                      refine hK.out _ _ ⟨cell_of (HU37.out.block 8 rfl) rfl, cell_of (HU37.out.block 8 rfl) rfl, cell_of (HU37.out.block 8 rfl) rfl, cell_of (HU37.out.block 8 rfl) rfl, cell_of (HU37.out.block 8 rfl) rfl⟩ (fun hS => ?_)
                      clear hK K'
                      try simp only [Act.put, List.setIfInBounds_toArray, List.set_cons_zero, List.set_cons_succ]
                      refine e_last (i := 9) rfl (by kernel_rfl) (fun K' hK => ?_)
                      have hF := HU37.out.setFull 6 rfl (xs := (plC 1 11 0 (.slice ap ([] : List UInt8).length np) (.slice ar ([] : List Rec).length nr)).toList) (b := gA) (C := (plC 0 0 0 (.slice none 0 0) (.slice none 0 0))) (T := 27) rfl
                      refine store_step (by rfl) 27 (.tmp 13) (.tmp 95) (by rfl) gA 0 (plC 1 11 0 (.slice ap ([] : List UInt8).length np) (.slice ar ([] : List Rec).length nr)) (by rfl) (by rfl) (there_of (C := (plC 0 0 0 (.slice none 0 0) (.slice none 0 0))) (T := 27) (HU37.out.block 6 rfl)) (by kernel_rfl) (plC_all _ _ _ _ _ _ _ _ _) ?_
                      refine hK.out _ _ ?_
                      clear hK K' hS
                      go_wp2_with fail
                      go_meet
                      exact ⟨gA, _, _, rfl, hF.sel2 (R1 := [_, _, _, _, _, _, _, _, _]) [6, 0, 1, 2, 3, 4, 5, 8] (by decide) rfl⟩
                case rest =>
                  obtain ⟨g5, vp, vr, rfl, ho⟩ := hcut
                  obtain ⟨F8, r8⟩ := ho.get 2 rfl
                  obtain ⟨ar, nr, rfl, -, -, -⟩ := RowA.shape r8
                  have hb := ho.block 0 rfl
                  have hb4 := ho.block 8 rfl
                  have p1 : wc.cell? ⟨g5, 1, none⟩ = some (.int .i64 11) := cell_of hb rfl
                  have p4 : wc.cell? ⟨g5, 4, none⟩ = some (.slice ar 0 nr) := cell_of hb rfl
                  have r1 : wc.cell? ⟨g4, 1, none⟩ = some (.int .i64 7) := cell_of hb4 rfl
                  have r4 : wc.cell? ⟨g4, 4, none⟩ = some (.slice ar4 0 nr4) := cell_of hb4 rfl
                  have K5 := Lib.hid (o_flen ho 3 rfl)
                  have HN1 := Lib.hid (HN.out _ (ho.sel2 (R1 := [_, _, _, _, _, _, _, _, _]) [3, 4, 5, 6] (by decide) rfl))
                  clear ho hb hb4 r8 KMH KPH HN HD1 HKR HMK
                  go_wp2_with fail
                  refine K5.out.mono ?_
                  rintro e w6 ⟨rfl, rfl⟩
                  clear K5
                  go_wp2_with fail
                  go_roundw
                  case rel => (try rw [hw2]); exact HN1.out
                  case measure => (try rw [hw2]); exact meas_lt hix
        · have hge2 : (L.length : Int) ≤ (j : Int) := by omega
          have K9 := Lib.hid (KA.out _ _ ho)
          clear ho hj hlt
          go_wp2_with fail
          refine K9.out.mono ?_
          rintro e w9 ⟨rfl, ho⟩
          have G := Lib.hid ho.mod
          clear K9 ho
          go_wp2_with fail
          go_ret
          exact ⟨rfl, G.out⟩
end Go.Proofs.Ytgapbecddgfkmaa
