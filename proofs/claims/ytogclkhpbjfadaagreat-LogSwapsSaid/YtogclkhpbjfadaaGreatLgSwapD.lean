/- Rows in the place of all frames: the walk. -/
import Derived.Test.YtogclkhpbjfadaaGreatLgSwapC
import Derived.Test.YtogclkhpbjfadaaGreatSame
import Derived.Deep.DeepCutAuto
namespace Go.Proofs.YtogclkhpbjfadaaGreat
open Go.RowKit
set_option linter.unusedVariables false
set_option maxRecDepth 100000
theorem infoBytes : (Tryz.prog.info? 23).map (fun i => (i.zero.map (fun z => z.cells.size), i.size, i.bytes)) = some (some 1, 1, 24) := by kernel_rfl
theorem bodB_snoc : ∀ {vs : List Value} {bs : List (List UInt8)} (v : Value) (b : List UInt8), vs.length = bs.length → bodB (vs ++ [v]) (bs ++ [b]) = bodB vs bs ++ [RowA 5 1 v b.length (u8s b)]
  | [], [], v, b, _ => rfl
  | [], _ :: _, _, _, h => by simp at h
  | _ :: _, [], _, _, h => by simp at h
  | x :: vs, y :: bs, v, b, h => by
    simp only [List.cons_append, bodB]
    rw [bodB_snoc v b (by simpa using h)]
theorem removeD_ops : ∀ (l : List Nat) (d : DiskD), (removeD l d).ops ≤ d.ops + l.length
  | [], d => Nat.le_refl _
  | x :: r, d => by
    have h1 := removeD_ops r (dRemove d (segName x)).1
    have h2 := (dOps d (segName x) (segName x) [] 0).2.2.2.2.1
    simp only [removeD, List.length_cons]; omega
theorem putErr_ok {f : FrD} (h : FrOk f) : putErr f.kind f.ver f.body.length = 0 := by
  obtain ⟨h1, h2, h3⟩ := h
  unfold putErr
  rw [if_neg (by omega), if_neg (by omega)]
theorem putB_ok {f : FrD} (h : FrOk f) : putB f.kind f.ver f.body = frBytes f := by
  unfold putB; rw [if_pos (putErr_ok h)]; rfl
theorem frB_len {f : FrD} (h : FrOk f) : (frBytes f).length ≤ 5000 := by
  obtain ⟨h1, h2, h3⟩ := h
  rw [frBytes_length]; show 16 + f.body.length ≤ 5000; omega
section
variable {F0 : List Nat} {w0 w : World} {R : List Asrt} {pn : Value} {bd lb sb : Nat} {d : DiskD} {l : LogD}
theorem In.dropMid {X A : List Asrt} (h : In F0 w0 w (X ++ (A ++ R))) : In F0 w0 w (X ++ R) := by
  have h1 : In F0 w0 w (A ++ (X ++ R)) := by
    refine h.perm ?_
    rw [← List.append_assoc, ← List.append_assoc]
    exact List.perm_append_comm.append_right R
  exact h1.right
/-- What the bytes of k frames lie in. -/
abbrev SwL (bx vx lx lb bd ver : Nat) (l : LogD) (d : DiskD) (v : Value) (vs : List Value) (bss : List (List UInt8)) (R : List Asrt) : List Asrt :=
  Cells bx #[v] 22 :: RowA 23 1 v vs.length vs :: (bodB vs bss ++ ([Cells vx #[.int .i64 ver] 3, Cells lx #[dptr lb] 28, LgA lb bd l, DkA bd d] ++ R))
def SwRel (bx vx lx lb bd ver : Nat) (l : LogD) (d : DiskD) (fs : List FrD) (F0 : List Nat) (w0 : World) (R : List Asrt) (i : Value) (wr : World) : Prop :=
  ∃ (k : Nat) (v : Value) (vs : List Value), k ≤ fs.length ∧ i = .int .i64 k ∧ vs.length = k ∧ In F0 w0 wr (SwL bx vx lx lb bd ver l d v vs ((fs.take k).map frBytes) R)
theorem SwL.rest {bx vx lx ver : Nat} {v : Value} {vs : List Value} {bss : List (List UInt8)} (h : In F0 w0 w (SwL bx vx lx lb bd ver l d v vs bss R)) : In F0 w0 w R :=
  (In.right (R1 := bodB vs bss) (h.drop.drop)).drop.drop.drop.drop
theorem sw_step {bx vx lx ver nb bb : Nat} {C C2 : Array Value} {ty ty2 : Nat} {v v1 : Value} {vs : List Value} {fs : List FrD} {k : Nat} {f : FrD} {bss : List (List UInt8)} (hbss : bss = (fs.take k).map frBytes) (hf : fs[k]? = some f) (hvs : vs.length = k)
    (h : In F0 w0 w (Cells bb C2 ty2 :: RowA 5 1 v1 (frBytes f).length (u8s (frBytes f)) :: Cells nb C ty :: Cells bx #[v] 22 :: RowA 23 1 v (vs ++ [v1]).length (vs ++ [v1]) :: (bodB vs bss ++ ([Cells vx #[.int .i64 ver] 3, Cells lx #[dptr lb] 28, LgA lb bd l, DkA bd d] ++ R)))) :
    SwRel bx vx lx lb bd ver l d fs F0 w0 R (.int .i64 ((k : Int) + 1)) w := by
  subst hbss
  have hk := (List.getElem?_eq_some_iff.1 hf).1
  refine ⟨k + 1, v, vs ++ [v1], hk, by rw [Int.natCast_add]; rfl, by simp [hvs], ?_⟩
  have h1 := h.sel2 (R1 := [_, _, _, _, _]) [3, 4, 1] (by decide) rfl
  have h2 := In.midL (X := [_, _]) (A := [_]) h1
  unfold SwL
  rw [List.take_add_one, hf]
  simp only [Option.toList_some, List.map_append, List.map_cons, List.map_nil]
  rw [bodB_snoc v1 (frBytes f) (by simp [hvs]; omega), List.append_assoc]
  exact h2
def RmRel (lb bd : Nat) (l : LogD) (d : DiskD) (segs : List Nat) (Q : List Asrt) (F0 : List Nat) (w0 : World) (i : Value) (wr : World) : Prop :=
  ∃ k : Nat, k ≤ segs.length ∧ i = .int .i64 k ∧ In F0 w0 wr (LgA lb bd l :: DkA bd (removeD (segs.take k) d) :: Q)
theorem rm_step {segs : List Nat} {k x : Nat} {Q : List Asrt} (hx : segs[k]? = some x) (h : In F0 w0 w (LgA lb bd l :: DkA bd (dRemove (removeD (segs.take k) d) (segName x)).1 :: Q)) : RmRel lb bd l d segs Q F0 w0 (.int .i64 ((k : Int) + 1)) w := by
  refine ⟨k + 1, (List.getElem?_eq_some_iff.1 hx).1, by rw [Int.natCast_add]; rfl, ?_⟩
  rw [List.take_add_one, hx]
  show In F0 w0 w (LgA lb bd l :: DkA bd (removeD (segs.take k ++ [x]) d) :: _)
  rw [removeD_snoc]; exact h
theorem rm_ops {segs : List Nat} {k : Nat} (ho : d.ops ≤ 99999000) (hs : segs.length ≤ 100) : (removeD (segs.take k) d).ops ≤ 100000000 := by
  have := removeD_ops (segs.take k) d
  rw [List.length_take] at this; omega
/-- Frames are to be read at a in every world. -/
def FrU (F0 : List Nat) (w0 : World) (R : List Asrt) (a : Option Addr) (fs : List FrD) : Prop := ∀ k f, fs[k]? = some f → ∃ g o A c, a = some ⟨g, o, none⟩ ∧ ∀ w', In F0 w0 w' R → FrCell w' g (o + k * 3) f A c
def SwapPost (lb bd : Nat) (r : DL × Int) (F0 : List Nat) (w0 : World) (R : List Asrt) (e : Ending) (w' : World) : Prop :=
  e = .returned (.int .i64 r.2) ∧ In F0 w0 w' (LgA lb bd r.1.2 :: DkA bd r.1.1 :: R)
theorem swapL_err {ver : Nat} {bs : List (List UInt8)} {s : DL} (h : (settleL s).2 ≠ 0) : swapL ver bs s = settleL s := by
  unfold swapL; rw [if_pos h]
theorem post_of {r r' : DL × Int} {e : Ending} {Y : List Asrt} (hr : r' = r) (he : e = .returned (.int .i64 r.2)) (h : In F0 w0 w (LgA lb bd r.1.2 :: DkA bd r.1.1 :: R)) : SwapPost lb bd r' F0 w0 R e w := by
  subst hr; exact ⟨he, h⟩
set_option maxHeartbeats 64000000 in
theorem o_swap {fs : List FrD} {a : Option Addr} {c ver : Nat} (h : In F0 w0 w (LgA lb bd l :: DkA bd d :: R)) (hl : LgOk l) (ho : d.ops ≤ 99000000) (hver : 1 ≤ ver ∧ ver ≤ 3) (hv : FrU F0 w0 R a fs) (hok : ∀ f ∈ fs, FrOk f) (hn : fs.length ≤ 1000) :
    Calls Tryz.prog 27 #[dptr lb, .int .i64 ver, .slice a fs.length c] w (SwapPost lb bd (swapL ver (fs.map frBytes) (d, l)) F0 w0 R) := by
  have hmf : ∀ (fn : Fn) (first cap : Array Value) (w : World), (Instr.makeFunc fn first cap).run Tryz.prog w = .ok (.func fn first cap) w := fun _ _ _ _ => rfl
  have h1 := (((h.rownil 23 1).cells #[dptr lb] 28).cells #[.int .i64 ver] 3).cells #[.slice none 0 0] 22
  simp only [World.size_alloc] at h1
  have q1 : decide ((ver : Int) < 1) = false := decide_eq_false (by omega)
  have q2 : decide ((3 : Int) < (ver : Int)) = false := decide_eq_false (by omega)
  obtain ⟨n0, hn0⟩ : ∃ n0, n0 = w.heap.size := ⟨_, rfl⟩
  rw [← hn0] at h1
  have HR : Hid (SwRel (n0 + 1 + 1) (n0 + 1) n0 lb bd ver l d fs F0 w0 R (.int .i64 0) _) := Lib.hid ⟨0, .slice none 0 0, [], Nat.zero_le _, rfl, rfl, h1.sel2 (R1 := [_, _, _, _, _, _]) [0, 3, 1, 2, 4, 5] (by decide) rfl⟩
  have HV := Lib.hid hv
  have HOK := Lib.hid hok
  have hnl : fs.length ≤ 1000 := hn
  have HLO := Lib.hid (And.intro hl ho)
  clear h h1 hl ho hv hok hn hver
  go_enter Tryz.func27, Tryz.ntmps27
  rw [hn0] at HR
  go_wp2_with fail
  go_loopw [29] (SwRel (w.heap.size + 1 + 1) (w.heap.size + 1) w.heap.size lb bd ver l d fs F0 w0 R) (fun k _ => fs.length - (intOf k).toNat)
  case atStart => exact HR.out
  case round =>
    obtain ⟨k, v, vs, hk, rfl, hvs, hio⟩ := hrel
    clear HR
    by_cases hlt : k < fs.length
    · obtain ⟨bss, hbss⟩ : ∃ bss, bss = (fs.take k).map frBytes := ⟨_, rfl⟩
      rw [← hbss] at hio
      obtain ⟨f, hf⟩ : ∃ f, fs[k]? = some f := ⟨fs[k], List.getElem?_eq_getElem hlt⟩
      have hfo := HOK.out f (List.mem_of_getElem? hf)
      obtain ⟨g, o, A, cA, rfl, hfu⟩ := HV.out k f hf
      have hfc := hfu wr (SwL.rest hio)
      have c0 := hfc.kind
      have c1 := hfc.ver
      have c2 := hfc.val
      have hlt' : (k : Int) < (fs.length : Int) := Int.ofNat_lt.2 hlt
      have hw2 : wrap64 ((k : Int) + 1) = (k : Int) + 1 := by unfold wrap64; omega
      have h2 := hio.cells #[.int .i64 f.kind, .int .i64 f.ver, .slice A f.body.length cA] 40
      have KP := o_frput (c := cA) (A := A) h2 f.kind f.ver (body := f.body) (Nat.le_trans hfo.3 (by decide)) (fun w' h' => (hfu w' (SwL.rest h'.drop)).body)
      unfold PutPost at KP
      rw [putErr_ok hfo, putB_ok hfo] at KP
      have KP' := Lib.hid KP
      have HN := Lib.hid (fun bb C2 ty2 v1 v w' h' => sw_step (F0 := F0) (w0 := w0) (w := w') (R := R) (lb := lb) (bd := bd) (l := l) (d := d) (bx := w.heap.size + 1 + 1) (vx := w.heap.size + 1) (lx := w.heap.size) (ver := ver) (nb := wr.heap.size) (bb := bb) (C := #[.int .i64 f.kind, .int .i64 f.ver, .slice A f.body.length cA]) (C2 := C2) (ty := 40) (ty2 := ty2) (v := v) (v1 := v1) (vs := vs) (fs := fs) hbss hf hvs h')
      clear h2 KP hfc hfu hio hf hfo hk hlt hbss
      go_wp2_with fail
      refine KP'.out.mono ?_
      rintro e w1 ⟨v1, rfl, g1⟩
      obtain ⟨F1, r1⟩ := g1.get 0 rfl
      obtain ⟨a1, c1', rfl, -, -, -⟩ := r1.shape
      have y0 : w1.cell? ⟨w.heap.size + 1 + 1, 0, none⟩ = some v := cell_of (g1.block 2 rfl) rfl
      obtain ⟨F2, r2⟩ := g1.get 3 rfl
      obtain ⟨a2, c2', rfl, -, -, -⟩ := r2.shape
      have g5 := g1.cells #[.slice a1 (frBytes f).length c1'] 23
      have G5 := Lib.hid g5
      have SB := Lib.hid (Src.of_block (k := 1) (g5.block 0 rfl) rfl)
      have HX : Hid (∀ v' w5, In F0 w0 w5 ((Cells w1.heap.size #[.slice a1 (frBytes f).length c1'] 23 :: RowA 5 1 (.slice a1 (frBytes f).length c1') (frBytes f).length (u8s (frBytes f)) :: Cells wr.heap.size #[.int .i64 f.kind, .int .i64 f.ver, .slice A f.body.length cA] 40 :: SwL (w.heap.size + 1 + 1) (w.heap.size + 1) w.heap.size lb bd ver l d (.slice a2 vs.length c2') vs bss R).set 4 (RowA 23 1 v' (vs.length + 1) (vs ++ [.slice a1 (frBytes f).length c1']))) →
        w5.frozen? ⟨w.heap.size + 1 + 1, 0, none⟩ = false ∧ w5.cell? ⟨w.heap.size + 1 + 1, 0, none⟩ = some (.slice a2 vs.length c2') ∧ SwRel (w.heap.size + 1 + 1) (w.heap.size + 1) w.heap.size lb bd ver l d fs F0 w0 R (.int .i64 ((k : Int) + 1)) (w5.setCell ⟨w.heap.size + 1 + 1, 0, none⟩ v')) := Lib.hid fun v' w5 h5 =>
          ⟨free_of (h5.block 3 rfl), cell_of (h5.block 3 rfl) rfl, HN.out _ _ _ _ _ _ (by
            have h6 := h5.put 3 rfl 0 v'
            rw [List.length_append]
            exact h6)⟩
      have HVS : Hid (vs.length ≤ 1000) := Lib.hid (by omega)
      clear g1 g5 r1 r2 KP' HN hvs
      go_wp2_with (at_builtin; refine app_list rfl G5.out 4 rfl (.tmp 41) (.tmp 43) 22 (by rfl) Tryz.underlying22 infoBytes (by decide) (by decide) (by rfl) (by rfl) SB.out (fun u hu => by simp at hu; subst hu; rfl) (Nat.le_trans (Nat.add_le_add_right HVS.out 1) (by decide)) ?_)
      intro v' w5 ho5 hg5
      obtain ⟨F5, r5⟩ := ho5.get 4 rfl
      obtain ⟨a5, c5', rfl, -, -, -⟩ := RowA.shape r5
      obtain ⟨f5, c5, hr5⟩ := HX.out _ w5 ho5
      clear r5
      have HN2 := Lib.hid hr5
      clear ho5 hg5 hr5 G5 SB HX HVS
      go_wp2_with fail
      go_roundw
      case rel => (try rw [hw2]); exact HN2.out
      case measure => (try rw [hw2]); exact meas_lt hlt'
    · have hge : (fs.length : Int) ≤ (k : Int) := Int.ofNat_le.2 (Nat.le_of_not_lt hlt)
      have hkl : fs.take k = fs := List.take_of_length_le (Nat.le_of_not_lt hlt)
      rw [hkl] at hio
      obtain ⟨bs, hbs⟩ : ∃ bs, bs = fs.map frBytes := ⟨_, rfl⟩
      rw [← hbs] at hio
      have HBS := Lib.hid hbs
      have hb5 : ∀ b ∈ bs, b.length ≤ 5000 := fun b hb => by
        rw [hbs] at hb
        obtain ⟨f, hf, rfl⟩ := List.mem_map.1 hb
        exact frB_len (HOK.out f hf)
      have hvb : vs.length = bs.length := by rw [hbs, List.length_map]; omega
      have hbn : bs.length ≤ 1000 := by rw [hbs, List.length_map]; exact hnl
      obtain ⟨Fv, hrv⟩ := hio.get 1 rfl
      obtain ⟨av, cv, rfl, -, -, -⟩ := RowA.shape hrv
      unfold SwL at hio
      rw [hvb] at hio
      have h3 : In F0 w0 wr (LgA lb bd l :: DkA bd d :: Cells w.heap.size #[dptr lb] 28 :: Cells (w.heap.size + 1) #[.int .i64 ver] 3 :: Cells (w.heap.size + 1 + 1) #[.slice av bs.length cv] 22 :: RowA 23 1 (.slice av bs.length cv) bs.length vs :: (bodB vs bs ++ R)) := (In.midL (X := [_, _]) (B := [_, _, _, _]) hio).sel2 (R1 := [_, _, _, _, _, _]) [4, 5, 3, 2, 0, 1] (by decide) rfl
      have KS := Lib.hid (o_settle h3 (Nat.le_trans HLO.out.2 (by decide)))
      have z0 : wr.cell? ⟨w.heap.size, 0, none⟩ = some (dptr lb) := cell_of (h3.block 2 rfl) rfl
      have hlo1 := settleL_ok (s := (d, l)) HLO.out.1
      have hop1 := settleL_ops (d, l)
      have hoo := HLO.out.2
      by_cases hz : (settleL (d, l)).2 = 0
      · have HSE := Lib.hid (swapL_end ver bs (d, l) hz)
        generalize settleL (d, l) = rs at *
        obtain ⟨⟨d1, l1⟩, e1⟩ := rs
        simp only at hz KS hlo1 hop1 HSE
        subst hz
        have ho1 : d1.ops ≤ 99900000 := by omega
        have HB := Lib.hid (And.intro hlo1 (And.intro ho1 (And.intro hb5 (And.intro hbn hvb))))
        clear hio hrv h3 hb5 hbn hvb hlo1 hop1 hoo ho1 hbs hkl hlt hk hvs HOK HV HLO hnl
        go_wp2_with fail
        refine KS.out.mono ?_
        rintro e w1 ⟨rfl, g1⟩
        have z1 : w1.cell? ⟨w.heap.size, 0, none⟩ = some (dptr lb) := cell_of (g1.block 2 rfl) rfl
        obtain ⟨pa, pc, g2⟩ := g1.lgOpen
        have z4 : w1.cell? ⟨lb, 4, none⟩ = some (.slice pa l1.m.segs.length pc) := cell_of (g2.block 1 rfl) rfl
        have g3 := (((((g2.lgpClose).rownil 3 1).cells #[.slice none 0 0] 43).sel2 (R1 := [_, _]) [1, 0] (by decide) rfl).segClose (segs := [])).cells #[.bool false] 4
        have g4 := g3.cells #[.func (.func 92) #[] #[.pointer (some ⟨w.heap.size, 0, none⟩), .pointer (some ⟨w.heap.size + 1 + 1, 0, none⟩), .pointer (some ⟨w1.heap.size, 0, none⟩)], .func (.func 94) #[] #[.pointer (some ⟨w.heap.size, 0, none⟩), .pointer (some ⟨w.heap.size + 1, 0, none⟩), .pointer (some ⟨w1.heap.size, 0, none⟩), .pointer (some ⟨w1.heap.size + 1, 0, none⟩)]] 48
        simp only [World.size_alloc] at g4
        have g5 := g4.sel2 (R1 := [_, _, _, _, _]) [0, 3, 4, 2, 1] (by decide) rfl
        have KA := Lib.hid (swap_all (ver := ver) HB.out.2.2.2.2 HB.out.1 HB.out.2.1 HB.out.2.2.1 HB.out.2.2.2.1 _ rfl g5)
        clear g1 g2 g3 g4 g5 KS z0
        go_wp2_with fail
        refine KA.out.mono ?_
        rintro e w2 ⟨rfl, g7⟩
        have hops := swapT_ops (ver := ver) (l := l1) (d := d1) HB.out.2.2.1
        have hon := swapT_on (ver := ver) (bs := bs) (l := l1) (d := d1)
        have hoff := swapT_off (ver := ver) (bs := bs) (l := l1) (d := d1)
        generalize swapT ver bs l1 d1 = r at *
        have hlen1 : l1.m.segs.length ≤ 64 := (mayM_iff.1 HB.out.1.2.2).1.2.2.2.1
        have hseg1 : ∀ x ∈ l1.m.segs, x < 4611686018427387904 := fun x hx => Nat.lt_trans (mayM_seg HB.out.1.2.2 hx).2.2 (by decide)
        have hnx1 : l1.m.next ≤ 1000000 := (mayM_iff.1 HB.out.1.2.2).1.2.2.2.2.2
        have hod1 := HB.out.2.1
        have hbn1 := HB.out.2.2.2.1
        have HN1 := Lib.hid (And.intro hlen1 hseg1)
        by_cases hr : r.2 = 0
        · have h8 : In F0 w0 w2 (LgA lb bd r.1.l :: DkA bd r.1.d :: RowA 3 1 (.slice pa l1.m.segs.length pc) l1.m.segs.length (segV l1.m.segs) :: Cells (w1.heap.size + 1) #[.bool true] 4 :: Cells w.heap.size #[dptr lb] 28 :: Cells (w.heap.size + 1) #[.int .i64 ver] 3 :: Cells (w.heap.size + 1 + 1) #[.slice av bs.length cv] 22 :: RowA 23 1 (.slice av bs.length cv) bs.length vs :: (bodB vs bs ++ R)) := by
            unfold SwX at g7; rw [if_pos (hon hr)] at g7; exact g7
          have HEND : Hid (∀ w', In F0 w0 w' (LgA lb bd r.1.l :: DkA bd (removeD l1.m.segs r.1.d) :: RowA 3 1 (.slice pa l1.m.segs.length pc) l1.m.segs.length (segV l1.m.segs) :: Cells (w1.heap.size + 1) #[.bool true] 4 :: Cells w.heap.size #[dptr lb] 28 :: Cells (w.heap.size + 1) #[.int .i64 ver] 3 :: Cells (w.heap.size + 1 + 1) #[.slice av bs.length cv] 22 :: RowA 23 1 (.slice av bs.length cv) bs.length vs :: (bodB vs bs ++ R)) → SwapPost lb bd (swapL ver bs (d, l)) F0 w0 R (.returned (.int .i64 0)) w') := Lib.hid fun w' h' => by
            refine post_of (r := swapEnd l1 r) (Y := []) HSE.out ?_ ?_
            · unfold swapEnd; rw [if_pos hr]
            · unfold swapEnd; rw [if_pos hr]
              exact In.dropMid (X := [_, _]) (h'.sel2 (R1 := [_, _, _, _, _, _, _, _]) [0, 1] (by decide) rfl)
          have HR2 : Hid (RmRel lb bd r.1.l r.1.d l1.m.segs (RowA 3 1 (.slice pa l1.m.segs.length pc) l1.m.segs.length (segV l1.m.segs) :: Cells (w1.heap.size + 1) #[.bool true] 4 :: Cells w.heap.size #[dptr lb] 28 :: Cells (w.heap.size + 1) #[.int .i64 ver] 3 :: Cells (w.heap.size + 1 + 1) #[.slice av bs.length cv] 22 :: RowA 23 1 (.slice av bs.length cv) bs.length vs :: (bodB vs bs ++ R)) F0 w0 (.int .i64 0) w2) := Lib.hid ⟨0, Nat.zero_le _, rfl, h8⟩
          have HOP : Hid (r.1.d.ops ≤ 99999000) := Lib.hid (by omega)
          have HZ := Lib.hid hr
          clear h8 g7 hon hoff hops hr KA HB HSE hlen1 hseg1 hnx1 hod1 hbn1 z1 z4
          rw [HZ.out]
          go_wp2_with fail
          go_loopw [65] (RmRel lb bd r.1.l r.1.d l1.m.segs (RowA 3 1 (.slice pa l1.m.segs.length pc) l1.m.segs.length (segV l1.m.segs) :: Cells (w1.heap.size + 1) #[.bool true] 4 :: Cells w.heap.size #[dptr lb] 28 :: Cells (w.heap.size + 1) #[.int .i64 ver] 3 :: Cells (w.heap.size + 1 + 1) #[.slice av bs.length cv] 22 :: RowA 23 1 (.slice av bs.length cv) bs.length vs :: (bodB vs bs ++ R)) F0 w0) (fun k _ => l1.m.segs.length - (intOf k).toNat)
          case atStart => exact HR2.out
          case round =>
            obtain ⟨j, hj, rfl, hio⟩ := hrel
            clear HR2
            by_cases hlt : j < l1.m.segs.length
            · obtain ⟨x, hx⟩ : ∃ x, l1.m.segs[j]? = some x := ⟨l1.m.segs[j], List.getElem?_eq_getElem hlt⟩
              obtain ⟨Fs, hrow⟩ := hio.get 2 rfl
              obtain ⟨b, rfl, c0⟩ := hrow.at.2 j _ (segV_at hx)
              have hlt' : (j : Int) < (l1.m.segs.length : Int) := Int.ofNat_lt.2 hlt
              have hw2 : wrap64 ((j : Int) + 1) = (j : Int) + 1 := by have := HN1.out.1; unfold wrap64; omega
              obtain ⟨Q, hQ⟩ : ∃ Q, Q = (RowA 3 1 (.slice (some ⟨b, 0, none⟩) l1.m.segs.length pc) l1.m.segs.length (segV l1.m.segs) :: Cells (w1.heap.size + 1) #[.bool true] 4 :: Cells w.heap.size #[dptr lb] 28 :: Cells (w.heap.size + 1) #[.int .i64 ver] 3 :: Cells (w.heap.size + 1 + 1) #[.slice av bs.length cv] 22 :: RowA 23 1 (.slice av bs.length cv) bs.length vs :: (bodB vs bs ++ R)) := ⟨_, rfl⟩
              have hQ2 : Q[2]? = some (Cells w.heap.size #[dptr lb] 28) := by rw [hQ]; rfl
              rw [← hQ] at hio ⊢
              have HN := Lib.hid (fun w' h' => rm_step (w := w') (l := r.1.l) (lb := lb) (bd := bd) (d := r.1.d) (F0 := F0) (w0 := w0) (Q := Q) hx h')
              have KN := Lib.hid (o_name (hio.drewN 1) x (HN1.out.2 x (List.mem_of_getElem? hx)))
              have KC := Lib.hid (fun w' (h' : In F0 w0 w' (LgA lb bd r.1.l :: DkA bd (removeD (l1.m.segs.take j) r.1.d) :: Q)) => o_dremove h' 1 rfl (rm_ops HOP.out (Nat.le_trans HN1.out.1 (by decide))) (segName x) (segName_size x))
              have HLY := Lib.hid (fun w' d' (h' : In F0 w0 w' (LgA lb bd r.1.l :: DkA bd d' :: Q)) => And.intro (show w'.cell? ⟨w.heap.size, 0, none⟩ = some (dptr lb) from cell_of (h'.block 4 hQ2) rfl) h'.lg0)
              obtain ⟨y0, y1⟩ := HLY.out wr _ hio
              clear hio hrow hj hlt hx hQ hQ2
              go_wp2_with fail
              go_region_held3 (fun w' => w'.cell? ⟨w.heap.size, 0, none⟩ = some (dptr lb) ∧ w'.cell? ⟨lb, 0, none⟩ = some (dptr bd)) (first | exact ⟨hz1, hz2⟩ | exact ⟨y0, y1⟩ | go_keep)
                (first
                  | (go_at_call 65; refine KN.out.mono ?_; rintro e w3 ⟨rfl, g1⟩; obtain ⟨hz1, hz2⟩ := HLY.out w3 _ g1; have K1 := Lib.hid (KC.out w3 g1); clear g1)
                  | (go_at_call 96; refine K1.out.mono ?_; rintro e w4 ⟨rfl, g2⟩; obtain ⟨hz1, hz2⟩ := HLY.out w4 _ g2; have HN2 := Lib.hid (HN.out w4 g2); clear g2))
              go_wp2_with fail
              go_roundw
              case rel => (try rw [hw2]); exact HN2.out
              case measure => (try rw [hw2]); exact meas_lt hlt'
            · have hge : (l1.m.segs.length : Int) ≤ (j : Int) := Int.ofNat_le.2 (Nat.le_of_not_lt hlt)
              have hkl : l1.m.segs.take j = l1.m.segs := List.take_of_length_le (Nat.le_of_not_lt hlt)
              rw [hkl] at hio
              have G := Lib.hid (HEND.out wr hio)
              clear hio hkl hlt hj HEND
              go_wp2_with fail
              go_ret
              have GG := G.out
              rw [HBS.out] at GG
              exact GG
        · have q : (r.2 == 0) = false := beq_eq_false_iff_ne.2 hr
          cases hrn : r.1.on with
          | true =>
            have h8 : In F0 w0 w2 (LgA lb bd r.1.l :: DkA bd r.1.d :: RowA 3 1 (.slice pa l1.m.segs.length pc) l1.m.segs.length (segV l1.m.segs) :: Cells (w1.heap.size + 1) #[.bool true] 4 :: Cells w.heap.size #[dptr lb] 28 :: Cells (w.heap.size + 1) #[.int .i64 ver] 3 :: Cells (w.heap.size + 1 + 1) #[.slice av bs.length cv] 22 :: RowA 23 1 (.slice av bs.length cv) bs.length vs :: (bodB vs bs ++ R)) := by
              unfold SwX at g7; rw [if_pos hrn] at g7; exact g7
            have G : Hid (SwapPost lb bd (swapL ver bs (d, l)) F0 w0 R (.returned (.int .i64 r.2)) w2) := Lib.hid (by
              refine post_of (r := swapEnd l1 r) (Y := []) HSE.out ?_ ?_
              · unfold swapEnd; rw [if_neg hr, if_pos hrn]
              · unfold swapEnd; rw [if_neg hr, if_pos hrn]
                exact In.dropMid (X := [_, _]) (h8.sel2 (R1 := [_, _, _, _, _, _, _, _]) [0, 1] (by decide) rfl))
            have y0 : w2.cell? ⟨w1.heap.size + 1, 0, none⟩ = some (.bool true) := cell_of (h8.block 3 rfl) rfl
            clear h8 g7 hon hoff hops hr KA HB HSE hlen1 hseg1 hnx1 hod1 hbn1 z1 z4 hrn
            go_wp2_with fail
            go_ret
            have GG := G.out
            rw [HBS.out] at GG
            exact GG
          | false =>
            have h8 : In F0 w0 w2 (LgP (.slice pa l1.m.segs.length pc) lb bd l1 :: DkA bd r.1.d :: SegA w1.heap.size r.1.segs :: Cells (w1.heap.size + 1) #[.bool false] 4 :: Cells w.heap.size #[dptr lb] 28 :: Cells (w.heap.size + 1) #[.int .i64 ver] 3 :: Cells (w.heap.size + 1 + 1) #[.slice av bs.length cv] 22 :: RowA 23 1 (.slice av bs.length cv) bs.length vs :: (bodB vs bs ++ R)) := by
              unfold SwX at g7; rw [if_neg (by rw [hrn]; simp)] at g7; exact g7
            obtain ⟨sa, sc, h9⟩ := ((h8.lgpA).sel2 (R1 := [_, _, _]) [2, 0, 1] (by decide) rfl).segOpen
            have y0 : w2.cell? ⟨w1.heap.size + 1, 0, none⟩ = some (.bool false) := cell_of (h9.block 4 rfl) rfl
            have y1 : w2.cell? ⟨w.heap.size, 0, none⟩ = some (dptr lb) := cell_of (h9.block 5 rfl) rfl
            have y2 : w2.cell? ⟨w1.heap.size, 0, none⟩ = some (.slice sa r.1.segs.length sc) := cell_of (h9.block 1 rfl) rfl
            have KD := Lib.hid (o_drop (h9.sel2 (R1 := [_, _, _, _]) [2, 3, 0, 1] (by decide) rfl) (by omega) (by omega) (fun x hx => by have := hops.2.2 x hx; omega))
            have HEND : Hid (∀ w', In F0 w0 w' (LgA lb bd l1 :: DkA bd (dropD r.1.segs r.1.d) :: RowA 3 1 (.slice sa r.1.segs.length sc) r.1.segs.length (segV r.1.segs) :: Cells w1.heap.size #[.slice sa r.1.segs.length sc] 43 :: Cells (w1.heap.size + 1) #[.bool false] 4 :: Cells w.heap.size #[dptr lb] 28 :: Cells (w.heap.size + 1) #[.int .i64 ver] 3 :: Cells (w.heap.size + 1 + 1) #[.slice av bs.length cv] 22 :: RowA 23 1 (.slice av bs.length cv) bs.length vs :: (bodB vs bs ++ R)) → SwapPost lb bd (swapL ver bs (d, l)) F0 w0 R (.returned (.int .i64 r.2)) w') := Lib.hid fun w' h' => by
              refine post_of (r := swapEnd l1 r) (Y := []) HSE.out ?_ ?_
              · unfold swapEnd; rw [if_neg hr, if_neg (by rw [hrn]; simp)]
              · unfold swapEnd; rw [if_neg hr, if_neg (by rw [hrn]; simp)]
                simp only
                rw [hoff hrn]
                exact In.dropMid (X := [_, _]) (h'.sel2 (R1 := [_, _, _, _, _, _, _, _, _]) [0, 1] (by decide) rfl)
            clear h8 h9 g7 hon hoff hops hr KA HB HSE hlen1 hseg1 hnx1 hod1 hbn1 z1 z4 hrn
            go_wp2_with fail
            refine KD.out.mono ?_
            rintro e w3 ⟨rfl, g8⟩
            have G := Lib.hid (HEND.out w3 g8)
            clear g8 KD HEND
            go_wp2_with fail
            go_ret
            have GG := G.out
            rw [HBS.out] at GG
            exact GG
      · have q : ((settleL (d, l)).2 != 0) = true := by rw [bne_iff_ne]; exact hz
        have HX : Hid (∀ w', In F0 w0 w' (LgA lb bd (settleL (d, l)).1.2 :: DkA bd (settleL (d, l)).1.1 :: Cells w.heap.size #[dptr lb] 28 :: Cells (w.heap.size + 1) #[.int .i64 ver] 3 :: Cells (w.heap.size + 1 + 1) #[.slice av bs.length cv] 22 :: RowA 23 1 (.slice av bs.length cv) bs.length vs :: (bodB vs bs ++ R)) → SwapPost lb bd (swapL ver bs (d, l)) F0 w0 R (.returned (.int .i64 (settleL (d, l)).2)) w') := Lib.hid fun w' h' => by
          rw [swapL_err hz]
          exact ⟨rfl, In.dropMid (X := [_, _]) (h'.sel2 (R1 := [_, _, _, _, _, _]) [0, 1] (by decide) rfl)⟩
        clear hio hrv h3 hb5 hbn hvb hlo1 hop1 hoo hbs hkl hlt hk hvs HOK HV HLO hnl hz
        go_wp2_with fail
        refine KS.out.mono ?_
        rintro e w1 ⟨rfl, g1⟩
        have G := Lib.hid (HX.out w1 g1)
        clear g1 KS HX
        go_wp2_with fail
        go_ret
        have GG := G.out
        rw [HBS.out] at GG
        exact GG
end
end Go.Proofs.YtogclkhpbjfadaaGreat
