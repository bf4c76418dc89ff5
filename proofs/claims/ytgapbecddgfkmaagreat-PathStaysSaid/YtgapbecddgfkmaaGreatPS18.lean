/- Rows.PathStaysSaid -/
import Derived.Test.YtgapbecddgfkmaaGreatPS9
import Derived.Test.YtgapbecddgfkmaaGreatPS12
import Derived.Test.YtgapbecddgfkmaaGreatPS13
import Derived.Test.YtgapbecddgfkmaaGreatPS16
import Derived.Test.YtgapbecddgfkmaaGreatPS17
import Derived.Test.YtgapbecddgfkmaaGreatPS3
import Derived.Test.YtgapbecddgfkmaaGreatPS11
import Derived.Test.YtgapbecddgfkmaaGreatPS10
import Derived.Test.YtgapbecddgfkmaaGreatPS2
namespace Go.Proofs.YtgapbecddgfkmaaGreat
open Go.RowKit
set_option linter.unusedVariables false
set_option maxHeartbeats 64000000
set_option maxRecDepth 100000
theorem zT0_wf : WfT zT0 := ⟨by decide, by decide, by decide, by decide, by decide, by decide, by decide, by decide, by decide, by decide⟩
theorem within_wf (b : List UInt8) : WfT (withinD b).1 := by
  have hz : ∀ c, WfT (withinOf (zH, [], c)).1 := fun c => by
    unfold withinOf
    dsimp only
    split
    · exact zT0_wf
    · split
      · exact zT0_wf
      · split
        · rename_i h; exact absurd h (by decide)
        · split
          · rename_i h; exact absurd h (by decide)
          · exact zT0_wf
  have h1 := p32_lt b 12
  have h2 := p32_lt b 16
  unfold withinD parseD
  split
  · exact hz _
  split
  · exact hz _
  split
  · exact hz _
  split
  · exact hz _
  split
  · exact hz _
  split
  · exact hz _
  split
  · exact hz _
  generalize (b.take (p16 b 2)).drop (4 * (byN b 0 % 16)) = rest
  have h3 := p16_lt rest 0
  have h4 := p16_lt rest 2
  unfold withinOf
  dsimp only
  split
  · exact zT0_wf
  split
  · exact zT0_wf
  have hs : (readH b).src = (p32 b 12 : Nat) := rfl
  have hd : (readH b).dst = (p32 b 16 : Nat) := rfl
  split
  · rename_i hp
    split
    · rw [hs, hd, hp]
      constructor <;> dsimp only <;> omega
    · exact zT0_wf
  split
  · rename_i hp
    split
    · rw [hs, hd, hp]
      constructor <;> dsimp only <;> omega
    · exact zT0_wf
  · exact zT0_wf
theorem find_mem {l : List Bk} {id : Int} {b : Bk} (h : findBk l id = some b) : b ∈ l := List.mem_of_find?_eq_some h
theorem pick_mem {c : ChD} {k : Tup} {b : Bk} (h : pickCh c k = some b) : b ∈ c.l := by
  unfold pickCh at h
  split at h
  · exact find_mem h
  · cases h
theorem choice_eq (L : List Fl) (ch : ChD) (k : Tup) : choiceD L ch k = if (atF L k).isSome = true ∧ (findBk ch.l ((atF L k).getD zF).bk).isSome = true then findBk ch.l ((atF L k).getD zF).bk else pickCh ch k := by
  unfold choiceD
  cases atF L k with
  | none => simp
  | some f =>
    simp only [Option.getD_some, Option.isSome_some, true_and]
    cases findBk ch.l f.bk with
    | none => simp
    | some b => simp
theorem choice_mem {L : List Fl} {ch : ChD} {k : Tup} {b : Bk} (h : choiceD L ch k = some b) : b ∈ ch.l := by
  rw [choice_eq] at h
  split at h
  · exact find_mem h
  · exact pick_mem h
def pktOf (most : Int) (L : List Fl) (k : Tup) (why : Int) (co : Option Bk) (wf : Bk → List UInt8 × Int) (gen now : Int) (kn : Bool) (was : Int) (en : Bool) : PlanD × List Fl :=
  if why ≠ 0 then (dropP why, L)
  else match co with
    | none => (dropP 10, L)
    | some be =>
      if (wf be).2 ≠ 0 then (dropP (wf be).2, L)
      else (⟨2, 0, be.id, (wf be).1, (keepD most L ⟨k, be.id, gen, now⟩ kn was en).1⟩, (keepD most L ⟨k, be.id, gen, now⟩ kn was en).2)
theorem pkt_of {self mtu most : Int} {L : List Fl} {c : ChD} {gen now : Int} {b : List UInt8} (h : 0 ≤ now ∧ now ≤ 1099511627776) :
    pktD self mtu most L c gen now b = pktOf most L (withinD b).1 (withinD b).2.2.2 (choiceD L c (withinD b).1) (fun be => wrapD b self be.addr mtu) gen now (atF L (withinD b).1).isSome (wasD L (withinD b).1) (endsD (withinD b).1 b) := by
  unfold pktD pktOf
  rw [if_pos h]
  cases choiceD L c (withinD b).1 <;> rfl
abbrev plC (v r bk : Int) (vp vr : Value) : Array Value := #[.int .i64 v, .int .i64 r, .int .i64 bk, vp, vr]
abbrev planV (p : PlanD) (vp vr : Value) : Value := .agg (plC p.verdict p.reason p.bk vp vr)
theorem plC_all (v r bk : Int) (a1 a2 : Option Addr) (n1 n2 c1 c2 : Nat) : (plC v r bk (.slice a1 n1 c1) (.slice a2 n2 c2)).all (·.oneCell') = true := by simp [Value.oneCell']
section
variable {F0 : List Nat} {w0 w : World} {R : List Asrt}
theorem Bytes.moreL {A : Option Addr} {n : Nat} {b : List UInt8} (hb : Bytes F0 w0 R A n b) : ∀ X : List Asrt, Bytes F0 w0 (X ++ R) A n b
  | [] => hb
  | Y :: X => (Bytes.moreL hb X).more Y
theorem pa_drop (why : Int) (w : World) : Calls Tryz.prog 40 #[.int .i64 why] w fun e w' => e = .returned (planV (dropP why) (.slice none 0 0) (.slice none 0 0)) ∧ w' = w.alloc (.cells (plC 1 why 0 (.slice none 0 0) (.slice none 0 0)) 43) := by
  go_enter Tryz.func40, Tryz.ntmps40
  go_wp2_with fail
  exact bodyPost_ret (results_cell_row Tryz.results40 _ _ w.heap.size 43 _ (0, 0) _ rfl (heap_alloc_new _ _) Tryz.underlying43 rfl (by kernel_rfl)) rfl ⟨rfl, rfl⟩
end
def lo8 (n : Nat) : UInt8 := UInt8.ofNat n
theorem be1 (n : Nat) : be n 1 = [lo8 n] := by simp [be, beTo, lo8]
theorem be2 (n : Nat) : be n 2 = [lo8 (n / 256), lo8 n] := by simp [be, beTo, lo8, List.range_succ]
theorem be4 (n : Nat) : be n 4 = [lo8 (n / 16777216), lo8 (n / 65536), lo8 (n / 256), lo8 n] := by simp [be, beTo, lo8, List.range_succ]
theorem lo8_nat (n : Nat) : (lo8 n).toNat = n % 256 := by simp [lo8]
def foNat (h : Hd) : Nat := u64 (h.flags * 8192 + h.off)
theorem headL_eq (h : Hd) (c : Nat) : headL h c = [69, lo8 (u64 h.tos), lo8 (u64 h.len / 256), lo8 (u64 h.len), lo8 (u64 h.id / 256), lo8 (u64 h.id), lo8 (foNat h / 256), lo8 (foNat h), lo8 (u64 h.ttl), lo8 (u64 h.proto), lo8 (c / 256), lo8 c,
    lo8 (u64 h.src / 16777216), lo8 (u64 h.src / 65536), lo8 (u64 h.src / 256), lo8 (u64 h.src), lo8 (u64 h.dst / 16777216), lo8 (u64 h.dst / 65536), lo8 (u64 h.dst / 256), lo8 (u64 h.dst)] := by
  unfold headL; simp only [be1, be2, be4]; rfl
theorem headL_words (h : Hd) {c : Nat} (hc : c < 65536) : words (headL h c) = words (headL h 0) + c := by
  rw [headL_eq, headL_eq]
  simp only [words, lo8_nat]
  omega
theorem headL_pos (h : Hd) : 0 < words (headL h 0) := by
  rw [headL_eq]; simp only [words]
  have : (69 : UInt8).toNat = 69 := rfl
  omega
theorem net_zero (h : Hd) : netN (buildD h) = 0 := by
  unfold buildD
  unfold netN
  have hp := headL_pos h
  have e : words (headL h (65535 - foldN (words (headL h 0)))) = words (headL h 0) + (65535 - foldN (words (headL h 0))) := headL_words h (by omega)
  rw [e]
  have h1 := foldN_le (words (headL h 0))
  have h2 : foldN (words (headL h 0)) = (words (headL h 0) - 1) % 65535 + 1 := foldN_pos (by omega)
  rw [foldN_pos (by omega)]
  omega
def hdOf (h : Hd) (p : List UInt8) : Hd := ⟨5, ((u64 h.tos % 256 : Nat) : Int), ((20 + p.length : Nat) : Int), ((u64 h.id % 65536 : Nat) : Int), h.flags, h.off, ((u64 h.ttl % 256 : Nat) : Int), ((u64 h.proto % 256 : Nat) : Int), netN (headL h 0), h.src, h.dst⟩
theorem parse_build {h : Hd} {p : List UInt8} (hl : h.len = ((20 + p.length : Nat) : Int)) (hp : 20 + p.length < 65536) (f0 : 0 ≤ h.flags) (f1 : h.flags < 8) (o0 : 0 ≤ h.off) (o1 : h.off < 8192)
    (s0 : 0 ≤ h.src) (s1 : h.src < 4294967296) (d0 : 0 ≤ h.dst) (d1 : h.dst < 4294967296) : parseD (buildD h ++ p) = (hdOf h p, p, 0) := by
  unfold hdOf
  have hL : (buildD h).length = 20 := buildD_length h
  have hn := net_zero h
  have hc := netN_lt (headL h 0)
  have ul : u64 h.len = 20 + p.length := by rw [hl]; unfold u64; omega
  have uf : (((foNat h : Nat)) : Int) = h.flags * 8192 + h.off := by unfold foNat u64; omega
  have us : ((u64 h.src : Nat) : Int) = h.src := by unfold u64; omega
  have ud : ((u64 h.dst : Nat) : Int) = h.dst := by unfold u64; omega
  have eb : buildD h = headL h (netN (headL h 0)) := rfl
  generalize netN (headL h 0) = c at *
  have hb : ∃ L, L = buildD h ++ p := ⟨_, rfl⟩
  have e20 : (buildD h ++ p).take 20 = buildD h := by rw [List.take_append_of_le_length (by omega), List.take_of_length_le (by omega)]
  have d20 : ((buildD h ++ p).take (20 + p.length)).drop 20 = p := by
    rw [List.take_of_length_le (by rw [List.length_append, hL]; omega), List.drop_append, hL, List.drop_eq_nil_of_le (by omega)]; simp
  have hlen : (buildD h ++ p).length = 20 + p.length := by rw [List.length_append, hL]
  have b0 : byN (buildD h ++ p) 0 = 69 := by rw [eb, headL_eq]; rfl
  have b1 : byN (buildD h ++ p) 1 = u64 h.tos % 256 := by rw [eb, headL_eq]; exact lo8_nat _
  have b2 : byN (buildD h ++ p) 2 = u64 h.len / 256 % 256 := by rw [eb, headL_eq]; exact lo8_nat _
  have b3 : byN (buildD h ++ p) 3 = u64 h.len % 256 := by rw [eb, headL_eq]; exact lo8_nat _
  have b4 : byN (buildD h ++ p) 4 = u64 h.id / 256 % 256 := by rw [eb, headL_eq]; exact lo8_nat _
  have b5 : byN (buildD h ++ p) 5 = u64 h.id % 256 := by rw [eb, headL_eq]; exact lo8_nat _
  have b6 : byN (buildD h ++ p) 6 = foNat h / 256 % 256 := by rw [eb, headL_eq]; exact lo8_nat _
  have b7 : byN (buildD h ++ p) 7 = foNat h % 256 := by rw [eb, headL_eq]; exact lo8_nat _
  have b8 : byN (buildD h ++ p) 8 = u64 h.ttl % 256 := by rw [eb, headL_eq]; exact lo8_nat _
  have b9 : byN (buildD h ++ p) 9 = u64 h.proto % 256 := by rw [eb, headL_eq]; exact lo8_nat _
  have b10 : byN (buildD h ++ p) 10 = c / 256 % 256 := by rw [eb, headL_eq]; exact lo8_nat _
  have b11 : byN (buildD h ++ p) 11 = c % 256 := by rw [eb, headL_eq]; exact lo8_nat _
  have b12 : byN (buildD h ++ p) 12 = u64 h.src / 16777216 % 256 := by rw [eb, headL_eq]; exact lo8_nat _
  have b13 : byN (buildD h ++ p) 13 = u64 h.src / 65536 % 256 := by rw [eb, headL_eq]; exact lo8_nat _
  have b14 : byN (buildD h ++ p) 14 = u64 h.src / 256 % 256 := by rw [eb, headL_eq]; exact lo8_nat _
  have b15 : byN (buildD h ++ p) 15 = u64 h.src % 256 := by rw [eb, headL_eq]; exact lo8_nat _
  have b16 : byN (buildD h ++ p) 16 = u64 h.dst / 16777216 % 256 := by rw [eb, headL_eq]; exact lo8_nat _
  have b17 : byN (buildD h ++ p) 17 = u64 h.dst / 65536 % 256 := by rw [eb, headL_eq]; exact lo8_nat _
  have b18 : byN (buildD h ++ p) 18 = u64 h.dst / 256 % 256 := by rw [eb, headL_eq]; exact lo8_nat _
  have b19 : byN (buildD h ++ p) 19 = u64 h.dst % 256 := by rw [eb, headL_eq]; exact lo8_nat _
  have q2 : p16 (buildD h ++ p) 2 = 20 + p.length := by unfold p16; rw [b2, b3, ul]; omega
  have q4 : p16 (buildD h ++ p) 4 = u64 h.id % 65536 := by unfold p16; rw [b4, b5]; omega
  have q6 : p16 (buildD h ++ p) 6 = foNat h := by unfold p16; rw [b6, b7]; omega
  have q10 : p16 (buildD h ++ p) 10 = c := by unfold p16; rw [b10, b11]; omega
  have q12 : p32 (buildD h ++ p) 12 = u64 h.src := by unfold p32 p16; rw [b12, b13, b14, b15]; omega
  have q16 : p32 (buildD h ++ p) 16 = u64 h.dst := by unfold p32 p16; rw [b16, b17, b18, b19]; omega
  unfold parseD
  rw [b0, if_neg (by omega), if_neg (by decide), if_neg (by decide), if_neg (by omega), show 4 * (69 % 16) = 20 from rfl, e20, if_neg (by rw [hn]; decide), q2, if_neg (by omega), if_neg (by omega), d20]
  unfold readH
  rw [b0, b1, b8, b9, q2, q4, q6, q10, q12, q16, us, ud]
  congr 2
  · omega
  · omega
theorem innerL_length (k : Tup) (flags : Int) (body : List UInt8) : (innerL k flags body).length = (if k.proto = 6 then 20 else 8) + body.length := by
  unfold innerL; split <;> simp [be, beTo_length] <;> omega
theorem madeH_parse {k : Tup} (w : WfT k) (ttl : Int) (p : List UInt8) (hp : 20 + p.length < 65536) : parseD (buildD (madeH k ttl p.length) ++ p) = (hdOf (madeH k ttl p.length) p, p, 0) :=
  parse_build (h := madeH k ttl p.length) (by simp [madeH]) hp (by simp [madeH]) (by simp [madeH]) (by simp [madeH]) (by simp [madeH]) w.1 w.2 w.3 w.4
def madeHd (k : Tup) (ttl flags : Int) (body : List UInt8) : Hd := hdOf (madeH k ttl (innerL k flags body).length) (innerL k flags body)
theorem inner_ports {k : Tup} (h : MayT k) (flags : Int) (body : List UInt8) : ((p16 (innerL k flags body) 0 : Nat) : Int) = k.sport ∧ ((p16 (innerL k flags body) 2 : Nat) : Int) = k.dport := by
  obtain ⟨_, a, b, c, d⟩ := (mayT_iff k).1 h
  have e : ∃ R, innerL k flags body = lo8 (u64 k.sport / 256) :: lo8 (u64 k.sport) :: lo8 (u64 k.dport / 256) :: lo8 (u64 k.dport) :: R := ⟨_, by unfold innerL; rw [be2, be2]; simp; rfl⟩
  obtain ⟨R, e⟩ := e
  have b0 : byN (innerL k flags body) 0 = u64 k.sport / 256 % 256 := by rw [e]; exact lo8_nat _
  have b1 : byN (innerL k flags body) 1 = u64 k.sport % 256 := by rw [e]; exact lo8_nat _
  have b2 : byN (innerL k flags body) 2 = u64 k.dport / 256 % 256 := by rw [e]; exact lo8_nat _
  have b3 : byN (innerL k flags body) 3 = u64 k.dport % 256 := by rw [e]; exact lo8_nat _
  unfold p16
  rw [b0, b1, b2, b3]
  unfold u64
  constructor <;> omega
theorem inner_tcp {k : Tup} (hk : k.proto = 6) (flags : Int) (body : List UInt8) : tcpOk (innerL k flags body) = true := by
  have hl : (innerL k flags body).length = 20 + body.length := by rw [innerL_length, if_pos hk]
  have e : byN (innerL k flags body) 12 = 80 := by unfold innerL; rw [if_pos hk, be2, be2]; rfl
  unfold tcpOk
  rw [e, hl]; simp
theorem inner_udp {k : Tup} (hk : k.proto = 17) (flags : Int) (body : List UInt8) (hb : 8 + body.length < 65536) : udpOk (innerL k flags body) = true := by
  have hl : (innerL k flags body).length = 8 + body.length := by rw [innerL_length, if_neg (by omega)]
  have e4 : byN (innerL k flags body) 4 = (8 + body.length) / 256 % 256 := by unfold innerL; rw [if_neg (by omega), be2, be2, be2]; exact lo8_nat _
  have e5 : byN (innerL k flags body) 5 = (8 + body.length) % 256 := by unfold innerL; rw [if_neg (by omega), be2, be2, be2]; exact lo8_nat _
  have e : p16 (innerL k flags body) 4 = 8 + body.length := by unfold p16; rw [e4, e5]; omega
  unfold udpOk
  rw [e, hl]; simp
theorem made_within {k : Tup} (w : WfT k) (h : MayT k) (ttl flags : Int) (body : List UInt8) (hb : body.length ≤ 60000) : withinD (madeD k ttl flags body) = (k, madeHd k ttl flags body, innerL k flags body, 0) := by
  have hi : (innerL k flags body).length ≤ 60020 := by rw [innerL_length]; split <;> omega
  have hp := madeH_parse w ttl (innerL k flags body) (by omega)
  unfold withinD madeD
  rw [hp]
  obtain ⟨p1, p2⟩ := inner_ports h flags body
  have pr : k.proto = 6 ∨ k.proto = 17 := h.1
  have e1 : (hdOf (madeH k ttl (innerL k flags body).length) (innerL k flags body)).proto = k.proto := by
    unfold hdOf madeH u64; simp only; omega
  have e2 : wholeH (hdOf (madeH k ttl (innerL k flags body).length) (innerL k flags body)) = true := rfl
  have e3 : (hdOf (madeH k ttl (innerL k flags body).length) (innerL k flags body)).src = k.src := rfl
  have e4 : (hdOf (madeH k ttl (innerL k flags body).length) (innerL k flags body)).dst = k.dst := rfl
  unfold withinOf
  simp only [e1, e2, e3, e4, p1, p2]
  rcases pr with pr | pr
  · rw [if_neg (show ¬ ((0 : Int) ≠ 0) by decide), if_neg (show ¬ (true = false) by decide), if_pos pr, inner_tcp pr, if_pos rfl]; rfl
  · rw [if_neg (show ¬ ((0 : Int) ≠ 0) by decide), if_neg (show ¬ (true = false) by decide), if_neg (show ¬ k.proto = 6 by omega), if_pos pr, inner_udp pr _ _ (by omega), if_pos rfl]; rfl
theorem made_ends {k : Tup} (w : WfT k) (h : MayT k) (ttl flags : Int) (body : List UInt8) (hb : body.length ≤ 60000) : endsD k (madeD k ttl flags body) = (decide (k.proto = 6) && decide (u64 flags % 256 &&& 5 ≠ 0)) := by
  unfold endsD
  rw [made_within w h ttl flags body hb]
  unfold endsOf
  simp only [decide_true, Bool.true_and]
  by_cases hk : k.proto = 6
  · have e : byN (innerL k flags body) 13 = u64 flags % 256 := by unfold innerL; rw [if_pos hk, be2, be2]; exact lo8_nat _
    rw [e]
  · rw [decide_eq_false hk]; rfl
theorem made_wrap {k : Tup} (w : WfT k) (ttl flags : Int) (body : List UInt8) (hb : body.length ≤ 60000) (self dst2 mtu : Int) :
    (wrapD (madeD k ttl flags body) self dst2 mtu).2 = if u64 ttl % 256 ≤ 1 then 7 else if min mtu 2000 < 40 + ((innerL k flags body).length : Int) then 11 else 0 := by
  have hi : (innerL k flags body).length ≤ 60020 := by rw [innerL_length]; split <;> omega
  have hp := madeH_parse w ttl (innerL k flags body) (by omega)
  unfold wrapD
  rw [show parseD (madeD k ttl flags body) = _ from hp]
  unfold wrapOf
  have e1 : (hdOf (madeH k ttl (innerL k flags body).length) (innerL k flags body)).ttl = ((u64 ttl % 256 : Nat) : Int) := rfl
  have e2 : (hdOf (madeH k ttl (innerL k flags body).length) (innerL k flags body)).len = ((20 + (innerL k flags body).length : Nat) : Int) := rfl
  simp only [e1, e2]
  by_cases h1 : u64 ttl % 256 ≤ 1
  · rw [if_pos h1, if_neg (by decide), if_pos (by omega)]
  · rw [if_neg h1, if_neg (by decide), if_neg (by omega)]
    by_cases h2 : min mtu 2000 < 40 + ((innerL k flags body).length : Int)
    · rw [if_pos h2, if_pos (by omega)]
    · rw [if_neg h2, if_neg (by omega)]
theorem cov13 : ∀ s, 1 ≤ s → s < 13 → Cov 13 s := by
  have h : ∀ s, s < 13 → 1 ≤ s → ∀ a, a < 13 → ∀ p, p < 13 → ∃ k, k < 13 ∧ (a + k * s) % 13 = p := by decide +kernel
  exact fun s h1 h2 => h s h2 h1
theorem may13 : mayM ((13 : Nat) : Int) = true := by decide +kernel
theorem table4 : tableM [⟨4, 9, 1⟩] 13 = List.replicate 13 4 := by decide +kernel
theorem pick_one {c : ChD} {b : Bk} {k : Tup} (hs : c.slots = 13) (hl : c.l = [b]) (ht : c.t = List.replicate 13 b.id) (hk : MayT k) : pickCh c k = some b := by
  unfold pickCh
  rw [if_pos hk, hs, hl, ht]
  have hx : hashT k % 13 < 13 := Nat.mod_lt _ (by decide)
  have : (List.replicate 13 b.id).getD (hashT k % 13) 0 = b.id := by
    rw [List.getD_eq_getElem?_getD, List.getElem?_replicate, if_pos hx]; rfl
  rw [this]
  unfold findBk
  simp
theorem made_pkt {self mtu most gen now : Int} {L : List Fl} {c : ChD} {k : Tup} (wk : WfT k) (mk : MayT k) (ttl flags : Int) (body : List UInt8) (hb : body.length ≤ 60000) (hn : 0 ≤ now ∧ now ≤ 1099511627776) :
    pktD self mtu most L c gen now (madeD k ttl flags body) = pktOf most L k 0 (choiceD L c k) (fun be => wrapD (madeD k ttl flags body) self be.addr mtu) gen now (atF L k).isSome (wasD L k) (decide (k.proto = 6) && decide (u64 flags % 256 &&& 5 ≠ 0)) := by
  rw [pkt_of hn, made_within wk mk ttl flags body hb]
  dsimp only
  rw [made_ends wk mk ttl flags body hb]
theorem made_goes {self mtu most gen now : Int} {L : List Fl} {c : ChD} {k : Tup} {be : Bk} (wk : WfT k) (mk : MayT k) (ttl flags : Int) (body : List UInt8) (hb : body.length ≤ 60000) (hn : 0 ≤ now ∧ now ≤ 1099511627776) (h : choiceD L c k = some be)
    (h1 : ¬ u64 ttl % 256 ≤ 1) (h2 : ¬ min mtu 2000 < 40 + ((innerL k flags body).length : Int)) :
    ∃ pk, pktD self mtu most L c gen now (madeD k ttl flags body) = (⟨2, 0, be.id, pk, (keepD most L ⟨k, be.id, gen, now⟩ (atF L k).isSome (wasD L k) (decide (k.proto = 6) && decide (u64 flags % 256 &&& 5 ≠ 0))).1⟩, (keepD most L ⟨k, be.id, gen, now⟩ (atF L k).isSome (wasD L k) (decide (k.proto = 6) && decide (u64 flags % 256 &&& 5 ≠ 0))).2) := by
  rw [made_pkt wk mk ttl flags body hb hn, h]
  unfold pktOf
  rw [if_neg (by decide)]
  dsimp only
  rw [made_wrap wk ttl flags body hb, if_neg h1, if_neg h2, if_neg (by decide)]
  exact ⟨_, rfl⟩
theorem bkV_consD (b : Bk) (l : List Bk) : bkV (b :: l) = encB b ++ bkV l := by simp [bkV]
theorem bkV_setD : ∀ {L : List Bk} {i : Nat} (x : Bk), i < L.length → putAt (bkV L) (i * 3) (encB x) = bkV (L.set i x)
  | [], i, x, h => by simp at h
  | y :: r, 0, x, h => by
    rw [List.set_cons_zero, bkV_consD, bkV_consD]; unfold putAt; simp [encB]
  | y :: r, i + 1, x, h => by
    have ih := bkV_setD (L := r) (i := i) x (by simpa using h)
    rw [List.set_cons_succ, bkV_consD, bkV_consD, ← ih]; unfold putAt
    have l1 : (encB y).length = 3 := rfl
    rw [List.take_append, List.drop_append, l1]
    rw [show (i + 1) * 3 - 3 = i * 3 by omega, show (i + 1) * 3 + (encB x).length - 3 = i * 3 + (encB x).length by omega]
    rw [List.take_of_length_le (by rw [l1]; omega), List.drop_eq_nil_of_le (by rw [l1]; omega)]
    simp
theorem bkV_takeD (L : List Bk) (m : Nat) : (bkV L).take (m * 3) = bkV (L.take m) := by
  induction L generalizing m with
  | nil => simp [bkV]
  | cons y r ih =>
    cases m with
    | zero => simp [bkV]
    | succ m =>
      have l1 : (encB y).length = 3 := rfl
      rw [List.take_succ_cons, bkV_consD, bkV_consD, ← ih, List.take_append, l1, show (m + 1) * 3 - 3 = m * 3 by omega, List.take_of_length_le (by rw [l1]; omega)]
structure DelB (p : Bk → Bool) (A B : List Bk) (i j : Nat) : Prop where
  ij : i < j
  jn : j ≤ A.length
  len : B.length = A.length
  pre : B.take i = (A.take j).filter (fun b => !p b)
  post : B.drop j = A.drop j
variable {p : Bk → Bool}
theorem DelB.start {A : List Bk} {i : Nat} {x : Bk} (hx : A[i]? = some x) (hb : p x = true) (hno : ∀ y ∈ A.take i, p y = false) : DelB p A A i (i + 1) := by
  have hi := (List.getElem?_eq_some_iff.1 hx).1
  refine ⟨by omega, by omega, rfl, ?_, rfl⟩
  rw [List.take_add_one, hx, List.filter_append]
  rw [List.filter_eq_self.2 (fun y hy => by simp [hno y hy])]
  simp [hb]
theorem DelB.at {A B : List Bk} {i j : Nat} (h : DelB p A B i j) {x : Bk} (hx : B[j]? = some x) : A[j]? = some x := by
  have h1 : (B.drop j)[0]? = some x := by rw [List.getElem?_drop]; simpa using hx
  rw [h.post, List.getElem?_drop] at h1
  simpa using h1
theorem DelB.skip {A B : List Bk} {i j : Nat} (h : DelB p A B i j) {x : Bk} (hx : B[j]? = some x) (hb : p x = true) : DelB p A B i (j + 1) := by
  have ha := h.at hx
  have hj := (List.getElem?_eq_some_iff.1 ha).1
  refine ⟨by have := h.ij; omega, by omega, h.len, ?_, ?_⟩
  · rw [List.take_add_one, ha, List.filter_append, ← h.pre]; simp [hb]
  · have := congrArg (List.drop 1) h.post
    simpa [List.drop_drop] using this
theorem DelB.keep {A B : List Bk} {i j : Nat} (h : DelB p A B i j) {x : Bk} (hx : B[j]? = some x) (hb : p x = false) : DelB p A (B.set i x) (i + 1) (j + 1) := by
  have ha := h.at hx
  have hj := (List.getElem?_eq_some_iff.1 ha).1
  have hij := h.ij
  have hl := h.len
  refine ⟨by omega, by omega, by simpa using h.len, ?_, ?_⟩
  · have hi : i < B.length := by omega
    rw [List.take_add_one, List.take_set, List.getElem?_set_self hi, List.set_eq_of_length_le (by simp; omega)]
    rw [List.take_add_one, ha, List.filter_append, ← h.pre]
    simp [hb]
  · rw [List.drop_set, if_pos (by omega)]
    have := congrArg (List.drop 1) h.post
    simpa [List.drop_drop] using this
theorem DelB.done {A B : List Bk} {i : Nat} (h : DelB p A B i A.length) : B.take i = A.filter (fun b => !p b) := by
  have := h.pre
  rwa [List.take_length] at this
theorem zero_bkD (w : World) : (zeroValue 33).run Tryz.prog w = .ok (.agg (encBa zBk)) w := by kernel_rfl
theorem zerosB : ∀ m : Nat, (Builtin.zeroCells (Value.agg (encBa zBk)).cells m).toList = bkV (List.replicate m zBk) := by
  intro m
  have hc : (Value.agg (encBa zBk)).cells = encBa zBk := rfl
  rw [hc]
  apply List.ext_getElem?
  intro t
  unfold Builtin.zeroCells
  rw [show (encBa zBk).size = 3 from rfl]
  by_cases ht : t < m * 3
  · have hq : t / 3 < m := by omega
    have hm : t % 3 < 3 := by omega
    rw [Array.getElem?_toList, Array.getElem?_map, Array.getElem?_range, if_pos ht]
    obtain ⟨u, hu⟩ : ∃ u, (bkV (List.replicate m zBk))[t]? = some u := ⟨_, List.getElem?_eq_getElem (by rw [bkV_length, List.length_replicate]; omega)⟩
    obtain ⟨b, hb, hbu⟩ := bkV_get hu
    rw [List.getElem?_replicate, if_pos hq] at hb
    cases hb
    rw [hu, ← hbu]
    simp only [Option.map_some]
    have e3 : (encB zBk) = (encBa zBk).toList := rfl
    rw [e3, Array.getElem?_toList, Array.getElem?_eq_getElem (show t % 3 < (encBa zBk).size from hm), getElem!_pos (encBa zBk) (t % 3) hm]
  · rw [Array.getElem?_toList, Array.getElem?_map, Array.getElem?_range, if_neg ht]
    rw [List.getElem?_eq_none (by rw [bkV_length, List.length_replicate]; omega)]
    rfl
theorem sufB_in (gg cap i : Nat) (h : i < cap) : sufA (some ⟨gg, 0, none⟩) cap i 3 = some ⟨gg, i * 3, none⟩ := by
  unfold sufA
  rw [if_neg (by omega)]
  simp [add_at]
section
variable {F0 : List Nat} {w0 w : World} {R : List Asrt}
def DbRel (p : Bk → Bool) (gg cap : Nat) (A : List Bk) (F0 : List Nat) (w0 : World) (R : List Asrt) (vi vj : Value) (wr : World) : Prop :=
  ∃ (i j : Nat) (B : List Bk), vi = .int .i64 i ∧ vj = .int .i64 j ∧ DelB p A B i j ∧ In F0 w0 wr (RowA 33 3 (.slice (some ⟨gg, 0, none⟩) A.length cap) A.length (bkV B) :: R)
def DbPost (p : Bk → Bool) (A : List Bk) (F0 : List Nat) (w0 : World) (R : List Asrt) (e : Ending) (w' : World) : Prop :=
  ∃ v, e = .returned v ∧ In F0 w0 w' (BkR v (A.filter (fun b => !p b)) :: R)
theorem o_delb {A : List Bk} {v : Value} {f : FuncId} {g : Nat} (hA : A.length ≤ 1000000) (eg : ∀ args w, (callFunc f args).run Tryz.prog w = .ok (.enter f args) w)
    (hp : ∀ W b X, In F0 w0 W (X ++ R) → Calls Tryz.prog f #[.agg (encBa b), .pointer (some ⟨g, 0, none⟩)] W fun e w' => e = .returned (.bool (p b)) ∧ In F0 w0 w' (X ++ R))
    (h : In F0 w0 w (BkR v A :: R)) : Calls Tryz.prog 74 #[v, .func (.func f) #[] #[.pointer (some ⟨g, 0, none⟩)]] w (DbPost p A F0 w0 R) := by
  obtain ⟨Fv, hv⟩ := h.get 0 rfl
  obtain ⟨a, cap, rfl, l1, l2, -⟩ := hv.shape
  have HI := Lib.hid (o_idxp (c := cap) (bks_row (n := A.length) (c := cap) rfl 0 rfl) (by omega) p eg (fun W b hW => hp W b [_] hW) h)
  unfold maxLen at l2
  have HP := Lib.hid hp
  have HA : Hid (0 < A.length → ∃ gg, a = some ⟨gg, 0, none⟩) := Lib.hid fun h0 => by
    obtain ⟨_, _, h4 | ⟨g', c, cur, e, _⟩⟩ := hv
    · omega
    · cases e; exact ⟨_, rfl⟩
  clear h hv hp
  go_enter Tryz.func74, Tryz.ntmps74
  go_wp2_with fail
  refine HI.out.mono ?_
  rintro e w1 ⟨ho, ⟨rfl, hno⟩ | ⟨i, x, rfl, hx, hb, hno⟩⟩
  · have HF : Hid (DbPost p A F0 w0 R (.returned (.slice a A.length cap)) w1) := Lib.hid ⟨_, rfl, by
      have e : A.filter (fun b => !p b) = A := List.filter_eq_self.2 (fun y hy => by simp [hno y hy])
      rw [e]; exact ho⟩
    clear ho hno HI
    go_wp2_with fail
    go_ret
    exact HF.out
  · have hi := (List.getElem?_eq_some_iff.1 hx).1
    obtain ⟨gg, rfl⟩ := HA.out (by omega)
    have HS : Hid (DbRel p gg cap A F0 w0 R (.int .i64 i) (.int .i64 (i + 1)) w1) := Lib.hid ⟨i, i + 1, A, rfl, rfl, DelB.start hx hb hno, ho⟩
    have hm1 : ((i : Int) == -1) = false := beq_eq_false_iff_ne.2 (by omega)
    clear ho hno hx hb HI HA
    go_wp2_with fail
    go_loopw [5, 6, 7] (fun vi vj _ wr => DbRel p gg cap A F0 w0 R vi vj wr) (fun _ vj _ _ => A.length - (intOf vj).toNat)
    case atStart => exact HS.out
    case round =>
      obtain ⟨i', j, B, rfl, rfl, hd, ho⟩ := hrel
      clear HS hm1
      by_cases hlt : j < A.length
      · obtain ⟨x', hx'⟩ : ∃ x', B[j]? = some x' := ⟨B[j]'(by have := hd.len; omega), List.getElem?_eq_getElem _⟩
        obtain ⟨F1, hr⟩ := ho.get 0 rfl
        have hBl : B.length = A.length := hd.len
        have hsrc : Src wr (some ⟨gg, 0, none⟩) A.length 3 (bkV B) := hr.all
        obtain ⟨y0, y1, y2⟩ := bkV_at hx'
        obtain ⟨g9, o9, e9, hc⟩ := hsrc.plain (by omega) (by decide)
        cases e9
        have a0 := hc _ _ y0
        have a1 := hc _ _ y1
        have a2 := hc _ _ y2
        simp only [Nat.zero_add] at a0 a1 a2
        have hj1 : (j : Int) < (A.length : Int) := by omega
        have hcell := ho.cells (encBa x') 33
        have HP1 : Hid (Calls Tryz.prog f #[.agg (encBa x'), .pointer (some ⟨g, 0, none⟩)] (wr.alloc (.cells (encBa x') 33)) fun e w' => e = .returned (.bool (p x')) ∧ In F0 w0 w' (Cells wr.heap.size (encBa x') 33 :: RowA 33 3 (.slice (some ⟨gg, 0, none⟩) A.length cap) A.length (bkV B) :: R)) := Lib.hid (HP.out _ x' [_, _] hcell)
        have HD := Lib.hid hd
        have HX := Lib.hid hx'
        clear ho hr hBl hc hcell hx' hlt hd hsrc y0 y1 y2
        cases hq : p x' with
        | true =>
          rw [hq] at HP1
          have HR : Hid (DelB p A B i' (j + 1)) := Lib.hid (HD.out.skip HX.out hq)
          clear hq
          go_wp2_with fail
          refine HP1.out.mono ?_
          rintro e w2 ⟨rfl, ho⟩
          have HS : Hid (DbRel p gg cap A F0 w0 R (.int .i64 i') (.int .i64 (j + 1)) w2) := Lib.hid ⟨i', j + 1, B, rfl, by congr 1, HR.out, ho.drop⟩
          clear ho
          go_wp2_with fail
          go_roundw
          case rel => exact HS.out
          case measure => simp [intOf]; omega
        | false =>
          rw [hq] at HP1
          have HR : Hid (DelB p A (B.set i' x') (i' + 1) (j + 1)) := Lib.hid (HD.out.keep HX.out hq)
          have hin : i' < A.length := by have := HD.out.ij; have := HD.out.jn; omega
          have hi2 : (i' : Int) < (A.length : Int) := by omega
          clear hq
          go_wp2_with fail
          refine HP1.out.mono ?_
          rintro e w2 ⟨rfl, ho⟩
          have f0 : w2.cell? ⟨wr.heap.size, 0, none⟩ = some (.int .i64 x'.id) := cell_of (ho.block 0 rfl) rfl
          have f1 : w2.cell? ⟨wr.heap.size, 1, none⟩ = some (.int .u32 x'.addr) := cell_of (ho.block 0 rfl) rfl
          have f2 : w2.cell? ⟨wr.heap.size, 2, none⟩ = some (.int .i64 x'.weight) := cell_of (ho.block 0 rfl) rfl
          have hfl : (bkV B).length = A.length * 3 := by rw [bkV_length, HD.out.len]
          obtain ⟨F1, hr⟩ := ho.get 1 rfl
          have HTH : Hid (w2.there gg (i' * 3) (encBa x').size) := Lib.hid (hr.there (by rw [hfl]; show i' * 3 + 3 ≤ _; omega))
          have HINF : Hid ((Tryz.prog.info? 33).map (·.size) = some (encBa x').size) := Lib.hid (by kernel_rfl)
          have HPUT : Hid (In F0 w0 (w2.setCells gg (i' * 3) (encBa x').toList) (RowA 33 3 (.slice (some ⟨gg, 0, none⟩) A.length cap) A.length (bkV (B.set i' x')) :: R)) := Lib.hid (by
            have h5 := row_put ho 1 rfl (o := i' * 3) (us := (encBa x').toList) (by rw [hfl]; simp; omega)
            rw [show (encBa x').toList = encB x' from rfl, bkV_setD x' (by rw [HD.out.len]; exact hin)] at h5
            exact h5.drop)
          clear ho hr hfl hin HP1
          go_wp2_with (refine wpList_store_mid (op := ⟨none, Op.store 33 (.tmp 33) (.tmp 32), _, _, _, _⟩) (by rfl) 33 (.tmp 33) (.tmp 32) rfl gg (i' * 3) (encBa x') (by rfl) (by rfl) HTH.out HINF.out (encBa_all _ _ _) ?_)
          have HS : Hid (DbRel p gg cap A F0 w0 R (.int .i64 (i' + 1)) (.int .i64 (j + 1)) (w2.setCells gg (i' * 3) (encBa x').toList)) := Lib.hid ⟨i' + 1, j + 1, _, by congr 1, by congr 1, HR.out, HPUT.out⟩
          go_roundw
          case rel => exact HS.out
          case measure => simp [intOf]; omega
      · have hge : (A.length : Int) ≤ (j : Int) := by omega
        have hjn : j = A.length := by have := hd.jn; omega
        subst hjn
        have hin : i' < A.length := hd.ij
        have hfl : (bkV B).length = A.length * 3 := by rw [bkV_length, hd.len]
        obtain ⟨F1, hr⟩ := ho.get 0 rfl
        have hcap : i' < cap := by
          obtain ⟨a', cap', e', l1', l2', -⟩ := hr.shape
          rw [Value.slice.injEq] at e'
          omega
        have hsuf : ∀ W, (Instr.slice 34 (.slice (some ⟨gg, 0, none⟩) A.length cap) (some (.int .i64 i')) none none).run Tryz.prog W = .ok (.slice (some ⟨gg, i' * 3, none⟩) (A.length - i') (cap - i')) W := fun W => by
          rw [run_suffix Tryz.underlying34 infoBk _ _ _ _ (by omega) W, sufB_in gg cap i' (by omega)]
        have hpre : ∀ W, (Instr.slice 34 (.slice (some ⟨gg, 0, none⟩) A.length cap) none (some (.int .i64 i')) none).run Tryz.prog W = .ok (.slice (some ⟨gg, 0, none⟩) i' cap) W := fun W => run_prefix Tryz.underlying34 infoBk _ _ _ _ (by omega) W
        have hzl : (Builtin.zeroCells (Value.agg (encBa zBk)).cells (A.length - i')).toList = bkV (List.replicate (A.length - i') zBk) := zerosB _
        have hcl : ∀ ty, (Builtin.clear_ #[34] ty #[.slice (some ⟨gg, i' * 3, none⟩) (A.length - i') (cap - i')]).run Tryz.prog wr = .ok (.tuple #[]) (wr.setCells gg (i' * 3) (bkV (List.replicate (A.length - i') zBk))) := fun ty => by
          have h6 := clear_run (ty := ty) Tryz.underlying34 zero_bkD wr gg (i' * 3) (A.length - i') (cap - i') (by
            rw [hzl]; exact bkV_one _) (by rw [hzl]; exact hr.there (by rw [hfl, bkV_length, List.length_replicate]; omega))
          rw [if_neg (by omega), hzl] at h6
          exact h6
        have HF : Hid (DbPost p A F0 w0 R (.returned (.slice (some ⟨gg, 0, none⟩) i' cap)) (wr.setCells gg (i' * 3) (bkV (List.replicate (A.length - i') zBk)))) := Lib.hid ⟨_, rfl, by
          have h7 := row_put ho 0 rfl (o := i' * 3) (us := bkV (List.replicate (A.length - i') zBk)) (by rw [hfl, bkV_length, List.length_replicate]; omega)
          have hM : (A.filter (fun b => !p b)).length = i' := by rw [← hd.done, List.length_take, hd.len]; omega
          unfold BkR
          rw [hM]
          refine h7.imp 0 rfl (RowA.framed _ _ _ _ _) (fun F hF => ?_)
          have h8 := hF.pre (m := i') (by omega)
          have e9 : (putAt (bkV B) (i' * 3) (bkV (List.replicate (A.length - i') zBk))).take (i' * 3) = bkV (A.filter (fun b => !p b)) := by
            unfold putAt
            rw [List.append_assoc, List.take_append_of_le_length (by rw [List.length_take, hfl]; omega), List.take_take, Nat.min_self, bkV_takeD, hd.done]
          rw [e9] at h8
          exact h8⟩
        clear ho hr hzl hfl hd hlt hin
        generalize wr.setCells gg (i' * 3) (bkV (List.replicate (A.length - i') zBk)) = w3 at *
        go_wp2_with (simp only [hcl])
        go_ret
        exact HF.out
structure OutF (fv : Value) (q : Int → Bool) (F0 : List Nat) (w0 : World) (R : List Asrt) : Prop where
  sh : ∃ f caps, fv = .func (.func f) #[] caps ∧ (∀ args w, (callFunc f args).run Tryz.prog w = .ok (.enter f args) w) ∧ (∀ W n X, In F0 w0 W (X ++ R) → Calls Tryz.prog f (#[.int .i64 n] ++ caps) W fun e w' => e = .returned (.bool (q n)) ∧ In F0 w0 w' (X ++ R))
theorem OutF.more {fv : Value} {q : Int → Bool} (h : OutF fv q F0 w0 R) (X : Asrt) : OutF fv q F0 w0 (X :: R) := by
  obtain ⟨f, caps, e, h1, h2⟩ := h
  exact ⟨f, caps, e, h1, fun W n Y hW => by
    have := h2 W n (Y ++ [X]) (by simpa using hW)
    simpa using this⟩
theorem gnw1_f (b : Bk) {fv : Value} {q : Int → Bool} {g : Nat} {X : List Asrt} (i : Nat) (hA : (X ++ R)[i]? = some (Cells g #[fv] 66)) (hf : OutF fv q F0 w0 R) (h : In F0 w0 w (X ++ R)) : Calls Tryz.prog 75 #[.agg (encBa b), .pointer (some ⟨g, 0, none⟩)] w fun e w' => e = .returned (.bool (q b.id)) ∧ In F0 w0 w' (X ++ R) := by
  obtain ⟨f, caps, rfl, eg, hq⟩ := hf
  have h1 := h.cells (encBa b) 33
  have c0 : (w.alloc (.cells (encBa b) 33)).cell? ⟨g, 0, none⟩ = some (.func (.func f) #[] caps) := cell_of ((h.alloc (.cells (encBa b) 33)).block i hA) rfl
  have HQ := Lib.hid (hq _ b.id (_ :: X) h1)
  have hne : ∀ w, (binOp BinOp.neq 66 (.func (.func f) #[] caps) Value.nilFunc).run Tryz.prog w = .ok (.bool true) w := fun w => by kernel_rfl
  obtain ⟨b0, b1, b2⟩ := b
  clear h hA hq h1
  go_enter Tryz.func75, Tryz.ntmps75
  go_wp2_with fail
  refine HQ.out.mono ?_
  rintro e w1 ⟨rfl, ho⟩
  have G := Lib.hid ho.drop
  clear ho HQ
  go_wp2_with fail
  go_ret
  exact ⟨rfl, G.out⟩
theorem o_gnwithoutF {l : List Bk} {A : Option Addr} {c : Nat} {fv : Value} {q : Int → Bool} (hf : OutF fv q F0 w0 R) (hs : BksAt F0 w0 R A l) (hn : A = none → c = 0) (hl : l.length ≤ 1000000) (h : In F0 w0 w R) :
    Calls Tryz.prog 38 #[.slice A l.length c, fv] w fun e w' => ∃ v, e = .returned v ∧ In F0 w0 w' (BkR v (withoutL q l) :: R) := by
  have h1 := h.cells #[fv] 66
  have HF := Lib.hid (hf.more (Cells w.heap.size #[fv] 66))
  have K := Lib.hid (o_bkclone (c := c) h1 hn (hs.more _ _ h1) hl)
  obtain ⟨f, caps, rfl, -, -⟩ := hf
  have eg : ∀ args w, (callFunc 75 args).run Tryz.prog w = .ok (.enter 75 args) w := enters_of Tryz.func75 (by kernel_rfl) rfl
  have K2 := Lib.hid (fun w1 v (h' : In F0 w0 w1 (BkR v l :: Cells w.heap.size #[.func (.func f) #[] caps] 66 :: R)) => o_delb (p := fun b => q b.id) (g := w.heap.size) hl eg (fun W b X hW => gnw1_f b X.length (by simp) HF.out hW) h')
  clear h h1 hs hn eg
  go_enter Tryz.func38, Tryz.ntmps38
  go_wp2_with fail
  generalize w.heap.size = g at *
  refine K.out.mono ?_
  rintro e w1 ⟨v, rfl, ho⟩
  have K3 := Lib.hid (K2.out _ _ ho)
  clear ho K K2
  go_wp2_with fail
  refine K3.out.mono ?_
  rintro e w2 ⟨v2, rfl, ho⟩
  have G := Lib.hid ho
  clear ho K3
  go_wp2_with fail
  go_ret
  exact ⟨_, rfl, G.out.sel2 (R1 := [_, _]) [0] (by decide) rfl⟩
end
section
variable {P : Program} {Q : Exit → Act → World → Prop} {S : World → Prop} {l : List Oper}
def twoB (l : List Oper) (i j : Nat) (listed : Array Bool) : Bool := decide (Region.ready .any l.toArray listed = [i, j]) && (decide (i + 1 < l.toArray.size) && decide (j + 1 < l.toArray.size))
def EArm (P : Program) (l : List Oper) (Q : Exit → Act → World → Prop) (S : World → Prop) (fuel : Nat) (listed : Array Bool) (i : Nat) (o : Oper) (a : Act) (w : World) : Prop :=
  ∀ K' : Act → World → Prop, Shut (∀ a w, S w → (S w → EAt P l Q S fuel (listed.setIfInBounds i true) a w) → K' a w) → if Region.wanted o (yielded l.toArray a.tmps) = true then Oper.wp P o a w K' Q else K' (a.put o.dst undef) w
theorem e_two {i j : Nat} {oi oj : Oper} {fuel : Nat} {listed : Array Bool} {a : Act} {w : World} (hi : l[i]? = some oi) (hj : l[j]? = some oj) (hc : twoB l i j listed = true)
    (h1 : EArm P l Q S fuel listed i oi a w) (h2 : EArm P l Q S fuel listed j oj a w) : EAt P l Q S (fuel + 1) listed a w := by
  simp only [twoB, Bool.and_eq_true, decide_eq_true_eq] at hc
  obtain ⟨hc0, hci, hcj⟩ := hc
  have arm : ∀ (x : Nat) (o : Oper), l[x]? = some o → x + 1 < l.toArray.size → x ∈ Region.ready .any l.toArray listed → EArm P l Q S fuel listed x o a w → HeadInv .any l.toArray (l.toArray.size - 1) listed →
      wpOp P l.toArray Q x (fun a' w' => (x + 1 < l.toArray.size → S w') ∧ wpAnyE P .any l.toArray Q S fuel (listed.setIfInBounds x true) a' w') a w := by
    intro x o hx hxs hr h inv
    have hx' : l.toArray[x]? = some o := by simpa using hx
    have := h (fun a' w' => (x + 1 < l.toArray.size → S w') ∧ wpAnyE P .any l.toArray Q S fuel (listed.setIfInBounds x true) a' w') (fun a w hS hn => ⟨fun _ => hS, hn hS (inv.set hr (by omega))⟩)
    unfold wpOp
    simp only [hx']
    by_cases hwd : Region.wanted o (yielded l.toArray a.tmps) = true
    · rw [if_pos hwd] at this ⊢; exact Or.inl this
    · rw [if_neg hwd] at this ⊢; exact this
  intro inv
  refine ⟨fun h0 => (by rw [hc0] at h0; cases h0), fun x hx => ?_⟩
  have hr := hx
  rw [hc0] at hx
  rcases List.mem_cons.1 hx with rfl | hx
  · exact arm x oi hi hci hr h1 inv
  · obtain rfl : x = j := by simpa using hx
    exact arm x oj hj hcj hr h2 inv
end
def ViewA (k : Nat) (v : Value) (n : Nat) (xs : List Value) : Asrt := fun w F => xs.length = n * k ∧ ∃ a cap, v = .slice a n cap ∧ n ≤ cap ∧ cap ≤ maxLen ∧
  ((a = none ∧ n = 0 ∧ F = []) ∨ ∃ g o, a = some ⟨g, o, none⟩ ∧ F = [g] ∧ g < w.heap.size ∧ ∀ j u, xs[j]? = some u → w.cell? ⟨g, o + j, none⟩ = some u)
theorem RowA.view {T : TypeId} {k : Nat} {v : Value} {n : Nat} {xs : List Value} {w : World} {F : List Nat} (h : RowA T k v n xs w F) : ViewA k v n xs w F := by
  obtain ⟨a, cap, rfl, h1, h2, h3⟩ := h.shape
  obtain ⟨hF, hl, h4⟩ := h
  refine ⟨hl, a, cap, rfl, h1, h2, ?_⟩
  rcases h4 with ⟨e, h5⟩ | ⟨g, c, cur, e, _, hb, _⟩
  · cases e
    exact Or.inl ⟨rfl, h5, by rw [hF]; simp [Value.ownBlock]⟩
  · cases e
    refine Or.inr ⟨g, 0, rfl, by rw [hF]; simp [Value.ownBlock], hp_lt hb, fun j u hu => ?_⟩
    obtain ⟨b, e, hc⟩ := h3 j u hu
    cases e
    rw [Nat.zero_add]; exact hc
theorem ViewA.shape {k : Nat} {v : Value} {n : Nat} {xs : List Value} {w : World} {F : List Nat} (h : ViewA k v n xs w F) : ∃ a cap, v = .slice a n cap ∧ n ≤ cap ∧ cap ≤ maxLen := by
  obtain ⟨_, a, cap, e, h1, h2, _⟩ := h; exact ⟨a, cap, e, h1, h2⟩
theorem ViewA.at {k : Nat} {a : Option Addr} {n n' cap : Nat} {xs : List Value} {w : World} {F : List Nat} (h : ViewA k (.slice a n cap) n' xs w F) (hn : 0 < n') (hk : 0 < k) : ∃ g o, a = some ⟨g, o, none⟩ ∧ ∀ j u, xs[j]? = some u → w.cell? ⟨g, o + j, none⟩ = some u := by
  obtain ⟨hl, a', cap', e, h1, h2, h3⟩ := h
  cases e
  rcases h3 with ⟨_, h0, _⟩ | ⟨g, o, rfl, _, _, hc⟩
  · omega
  · exact ⟨g, o, rfl, hc⟩
theorem ViewA.src {k : Nat} {a : Option Addr} {n' n cap : Nat} {xs : List Value} {w : World} {F : List Nat} (h : ViewA k (.slice a n' cap) n xs w F) {m : Nat} (hm : m ≤ n) : Src w a m k (xs.take (m * k)) := by
  obtain ⟨hl, a', cap', e, h1, h2, h3⟩ := h
  cases e
  refine ⟨by rw [List.length_take, hl]; exact Nat.min_eq_left (Nat.mul_le_mul_right _ hm), fun h0 => ?_⟩
  rcases h3 with ⟨_, h0, _⟩ | ⟨g, o, rfl, _, _, hc⟩
  · omega
  · refine ⟨_, rfl, fun j u hu => ?_⟩
    rw [add_at]
    rw [List.getElem?_take] at hu
    split at hu
    · exact hc j u hu
    · cases hu
theorem ViewA.src_from {k : Nat} {a : Option Addr} {n' n cap : Nat} {xs : List Value} {w : World} {F : List Nat} (h : ViewA k (.slice a n' cap) n xs w F) {i : Nat} (hi : i ≤ n) : Src w (sufA a cap i k) (n - i) k (xs.drop (i * k)) := by
  obtain ⟨hl, a', cap', e, h1, h2, h3⟩ := h
  cases e
  refine ⟨by rw [List.length_drop, hl, Nat.sub_mul], fun h0 => ?_⟩
  rcases h3 with ⟨_, h0, _⟩ | ⟨g, o, rfl, _, _, hc⟩
  · omega
  · refine ⟨_, by rw [sufA, if_neg (by omega)]; rfl, fun j u hu => ?_⟩
    rw [List.getElem?_drop] at hu
    show w.cell? (((⟨g, o, none⟩ : Addr).add (i * k)).add j) = some u
    rw [add_at, add_at, Nat.add_assoc]
    exact hc _ u hu
end Go.Proofs.YtgapbecddgfkmaaGreat
