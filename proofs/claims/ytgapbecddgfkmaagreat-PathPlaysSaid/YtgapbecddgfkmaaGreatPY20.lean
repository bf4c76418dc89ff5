/- Rows.PathPlaysSaid -/
import Derived.Test.YtgapbecddgfkmaaGreatPY3
import Derived.Test.YtgapbecddgfkmaaGreatPY18
import Derived.Test.YtgapbecddgfkmaaGreatPY16
namespace Go.Proofs.YtgapbecddgfkmaaGreat
open Go.RowKit
set_option linter.unusedVariables false
set_option maxHeartbeats 64000000
set_option maxRecDepth 100000
def lo8 (n : Nat) : UInt8 := UInt8.ofNat n
theorem be1 (n : Nat) : be n 1 = [lo8 n] := by simp [be, beTo, lo8]
theorem be2 (n : Nat) : be n 2 = [lo8 (n / 256), lo8 n] := by simp [be, beTo, lo8, List.range_succ]
theorem be4 (n : Nat) : be n 4 = [lo8 (n / 16777216), lo8 (n / 65536), lo8 (n / 256), lo8 n] := by simp [be, beTo, lo8, List.range_succ]
theorem lo8_nat (n : Nat) : (lo8 n).toNat = n % 256 := by simp [lo8]
def foNat (h : Hd) : Nat := u64 (h.flags * 8192 + h.off)
theorem headL_eq (h : Hd) (c : Nat) : headL h c = [69, lo8 (u64 h.tos), lo8 (u64 h.len / 256), lo8 (u64 h.len), lo8 (u64 h.id / 256), lo8 (u64 h.id), lo8 (foNat h / 256), lo8 (foNat h), lo8 (u64 h.ttl), lo8 (u64 h.proto), lo8 (c / 256), lo8 c,
    lo8 (u64 h.src / 16777216), lo8 (u64 h.src / 65536), lo8 (u64 h.src / 256), lo8 (u64 h.src), lo8 (u64 h.dst / 16777216), lo8 (u64 h.dst / 65536), lo8 (u64 h.dst / 256), lo8 (u64 h.dst)] := by
  unfold headL; simp only [be1, be2, be4]; rfl
theorem headL_words (h : Hd) {c : Nat} (hc : c < 65536) : words (headL h c) = words (headL h 0) + c := by
  rw [headL_eq, headL_eq]
  simp only [words, lo8_nat]
  omega
theorem headL_pos (h : Hd) : 0 < words (headL h 0) := by
  rw [headL_eq]; simp only [words]
  have : (69 : UInt8).toNat = 69 := rfl
  omega
theorem net_zero (h : Hd) : netN (buildD h) = 0 := by
  unfold buildD
  unfold netN
  have hp := headL_pos h
  have e : words (headL h (65535 - foldN (words (headL h 0)))) = words (headL h 0) + (65535 - foldN (words (headL h 0))) := headL_words h (by omega)
  rw [e]
  have h1 := foldN_le (words (headL h 0))
  have h2 : foldN (words (headL h 0)) = (words (headL h 0) - 1) % 65535 + 1 := foldN_pos (by omega)
  rw [foldN_pos (by omega)]
  omega
def hdOf (h : Hd) (p : List UInt8) : Hd := ⟨5, ((u64 h.tos % 256 : Nat) : Int), ((20 + p.length : Nat) : Int), ((u64 h.id % 65536 : Nat) : Int), h.flags, h.off, ((u64 h.ttl % 256 : Nat) : Int), ((u64 h.proto % 256 : Nat) : Int), netN (headL h 0), h.src, h.dst⟩
theorem parse_build {h : Hd} {p : List UInt8} (hl : h.len = ((20 + p.length : Nat) : Int)) (hp : 20 + p.length < 65536) (f0 : 0 ≤ h.flags) (f1 : h.flags < 8) (o0 : 0 ≤ h.off) (o1 : h.off < 8192)
    (s0 : 0 ≤ h.src) (s1 : h.src < 4294967296) (d0 : 0 ≤ h.dst) (d1 : h.dst < 4294967296) : parseD (buildD h ++ p) = (hdOf h p, p, 0) := by
  unfold hdOf
  have hL : (buildD h).length = 20 := buildD_length h
  have hn := net_zero h
  have hc := netN_lt (headL h 0)
  have ul : u64 h.len = 20 + p.length := by rw [hl]; unfold u64; omega
  have uf : (((foNat h : Nat)) : Int) = h.flags * 8192 + h.off := by unfold foNat u64; omega
  have us : ((u64 h.src : Nat) : Int) = h.src := by unfold u64; omega
  have ud : ((u64 h.dst : Nat) : Int) = h.dst := by unfold u64; omega
  have eb : buildD h = headL h (netN (headL h 0)) := rfl
  generalize netN (headL h 0) = c at *
  have hb : ∃ L, L = buildD h ++ p := ⟨_, rfl⟩
  have e20 : (buildD h ++ p).take 20 = buildD h := by rw [List.take_append_of_le_length (by omega), List.take_of_length_le (by omega)]
  have d20 : ((buildD h ++ p).take (20 + p.length)).drop 20 = p := by
    rw [List.take_of_length_le (by rw [List.length_append, hL]; omega), List.drop_append, hL, List.drop_eq_nil_of_le (by omega)]; simp
  have hlen : (buildD h ++ p).length = 20 + p.length := by rw [List.length_append, hL]
  have b0 : byN (buildD h ++ p) 0 = 69 := by rw [eb, headL_eq]; rfl
  have b1 : byN (buildD h ++ p) 1 = u64 h.tos % 256 := by rw [eb, headL_eq]; exact lo8_nat _
  have b2 : byN (buildD h ++ p) 2 = u64 h.len / 256 % 256 := by rw [eb, headL_eq]; exact lo8_nat _
  have b3 : byN (buildD h ++ p) 3 = u64 h.len % 256 := by rw [eb, headL_eq]; exact lo8_nat _
  have b4 : byN (buildD h ++ p) 4 = u64 h.id / 256 % 256 := by rw [eb, headL_eq]; exact lo8_nat _
  have b5 : byN (buildD h ++ p) 5 = u64 h.id % 256 := by rw [eb, headL_eq]; exact lo8_nat _
  have b6 : byN (buildD h ++ p) 6 = foNat h / 256 % 256 := by rw [eb, headL_eq]; exact lo8_nat _
  have b7 : byN (buildD h ++ p) 7 = foNat h % 256 := by rw [eb, headL_eq]; exact lo8_nat _
  have b8 : byN (buildD h ++ p) 8 = u64 h.ttl % 256 := by rw [eb, headL_eq]; exact lo8_nat _
  have b9 : byN (buildD h ++ p) 9 = u64 h.proto % 256 := by rw [eb, headL_eq]; exact lo8_nat _
  have b10 : byN (buildD h ++ p) 10 = c / 256 % 256 := by rw [eb, headL_eq]; exact lo8_nat _
  have b11 : byN (buildD h ++ p) 11 = c % 256 := by rw [eb, headL_eq]; exact lo8_nat _
  have b12 : byN (buildD h ++ p) 12 = u64 h.src / 16777216 % 256 := by rw [eb, headL_eq]; exact lo8_nat _
  have b13 : byN (buildD h ++ p) 13 = u64 h.src / 65536 % 256 := by rw [eb, headL_eq]; exact lo8_nat _
  have b14 : byN (buildD h ++ p) 14 = u64 h.src / 256 % 256 := by rw [eb, headL_eq]; exact lo8_nat _
  have b15 : byN (buildD h ++ p) 15 = u64 h.src % 256 := by rw [eb, headL_eq]; exact lo8_nat _
  have b16 : byN (buildD h ++ p) 16 = u64 h.dst / 16777216 % 256 := by rw [eb, headL_eq]; exact lo8_nat _
  have b17 : byN (buildD h ++ p) 17 = u64 h.dst / 65536 % 256 := by rw [eb, headL_eq]; exact lo8_nat _
  have b18 : byN (buildD h ++ p) 18 = u64 h.dst / 256 % 256 := by rw [eb, headL_eq]; exact lo8_nat _
  have b19 : byN (buildD h ++ p) 19 = u64 h.dst % 256 := by rw [eb, headL_eq]; exact lo8_nat _
  have q2 : p16 (buildD h ++ p) 2 = 20 + p.length := by unfold p16; rw [b2, b3, ul]; omega
  have q4 : p16 (buildD h ++ p) 4 = u64 h.id % 65536 := by unfold p16; rw [b4, b5]; omega
  have q6 : p16 (buildD h ++ p) 6 = foNat h := by unfold p16; rw [b6, b7]; omega
  have q10 : p16 (buildD h ++ p) 10 = c := by unfold p16; rw [b10, b11]; omega
  have q12 : p32 (buildD h ++ p) 12 = u64 h.src := by unfold p32 p16; rw [b12, b13, b14, b15]; omega
  have q16 : p32 (buildD h ++ p) 16 = u64 h.dst := by unfold p32 p16; rw [b16, b17, b18, b19]; omega
  unfold parseD
  rw [b0, if_neg (by omega), if_neg (by decide), if_neg (by decide), if_neg (by omega), show 4 * (69 % 16) = 20 from rfl, e20, if_neg (by rw [hn]; decide), q2, if_neg (by omega), if_neg (by omega), d20]
  unfold readH
  rw [b0, b1, b8, b9, q2, q4, q6, q10, q12, q16, us, ud]
  congr 2
  · omega
  · omega
theorem innerL_length (k : Tup) (flags : Int) (body : List UInt8) : (innerL k flags body).length = (if k.proto = 6 then 20 else 8) + body.length := by
  unfold innerL; split <;> simp [be, beTo_length] <;> omega
theorem madeH_parse {k : Tup} (w : WfT k) (ttl : Int) (p : List UInt8) (hp : 20 + p.length < 65536) : parseD (buildD (madeH k ttl p.length) ++ p) = (hdOf (madeH k ttl p.length) p, p, 0) :=
  parse_build (h := madeH k ttl p.length) (by simp [madeH]) hp (by simp [madeH]) (by simp [madeH]) (by simp [madeH]) (by simp [madeH]) w.1 w.2 w.3 w.4
def madeHd (k : Tup) (ttl flags : Int) (body : List UInt8) : Hd := hdOf (madeH k ttl (innerL k flags body).length) (innerL k flags body)
theorem inner_ports {k : Tup} (h : MayT k) (flags : Int) (body : List UInt8) : ((p16 (innerL k flags body) 0 : Nat) : Int) = k.sport ∧ ((p16 (innerL k flags body) 2 : Nat) : Int) = k.dport := by
  obtain ⟨_, a, b, c, d⟩ := (mayT_iff k).1 h
  have e : ∃ R, innerL k flags body = lo8 (u64 k.sport / 256) :: lo8 (u64 k.sport) :: lo8 (u64 k.dport / 256) :: lo8 (u64 k.dport) :: R := ⟨_, by unfold innerL; rw [be2, be2]; simp; rfl⟩
  obtain ⟨R, e⟩ := e
  have b0 : byN (innerL k flags body) 0 = u64 k.sport / 256 % 256 := by rw [e]; exact lo8_nat _
  have b1 : byN (innerL k flags body) 1 = u64 k.sport % 256 := by rw [e]; exact lo8_nat _
  have b2 : byN (innerL k flags body) 2 = u64 k.dport / 256 % 256 := by rw [e]; exact lo8_nat _
  have b3 : byN (innerL k flags body) 3 = u64 k.dport % 256 := by rw [e]; exact lo8_nat _
  unfold p16
  rw [b0, b1, b2, b3]
  unfold u64
  constructor <;> omega
theorem inner_tcp {k : Tup} (hk : k.proto = 6) (flags : Int) (body : List UInt8) : tcpOk (innerL k flags body) = true := by
  have hl : (innerL k flags body).length = 20 + body.length := by rw [innerL_length, if_pos hk]
  have e : byN (innerL k flags body) 12 = 80 := by unfold innerL; rw [if_pos hk, be2, be2]; rfl
  unfold tcpOk
  rw [e, hl]; simp
theorem inner_udp {k : Tup} (hk : k.proto = 17) (flags : Int) (body : List UInt8) (hb : 8 + body.length < 65536) : udpOk (innerL k flags body) = true := by
  have hl : (innerL k flags body).length = 8 + body.length := by rw [innerL_length, if_neg (by omega)]
  have e4 : byN (innerL k flags body) 4 = (8 + body.length) / 256 % 256 := by unfold innerL; rw [if_neg (by omega), be2, be2, be2]; exact lo8_nat _
  have e5 : byN (innerL k flags body) 5 = (8 + body.length) % 256 := by unfold innerL; rw [if_neg (by omega), be2, be2, be2]; exact lo8_nat _
  have e : p16 (innerL k flags body) 4 = 8 + body.length := by unfold p16; rw [e4, e5]; omega
  unfold udpOk
  rw [e, hl]; simp
theorem made_within {k : Tup} (w : WfT k) (h : MayT k) (ttl flags : Int) (body : List UInt8) (hb : body.length ≤ 60000) : withinD (madeD k ttl flags body) = (k, madeHd k ttl flags body, innerL k flags body, 0) := by
  have hi : (innerL k flags body).length ≤ 60020 := by rw [innerL_length]; split <;> omega
  have hp := madeH_parse w ttl (innerL k flags body) (by omega)
  unfold withinD madeD
  rw [hp]
  obtain ⟨p1, p2⟩ := inner_ports h flags body
  have pr : k.proto = 6 ∨ k.proto = 17 := h.1
  have e1 : (hdOf (madeH k ttl (innerL k flags body).length) (innerL k flags body)).proto = k.proto := by
    unfold hdOf madeH u64; simp only; omega
  have e2 : wholeH (hdOf (madeH k ttl (innerL k flags body).length) (innerL k flags body)) = true := rfl
  have e3 : (hdOf (madeH k ttl (innerL k flags body).length) (innerL k flags body)).src = k.src := rfl
  have e4 : (hdOf (madeH k ttl (innerL k flags body).length) (innerL k flags body)).dst = k.dst := rfl
  unfold withinOf
  simp only [e1, e2, e3, e4, p1, p2]
  rcases pr with pr | pr
  · rw [if_neg (show ¬ ((0 : Int) ≠ 0) by decide), if_neg (show ¬ (true = false) by decide), if_pos pr, inner_tcp pr, if_pos rfl]; rfl
  · rw [if_neg (show ¬ ((0 : Int) ≠ 0) by decide), if_neg (show ¬ (true = false) by decide), if_neg (show ¬ k.proto = 6 by omega), if_pos pr, inner_udp pr _ _ (by omega), if_pos rfl]; rfl
theorem made_ends {k : Tup} (w : WfT k) (h : MayT k) (ttl flags : Int) (body : List UInt8) (hb : body.length ≤ 60000) : endsD k (madeD k ttl flags body) = (decide (k.proto = 6) && decide (u64 flags % 256 &&& 5 ≠ 0)) := by
  unfold endsD
  rw [made_within w h ttl flags body hb]
  unfold endsOf
  simp only [decide_true, Bool.true_and]
  by_cases hk : k.proto = 6
  · have e : byN (innerL k flags body) 13 = u64 flags % 256 := by unfold innerL; rw [if_pos hk, be2, be2]; exact lo8_nat _
    rw [e]
  · rw [decide_eq_false hk]; rfl
theorem made_wrap {k : Tup} (w : WfT k) (ttl flags : Int) (body : List UInt8) (hb : body.length ≤ 60000) (self dst2 mtu : Int) :
    (wrapD (madeD k ttl flags body) self dst2 mtu).2 = if u64 ttl % 256 ≤ 1 then 7 else if min mtu 2000 < 40 + ((innerL k flags body).length : Int) then 11 else 0 := by
  have hi : (innerL k flags body).length ≤ 60020 := by rw [innerL_length]; split <;> omega
  have hp := madeH_parse w ttl (innerL k flags body) (by omega)
  unfold wrapD
  rw [show parseD (madeD k ttl flags body) = _ from hp]
  unfold wrapOf
  have e1 : (hdOf (madeH k ttl (innerL k flags body).length) (innerL k flags body)).ttl = ((u64 ttl % 256 : Nat) : Int) := rfl
  have e2 : (hdOf (madeH k ttl (innerL k flags body).length) (innerL k flags body)).len = ((20 + (innerL k flags body).length : Nat) : Int) := rfl
  simp only [e1, e2]
  by_cases h1 : u64 ttl % 256 ≤ 1
  · rw [if_pos h1, if_neg (by decide), if_pos (by omega)]
  · rw [if_neg h1, if_neg (by decide), if_neg (by omega)]
    by_cases h2 : min mtu 2000 < 40 + ((innerL k flags body).length : Int)
    · rw [if_pos h2, if_pos (by omega)]
    · rw [if_neg h2, if_neg (by omega)]
theorem u64_div256 (n : Int) : n / 256 % 256 = ((u64 n / 256 % 256 : Nat) : Int) := by unfold u64; omega
theorem u64_mod256 (n : Int) : n % 256 = ((u64 n % 256 : Nat) : Int) := by unfold u64; omega
theorem headL_set (h : Hd) {s : Nat} : ((headL h 0).set 10 (UInt8.ofNat (s / 256))).set 11 (UInt8.ofNat s) = headL h s := by
  rw [headL_eq, headL_eq]; rfl
section
variable {F0 : List Nat} {w0 w : World} {R : List Asrt}
theorem two_row (h : In F0 w0 w R) (n : Int) : In F0 w0 (w.alloc (.cells #[.int .u8 (n / 256 % 256), .int .u8 (n % 256)] 5)) (ByR (.slice (some ⟨w.heap.size, 0, none⟩) 2 2) (be (u64 n) 2) :: R) := by
  have g := (h.cells #[.int .u8 (n / 256 % 256), .int .u8 (n % 256)] 5).rowFull 0 (n := 2) (k := 1) rfl rfl (by decide)
  have e : (#[.int .u8 (n / 256 % 256), .int .u8 (n % 256)] : Array Value).toList = u8s (be (u64 n) 2) := by
    rw [u64_div256, u64_mod256, be2]; simp only [u8s, List.map_cons, List.map_nil, lo8_nat]
  rw [e] at g
  exact g
theorem md_u16 (n : Int) (h : In F0 w0 w R) : Calls Tryz.prog 70 #[.int .i64 n] w fun e w' => ∃ a c, e = .returned (.slice a 2 c) ∧ In F0 w0 w' (ByR (.slice a 2 c) (be (u64 n) 2) :: R) := by
  have G := Lib.hid (two_row h n)
  clear h
  go_enter Tryz.func70, Tryz.ntmps70
  go_wp2_with fail
  go_ret
  exact ⟨_, _, rfl, G.out⟩
theorem md_b2 (n : Int) (h : In F0 w0 w R) : Calls Tryz.prog 34 #[.int .i64 n] w fun e w' => ∃ a c, e = .returned (.slice a 2 c) ∧ In F0 w0 w' (ByR (.slice a 2 c) (be (u64 n) 2) :: R) := by
  have G := Lib.hid (two_row h n)
  clear h
  go_enter Tryz.func34, Tryz.ntmps34
  go_wp2_with fail
  go_ret
  exact ⟨_, _, rfl, G.out⟩
theorem md_u32 {n : Int} (h0 : 0 ≤ n) (h1 : n < 4294967296) (h : In F0 w0 w R) : Calls Tryz.prog 71 #[.int .u32 n] w fun e w' => ∃ a c, e = .returned (.slice a 4 c) ∧ In F0 w0 w' (ByR (.slice a 4 c) (be (u64 n) 4) :: R) := by
  have g := (h.cells #[.int .u8 (n / 16777216), .int .u8 (n / 65536 % 256), .int .u8 (n / 256 % 256), .int .u8 (n % 256)] 5).rowFull 0 (n := 4) (k := 1) rfl rfl (by decide)
  have e : (#[.int .u8 (n / 16777216), .int .u8 (n / 65536 % 256), .int .u8 (n / 256 % 256), .int .u8 (n % 256)] : Array Value).toList = u8s (be (u64 n) 4) := by
    rw [be4]
    simp only [u8s, List.map_cons, List.map_nil, lo8_nat]
    have e1 : n / 16777216 = ((u64 n / 16777216 % 256 : Nat) : Int) := by unfold u64; omega
    have e2 : n / 65536 % 256 = ((u64 n / 65536 % 256 : Nat) : Int) := by unfold u64; omega
    rw [e1, e2, u64_div256 n, u64_mod256 n]
  rw [e] at g
  have G := Lib.hid g
  clear h g e
  go_enter Tryz.func71, Tryz.ntmps71
  go_wp2_with fail
  go_ret
  exact ⟨_, _, rfl, G.out⟩
theorem o_r20build (h : In F0 w0 w R) {a0 a1 a2 a3 a6 a7 a8 a9 a10 : Int} {fl : Nat} (hf : fl < 8) (s0 : 0 ≤ a9) (s1 : a9 < 4294967296) (d0 : 0 ≤ a10) (d1 : a10 < 4294967296) :
    Calls Tryz.prog 35 #[.agg (hC a0 a1 a2 a3 fl 0 a6 a7 a8 a9 a10)] w fun e w' => ∃ v, e = .returned v ∧ In F0 w0 w' (ByR v (buildD ⟨a0, a1, a2, a3, fl, 0, a6, a7, a8, a9, a10⟩) :: R) := by
  have h1 := h.cells (hC a0 a1 a2 a3 fl 0 a6 a7 a8 a9 a10) 84
  have g := (h1.cells #[.int .u8 69, .int .u8 (a1 % 256)] 5).rowFull 0 (n := 2) (k := 1) rfl rfl (by decide)
  have e : (#[.int .u8 69, .int .u8 (a1 % 256)] : Array Value).toList = u8s ([69, lo8 (u64 a1)]) := by
    rw [u64_mod256]; simp only [u8s, List.map_cons, List.map_nil, lo8_nat]; rfl
  rw [e] at g
  have g1 : In F0 w0 _ (ByR (.slice (some ⟨(w.alloc (.cells (hC a0 a1 a2 a3 fl 0 a6 a7 a8 a9 a10) 84)).heap.size, 0, none⟩) 2 2) [69, lo8 (u64 a1)] :: Cells w.heap.size (hC a0 a1 a2 a3 fl 0 a6 a7 a8 a9 a10) 84 :: R) := g
  simp only [World.size_alloc] at g1
  have HU := Lib.hid (fun (n : Int) W R' (hW : In F0 w0 W R') => md_u16 n hW)
  have HU3 := Lib.hid (fun (n : Int) (h0 : 0 ≤ n) (h1 : n < 4294967296) W R' (hW : In F0 w0 W R') => md_u32 h0 h1 hW)
  have HSD := Lib.hid (And.intro (And.intro s0 s1) (And.intro d0 d1))
  have q0 : bits .and .i64 (fl : Int) 7 = (fl : Int) := by
    have := bits_and_mask fl 3 (by omega) (by omega)
    rw [show ((fl % 2 ^ 3 : Nat) : Int) = (fl : Int) by omega] at this
    exact this
  have q1 : IntKind.i64.wrap ((fl : Int) * 8192) = (fl : Int) * 8192 := IntWalk.i64_in _ (by omega)
  have q2 : bits .or .i64 ((fl : Int) * 8192) 0 = (fl : Int) * 8192 := by
    have := bits_or_i64 (fl * 8192) 0 (by omega) (by omega)
    rw [Nat.or_zero, show (((fl * 8192 : Nat)) : Int) = (fl : Int) * 8192 by omega] at this
    exact this
  have q3 : bits .and .i64 0 8191 = 0 := by decide
  clear h h1 e g hf s0 s1 d0 d1
  go_enter Tryz.func35, Tryz.ntmps35
  go_upto_region 2 with fail
  generalize w.heap.size = gb at *
  generalize (w.alloc (.cells (hC a0 a1 a2 a3 fl 0 a6 a7 a8 a9 a10) 84)).alloc _ = w1 at *
  have X0 := Lib.hid g1
  clear g1
  have hS : w1.drew.cell? ⟨gb, 2, none⟩ = some (.int .i64 a2) ∧ w1.drew.cell? ⟨gb, 3, none⟩ = some (.int .i64 a3) := ⟨cell_of ((X0.out.drewN 1).block 1 rfl) rfl, cell_of ((X0.out.drewN 1).block 1 rfl) rfl⟩
  have K1 := Lib.hid (HU.out a2 _ _ (X0.out.drewN 1))
  clear X0
  refine e_start (fun w' => w'.cell? ⟨gb, 2, none⟩ = some (.int .i64 a2) ∧ w'.cell? ⟨gb, 3, none⟩ = some (.int .i64 a3)) (by kernel_rfl) hS (fun hS => ?_)
  refine e_take (i := 0) (v := ?_) rfl (by kernel_rfl) (fun _ _ _ h => h) (by rfl) ?_ hS ?_
  rotate_left
  · (intro w hSw; (try dsimp only at hSw); go_simp; try with_reducible rfl)
  try simp only [Act.put, List.setIfInBounds_toArray, List.set_cons_zero, List.set_cons_succ]
  refine e_take (i := 1) (v := ?_) rfl (by kernel_rfl) (fun _ _ _ h => h) (by rfl) ?_ hS ?_
  rotate_left
  · (intro w hSw; (try dsimp only at hSw); go_simp; try with_reducible rfl)
  try simp only [Act.put, List.setIfInBounds_toArray, List.set_cons_zero, List.set_cons_succ]
  refine e_take (i := 2) (v := ?_) rfl (by kernel_rfl) (fun _ _ _ h => h) (by rfl) ?_ hS ?_
  rotate_left
  · (intro w hSw; (try dsimp only at hSw); go_simp; try with_reducible rfl)
  try simp only [Act.put, List.setIfInBounds_toArray, List.set_cons_zero, List.set_cons_succ]
  refine e_take (i := 5) (v := ?_) rfl (by kernel_rfl) (fun _ _ _ h => h) (by rfl) ?_ hS ?_
  rotate_left
  · (intro w hSw; (try dsimp only at hSw); go_simp; try with_reducible rfl)
  try simp only [Act.put, List.setIfInBounds_toArray, List.set_cons_zero, List.set_cons_succ]
  refine e_take (i := 6) (v := ?_) rfl (by kernel_rfl) (fun _ _ _ h => h) (by rfl) ?_ hS ?_
  rotate_left
  · (intro w hSw; (try dsimp only at hSw); go_simp; try with_reducible rfl)
  try simp only [Act.put, List.setIfInBounds_toArray, List.set_cons_zero, List.set_cons_succ]
  refine e_pin (i := 3) rfl (by kernel_rfl) (fun K' hK => ?_)
  go_simp
  go_at_call 70
  refine K1.out.mono ?_
  rintro e x1 ⟨pa, pc, rfl, ho⟩
  have hz : x1.cell? ⟨gb, 2, none⟩ = some (.int .i64 a2) ∧ x1.cell? ⟨gb, 3, none⟩ = some (.int .i64 a3) := ⟨cell_of (ho.block 2 rfl) rfl, cell_of (ho.block 2 rfl) rfl⟩
  have X1 := Lib.hid ho
  clear ho hS K1
  refine hK.out _ _ hz (fun hS => ?_)
  clear hK K' hz
  try simp only [Act.put, List.setIfInBounds_toArray, List.set_cons_zero, List.set_cons_succ]
  refine e_pin (i := 4) rfl (by kernel_rfl) (fun K' hK => ?_)
  refine app_step rfl X1.out 1 rfl (.tmp 9) (.tmp 12) 35 (by rfl) Tryz.underlying35 infoByte (by decide) (by decide) (by rfl) (by rfl) (ByR.src X1.out 0 rfl) (u8s_one _) (by simp [be, beTo_length]) ?_
  intro y1 x2 ho hg
  have hA := by_app (ho.sel2 (R1 := [_, _, _]) (R2 := R) [1, 2] (by decide) rfl)
  obtain ⟨ya, yc, hy⟩ := ByR.shape hA
  rw [show (([69, lo8 (u64 a1)] : List UInt8) ++ be (u64 a2) 2).length = 4 by simp [be, beTo_length]] at hy
  subst hy
  have hz : x2.cell? ⟨gb, 2, none⟩ = some (.int .i64 a2) ∧ x2.cell? ⟨gb, 3, none⟩ = some (.int .i64 a3) := ⟨cell_of (hA.block 1 rfl) rfl, cell_of (hA.block 1 rfl) rfl⟩
  have X2 := Lib.hid hA
  have K2 := Lib.hid (HU.out a3 _ _ hA)
  clear ho hg hA hS X1
  refine hK.out _ _ hz (fun hS => ?_)
  clear hK K' hz
  try simp only [Act.put, List.setIfInBounds_toArray, List.set_cons_zero, List.set_cons_succ]
  refine e_pin (i := 7) rfl (by kernel_rfl) (fun K' hK => ?_)
  go_simp
  go_at_call 70
  refine K2.out.mono ?_
  rintro e x3 ⟨pa2, pc2, rfl, ho⟩
  have hz : x3.cell? ⟨gb, 2, none⟩ = some (.int .i64 a2) ∧ x3.cell? ⟨gb, 3, none⟩ = some (.int .i64 a3) := ⟨cell_of (ho.block 2 rfl) rfl, cell_of (ho.block 2 rfl) rfl⟩
  have X3 := Lib.hid ho
  clear ho hS K2
  refine hK.out _ _ hz (fun hS => ?_)
  clear hK K' hz
  try simp only [Act.put, List.setIfInBounds_toArray, List.set_cons_zero, List.set_cons_succ]
  refine e_pin (i := 8) rfl (by kernel_rfl) (fun K' hK => ?_)
  refine app_step rfl X3.out 1 rfl (.tmp 13) (.tmp 16) 35 (by rfl) Tryz.underlying35 infoByte (by decide) (by decide) (by rfl) (by rfl) (ByR.src X3.out 0 rfl) (u8s_one _) (by simp [be, beTo_length]) ?_
  intro y2 x4 ho hg
  have hA := by_app (ho.sel2 (R1 := [_, _, _]) (R2 := R) [1, 2] (by decide) rfl)
  obtain ⟨za, zc, hy⟩ := ByR.shape hA
  rw [show ((([69, lo8 (u64 a1)] : List UInt8) ++ be (u64 a2) 2) ++ be (u64 a3) 2).length = 6 by simp [be, beTo_length]] at hy
  subst hy
  have hz : x4.cell? ⟨gb, 2, none⟩ = some (.int .i64 a2) ∧ x4.cell? ⟨gb, 3, none⟩ = some (.int .i64 a3) := ⟨cell_of (hA.block 1 rfl) rfl, cell_of (hA.block 1 rfl) rfl⟩
  have X4 := Lib.hid hA
  clear ho hg hA hS X3
  refine hK.out _ _ hz (fun hS => ?_)
  clear hK K' hz
  try simp only [Act.put, List.setIfInBounds_toArray, List.set_cons_zero, List.set_cons_succ]
  refine e_last (i := 9) rfl (by kernel_rfl) (fun K' hK => ?_)
  go_simp
  refine hK.out _ _ ?_
  clear hK K' hS
  obtain ⟨l2, hl2⟩ : ∃ l2 : List UInt8, l2 = ((([69, lo8 (u64 a1)] : List UInt8) ++ be (u64 a2) 2) ++ be (u64 a3) 2) := ⟨_, rfl⟩
  have nl2 : l2.length = 6 := by rw [hl2]; simp [be, beTo_length]
  have hX := X4.out
  rw [← hl2] at hX
  have Y4 := Lib.hid hX
  have El2 := Lib.hid hl2
  have Nl2 := Lib.hid nl2
  clear hX hl2 nl2 X4
  go_upto_region 3 with fail
  have i4 : x4.cell? ⟨gb, 4, none⟩ = some (.int .i64 fl) := cell_of (Y4.out.block 1 rfl) rfl
  have i5 : x4.cell? ⟨gb, 5, none⟩ = some (.int .i64 0) := cell_of (Y4.out.block 1 rfl) rfl
  have K3 := Lib.hid (HU.out ((fl : Int) * 8192) _ _ Y4.out)
  clear Y4
  go_wp2_with fail
  refine K3.out.mono ?_
  rintro e x5 ⟨pa3, pc3, rfl, ho⟩
  have X5 := Lib.hid ho
  clear ho K3 i4 i5
  go_wp2_with (at_builtin; refine app_list rfl X5.out 1 rfl (.tmp 18) (.tmp 27) 35 (by rfl) Tryz.underlying35 infoByte (by decide) (by decide) (by rfl) (by rfl) (ByR.src X5.out 0 rfl) (u8s_one _) (by rw [Nl2.out]; simp [be, beTo_length]) ?_)
  intro y5 x6 ho hg
  have hA := by_app (ho.sel2 (R1 := [_, _, _]) (R2 := R) [1, 2] (by decide) rfl)
  obtain ⟨ta, tc, hy⟩ := ByR.shape hA
  rw [show (l2 ++ be (u64 ((fl : Int) * 8192)) 2).length = 8 by simp [Nl2.out, be, beTo_length]] at hy
  subst hy
  obtain ⟨l3, hl3⟩ : ∃ l3 : List UInt8, l3 = (l2 ++ be (u64 ((fl : Int) * 8192)) 2) := ⟨_, rfl⟩
  have nl3 : l3.length = 8 := by rw [hl3]; simp [Nl2.out, be, beTo_length]
  rw [← hl3] at hA
  have El3 := Lib.hid hl3
  have Nl3 := Lib.hid nl3
  clear hl3 nl3
  have i6 : x6.cell? ⟨gb, 6, none⟩ = some (.int .i64 a6) := cell_of (hA.block 1 rfl) rfl
  have i7 : x6.cell? ⟨gb, 7, none⟩ = some (.int .i64 a7) := cell_of (hA.block 1 rfl) rfl
  have X6 := Lib.hid hA
  have g7 := (hA.cells #[.int .u8 (a6 % 256), .int .u8 (a7 % 256), .int .u8 0, .int .u8 0] 5).rowFull 0 (n := 4) (k := 1) rfl rfl (by decide)
  have e7 : (#[.int .u8 (a6 % 256), .int .u8 (a7 % 256), .int .u8 0, .int .u8 0] : Array Value).toList = u8s ([lo8 (u64 a6), lo8 (u64 a7), 0, 0]) := by
    rw [u64_mod256 a6, u64_mod256 a7]; simp only [u8s, List.map_cons, List.map_nil, lo8_nat]; rfl
  rw [e7] at g7
  have g8 : In F0 w0 _ (ByR (.slice (some ⟨x6.heap.size, 0, none⟩) 4 4) [lo8 (u64 a6), lo8 (u64 a7), 0, 0] :: ByR (.slice ta 8 tc) l3 :: Cells gb (hC a0 a1 a2 a3 fl 0 a6 a7 a8 a9 a10) 84 :: R) := g7
  have X7 := Lib.hid g8
  clear ho hg hA X5 g7 e7 g8
  go_wp2_with (at_builtin; refine app_list rfl X7.out 1 rfl (.tmp 29) (.tmp 36) 35 (by rfl) Tryz.underlying35 infoByte (by decide) (by decide) (by rfl) (by rfl) (ByR.src X7.out 0 rfl) (u8s_one _) (by rw [Nl3.out]; simp) ?_)
  intro y7 x8 ho hg
  have hA := by_app (ho.sel2 (R1 := [_, _, _]) (R2 := R) [1, 2] (by decide) rfl)
  obtain ⟨ua, uc, hy⟩ := ByR.shape hA
  rw [show (l3 ++ [lo8 (u64 a6), lo8 (u64 a7), 0, 0]).length = 12 by simp [Nl3.out]] at hy
  subst hy
  obtain ⟨l4, hl4⟩ : ∃ l4 : List UInt8, l4 = (l3 ++ [lo8 (u64 a6), lo8 (u64 a7), 0, 0]) := ⟨_, rfl⟩
  have nl4 : l4.length = 12 := by rw [hl4]; simp [Nl3.out, be, beTo_length]
  rw [← hl4] at hA
  have El4 := Lib.hid hl4
  have Nl4 := Lib.hid nl4
  clear hl4 nl4
  have X0 := Lib.hid hA
  clear ho hg hA X6 X7 i6 i7
  go_upto_region 5 with fail
  have hS : x8.drew.cell? ⟨gb, 9, none⟩ = some (.int .u32 a9) ∧ x8.drew.cell? ⟨gb, 10, none⟩ = some (.int .u32 a10) := ⟨cell_of ((X0.out.drewN 1).block 1 rfl) rfl, cell_of ((X0.out.drewN 1).block 1 rfl) rfl⟩
  have K1 := Lib.hid (HU3.out a9 HSD.out.1.1 HSD.out.1.2 _ _ (X0.out.drewN 1))
  clear X0
  refine e_start (fun w' => w'.cell? ⟨gb, 9, none⟩ = some (.int .u32 a9) ∧ w'.cell? ⟨gb, 10, none⟩ = some (.int .u32 a10)) (by kernel_rfl) hS (fun hS => ?_)
  refine e_take (i := 0) (v := ?_) rfl (by kernel_rfl) (fun _ _ _ h => h) (by rfl) ?_ hS ?_
  rotate_left
  · (intro w hSw; (try dsimp only at hSw); go_simp; try with_reducible rfl)
  try simp only [Act.put, List.setIfInBounds_toArray, List.set_cons_zero, List.set_cons_succ]
  refine e_take (i := 1) (v := ?_) rfl (by kernel_rfl) (fun _ _ _ h => h) (by rfl) ?_ hS ?_
  rotate_left
  · (intro w hSw; (try dsimp only at hSw); go_simp; try with_reducible rfl)
  try simp only [Act.put, List.setIfInBounds_toArray, List.set_cons_zero, List.set_cons_succ]
  refine e_take (i := 2) (v := ?_) rfl (by kernel_rfl) (fun _ _ _ h => h) (by rfl) ?_ hS ?_
  rotate_left
  · (intro w hSw; (try dsimp only at hSw); go_simp; try with_reducible rfl)
  try simp only [Act.put, List.setIfInBounds_toArray, List.set_cons_zero, List.set_cons_succ]
  refine e_take (i := 5) (v := ?_) rfl (by kernel_rfl) (fun _ _ _ h => h) (by rfl) ?_ hS ?_
  rotate_left
  · (intro w hSw; (try dsimp only at hSw); go_simp; try with_reducible rfl)
  try simp only [Act.put, List.setIfInBounds_toArray, List.set_cons_zero, List.set_cons_succ]
  refine e_take (i := 6) (v := ?_) rfl (by kernel_rfl) (fun _ _ _ h => h) (by rfl) ?_ hS ?_
  rotate_left
  · (intro w hSw; (try dsimp only at hSw); go_simp; try with_reducible rfl)
  try simp only [Act.put, List.setIfInBounds_toArray, List.set_cons_zero, List.set_cons_succ]
  refine e_pin (i := 3) rfl (by kernel_rfl) (fun K' hK => ?_)
  go_simp
  go_at_call 71
  refine K1.out.mono ?_
  rintro e x1 ⟨pa, pc, rfl, ho⟩
  have hz : x1.cell? ⟨gb, 9, none⟩ = some (.int .u32 a9) ∧ x1.cell? ⟨gb, 10, none⟩ = some (.int .u32 a10) := ⟨cell_of (ho.block 2 rfl) rfl, cell_of (ho.block 2 rfl) rfl⟩
  have X1 := Lib.hid ho
  clear ho hS K1
  refine hK.out _ _ hz (fun hS => ?_)
  clear hK K' hz
  try simp only [Act.put, List.setIfInBounds_toArray, List.set_cons_zero, List.set_cons_succ]
  refine e_pin (i := 4) rfl (by kernel_rfl) (fun K' hK => ?_)
  refine app_step rfl X1.out 1 rfl (.tmp 38) (.tmp 41) 35 (by rfl) Tryz.underlying35 infoByte (by decide) (by decide) (by rfl) (by rfl) (ByR.src X1.out 0 rfl) (u8s_one _) (by simp [Nl4.out, be, beTo_length]) ?_
  intro y1 x2 ho hg
  have hA := by_app (ho.sel2 (R1 := [_, _, _]) (R2 := R) [1, 2] (by decide) rfl)
  obtain ⟨ya, yc, hy⟩ := ByR.shape hA
  rw [show (l4 ++ be (u64 a9) 4).length = 16 by simp [Nl4.out, be, beTo_length]] at hy
  subst hy
  have hz : x2.cell? ⟨gb, 9, none⟩ = some (.int .u32 a9) ∧ x2.cell? ⟨gb, 10, none⟩ = some (.int .u32 a10) := ⟨cell_of (hA.block 1 rfl) rfl, cell_of (hA.block 1 rfl) rfl⟩
  have X2 := Lib.hid hA
  have K2 := Lib.hid (HU3.out a10 HSD.out.2.1 HSD.out.2.2 _ _ hA)
  clear ho hg hA hS X1
  refine hK.out _ _ hz (fun hS => ?_)
  clear hK K' hz
  try simp only [Act.put, List.setIfInBounds_toArray, List.set_cons_zero, List.set_cons_succ]
  refine e_pin (i := 7) rfl (by kernel_rfl) (fun K' hK => ?_)
  go_simp
  go_at_call 71
  refine K2.out.mono ?_
  rintro e x3 ⟨pa2, pc2, rfl, ho⟩
  have hz : x3.cell? ⟨gb, 9, none⟩ = some (.int .u32 a9) ∧ x3.cell? ⟨gb, 10, none⟩ = some (.int .u32 a10) := ⟨cell_of (ho.block 2 rfl) rfl, cell_of (ho.block 2 rfl) rfl⟩
  have X3 := Lib.hid ho
  clear ho hS K2
  refine hK.out _ _ hz (fun hS => ?_)
  clear hK K' hz
  try simp only [Act.put, List.setIfInBounds_toArray, List.set_cons_zero, List.set_cons_succ]
  refine e_pin (i := 8) rfl (by kernel_rfl) (fun K' hK => ?_)
  refine app_step rfl X3.out 1 rfl (.tmp 42) (.tmp 45) 35 (by rfl) Tryz.underlying35 infoByte (by decide) (by decide) (by rfl) (by rfl) (ByR.src X3.out 0 rfl) (u8s_one _) (by simp [Nl4.out, be, beTo_length]) ?_
  intro y2 x4 ho hg
  have hA := by_app (ho.sel2 (R1 := [_, _, _]) (R2 := R) [1, 2] (by decide) rfl)
  obtain ⟨za, zc, hy⟩ := ByR.shape hA
  rw [show ((l4 ++ be (u64 a9) 4) ++ be (u64 a10) 4).length = 20 by simp [Nl4.out, be, beTo_length]] at hy
  subst hy
  have hz : x4.cell? ⟨gb, 9, none⟩ = some (.int .u32 a9) ∧ x4.cell? ⟨gb, 10, none⟩ = some (.int .u32 a10) := ⟨cell_of (hA.block 1 rfl) rfl, cell_of (hA.block 1 rfl) rfl⟩
  have X4 := Lib.hid hA
  clear ho hg hA hS X3
  refine hK.out _ _ hz (fun hS => ?_)
  clear hK K' hz
  try simp only [Act.put, List.setIfInBounds_toArray, List.set_cons_zero, List.set_cons_succ]
  refine e_last (i := 9) rfl (by kernel_rfl) (fun K' hK => ?_)
  go_simp
  refine hK.out _ _ ?_
  clear hK K' hS
  have hL : ((l4 ++ be (u64 a9) 4) ++ be (u64 a10) 4) = headL ⟨a0, a1, a2, a3, fl, 0, a6, a7, a8, a9, a10⟩ 0 := by
    rw [El4.out, El3.out, El2.out, headL_eq]; unfold foNat; simp only [be2, be4, Int.add_zero]; rfl
  have h8 := X4.out
  clear X4
  rw [hL] at h8
  have h9 : In F0 w0 x4 (ByR (.slice za 20 zc) (headL ⟨a0, a1, a2, a3, fl, 0, a6, a7, a8, a9, a10⟩ 0) :: Cells gb (hC a0 a1 a2 a3 fl 0 a6 a7 a8 a9 a10) 84 :: R) := h8
  clear h8 hL
  have HH := Lib.hid (headL_set ⟨a0, a1, a2, a3, fl, 0, a6, a7, a8, a9, a10⟩ (s := netN (headL ⟨a0, a1, a2, a3, fl, 0, a6, a7, a8, a9, a10⟩ 0)))
  have HD : Hid (buildD ⟨a0, a1, a2, a3, fl, 0, a6, a7, a8, a9, a10⟩ = headL ⟨a0, a1, a2, a3, fl, 0, a6, a7, a8, a9, a10⟩ (netN (headL ⟨a0, a1, a2, a3, fl, 0, a6, a7, a8, a9, a10⟩ 0))) := Lib.hid rfl
  have hn := netN_lt (headL ⟨a0, a1, a2, a3, fl, 0, a6, a7, a8, a9, a10⟩ 0)
  have KN := Lib.hid (r1_net (c := zc) (ByR.src h9 0 rfl) (by rw [headL_length]; omega))
  have hl := headL_length ⟨a0, a1, a2, a3, fl, 0, a6, a7, a8, a9, a10⟩ 0
  generalize netN (headL ⟨a0, a1, a2, a3, fl, 0, a6, a7, a8, a9, a10⟩ 0) = nn at *
  generalize headL ⟨a0, a1, a2, a3, fl, 0, a6, a7, a8, a9, a10⟩ 0 = HL0 at *
  obtain ⟨g, rfl⟩ : ∃ g, za = some ⟨g, 0, none⟩ := by
    obtain ⟨F, r⟩ := h9.get 0 rfl
    obtain ⟨a', c', e, _, _, hat⟩ := RowA.shape r
    rw [Value.slice.injEq] at e
    obtain ⟨g, e2, _⟩ := hat 0 _ (u8s_get (by omega))
    exact ⟨g, e.1.trans e2⟩
  rw [hl] at KN
  obtain ⟨c10, f10⟩ := row_byte h9 0 rfl (k := 10) (by omega)
  obtain ⟨c11, f11⟩ := row_byte h9 0 rfl (k := 11) (by omega)
  have hv1 : (nn : Int) / 256 = (((UInt8.ofNat (nn / 256)).toNat : Nat) : Int) := by simp; omega
  have hv2 : (nn : Int) % 256 = (((UInt8.ofNat nn).toNat : Nat) : Int) := by simp
  have h10 := row_setb h9 0 rfl (k := 10) (by omega) (UInt8.ofNat (nn / 256)) hv1
  have h11 := row_setb h10 0 rfl (k := 11) (by rw [List.length_set]; omega) (UInt8.ofNat nn) hv2
  have G := Lib.hid (h11.sel2 (R1 := [_, _]) (R2 := R) [0] (by decide) rfl)
  clear h9 h10 h11 hv1 hv2
  clear hl
  go_wp2_with fail
  refine KN.out.mono ?_
  rintro e w9 ⟨rfl, rfl⟩
  clear KN
  go_wp2_with fail
  go_ret
  exact ⟨_, rfl, by rw [HD.out, ← HH.out]; exact G.out⟩
end
end Go.Proofs.YtgapbecddgfkmaaGreat
