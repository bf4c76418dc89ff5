/- What the log laws have in common: a log that is appended to, where nothing fails. -/
import Derived.Test.YtogclkhpbjfadaaGreatLgLaw
import Derived.Test.YtogclkhpbjfadaaGreatLg6Awake
import Derived.Test.YtogclkhpbjfadaaGreatSame
import Derived.Test.YtogclkhpbjfadaaGreatArgDeep
namespace Go.Proofs.YtogclkhpbjfadaaGreat
open Go.RowKit
set_option linter.unusedVariables false
set_option maxRecDepth 100000

def TrueP (w : World) (e : Ending) (w' : World) : Prop := e = .returned (.bool true) ∧ Mod [] w w'
/-- The log behind k of M appends. -/
structure OpSt (M k : Nat) (kind ver : Nat) (size : Nat) (L : List (List UInt8)) (d : DiskD) (l : LogD) : Prop where
  firm : Firm d l.m ((L.take k).map (fun b => ⟨kind, ver, b⟩)) 0
  loose : l.loose = false
  size : l.size = size
  ver : l.m.ver = ver
  rm : Rm d ((M - k) * 600 + 10000) ((M - k) * 2 + 20)
  segs : l.m.segs.length ≤ k + 1
  next : l.m.next ≤ k + 2
  ops : d.ops ≤ 1000 + 20 * k
theorem OpSt.ok {M k kind ver size : Nat} {L : List (List UInt8)} {d : DiskD} {l : LogD} (h : OpSt M k kind ver size L d l) (hs : 16 ≤ size ∧ size ≤ 1048576) : LgOk l := ⟨by rw [h.size]; exact hs.1, by rw [h.size]; exact hs.2, h.firm.now.1⟩
theorem OpSt.step {M k kind ver size : Nat} {L : List (List UInt8)} {d : DiskD} {l : LogD} (h : OpSt M k kind ver size L d l) {x : List UInt8} (hx : L[k]? = some x) (hl : x.length ≤ 300) (hk : k < M) (hM : M ≤ 40) (hkind : kind < 256) (hver : ver < 256) :
    (appendL kind x (d, l)).2 = 0 ∧ OpSt M (k + 1) kind ver size L (appendL kind x (d, l)).1.1 (appendL kind x (d, l)).1.2 := by
  have hp : putErr kind l.m.ver x.length = 0 := by
    unfold putErr
    rw [h.ver, if_neg (by omega), if_neg (by omega)]
  have hseg := h.segs
  have hnext := h.next
  obtain ⟨a1, a2, a3, a4⟩ := append_rm (B := (M - (k + 1)) * 600 + 10000) (n := (M - (k + 1)) * 2 + 20) h.firm h.loose kind x (h.rm.le (by omega) (by omega)) (by omega) (by omega) hp
  obtain ⟨b1, b2, b3⟩ := append_inv (Fr0 := []) (s0 := 0) (Or.inl ⟨h.loose, h.firm⟩) kind x
  have hops := appendL_ops kind x (d, l)
  rcases b3 with ⟨_, b4, b5⟩ | ⟨b4, _⟩
  · refine ⟨a1, ?_, b4, by rw [b1, h.size], by rw [b2, h.ver], a2, by omega, by omega, ?_⟩
    · have e : (L.take (k + 1)).map (fun b => (⟨kind, ver, b⟩ : FrD)) = (L.take k).map (fun b => ⟨kind, ver, b⟩) ++ [⟨(kind : Int).toNat, l.m.ver, x⟩] := by
        rw [List.take_add_one, hx, h.ver]
        simp
      rw [e]; exact b5
    · have := h.ops
      simp only at hops; omega
  · exact absurd a1 b4
theorem OpSt.start {M ver : Nat} (L : List (List UInt8)) (kind : Nat) (size : Int) (hv : 1 ≤ ver ∧ ver ≤ 3) (hM : M ≤ 40) :
    ∃ d, createD ver size (dNew 200000) = (d, some ⟨sized size, firstM ver, false⟩, 0) ∧ OpSt M 0 kind ver (sized size) L d ⟨sized size, firstM ver, false⟩ := by
  obtain ⟨d', h1, h2, h3⟩ := create_rm (B := M * 600 + 10000) (n := M * 2 + 20) (dNew_ok 200000) ⟨rfl, by show 0 + _ ≤ 200000; omega, by show 0 + _ ≤ 200; omega, by show 200000 ≤ _; omega⟩ rfl hv size
  refine ⟨d', h1, h2, rfl, rfl, rfl, h3.le (by omega) (by omega), by simp [firstM], by simp [firstM], ?_⟩
  have ho : (createD ver size (dNew 200000)).1.ops ≤ (dNew 200000).ops + 8 := by
    unfold createD
    split
    · simp only; omega
    · split
      · simp only; omega
      · simp only
        have hb := beginD_ops 1 (dNew 200000)
        have : (thenD (thenD (beginD 1 (dNew 200000)) (fun d => dSync d (segName 1))) (fun d => ((commitD (firstM ((ver : Int).toNat)) d).1, (commitD (firstM ((ver : Int).toNat)) d).2.2))).1.ops ≤ (dNew 200000).ops + 8 := by
          have h1 : (thenD (beginD 1 (dNew 200000)) (fun d => dSync d (segName 1))).1.ops ≤ (dNew 200000).ops + 2 + 1 := thenD_le (μ := fun t : DiskD => t.ops) (a := (dNew 200000).ops + 2) (b := 1) hb (fun t => dSync_ops t _)
          exact thenD_le (μ := fun t : DiskD => t.ops) (a := (dNew 200000).ops + 2 + 1) (b := 5) h1 (fun t => commitD_ops _ t)
        split <;> exact this
  rw [h1] at ho
  have : (dNew 200000).ops = 0 := rfl
  simp only at ho; omega
theorem sized_ok (n : Int) : 16 ≤ sized n ∧ sized n ≤ 1048576 := by unfold sized; omega
/-- Nobody is told. -/
def empA : Asrt := fun w F => F = []
theorem empA.framed : Framed empA := ⟨fun h _ => h, fun h b hb => by rw [show _ = _ from h] at hb; simp at hb⟩
theorem In.emp {F0 : List Nat} {w0 w : World} {R : List Asrt} (h : In F0 w0 w R) : In F0 w0 w (empA :: R) := by
  obtain ⟨F, hs, hF⟩ := h.star
  refine ⟨fun B hB => ?_, ⟨F, ⟨[], F, rfl, hs, fun b hb => by simp at hb, rfl⟩, hF⟩, h.mod⟩
  rcases List.mem_cons.1 hB with rfl | hB
  · exact empA.framed
  · exact h.framed B hB
theorem nil_each : EachOk (fun _ : Unit => 0) Value.nilFunc (fun _ => empA) (fun s f => (s, 0)) where
  framed := fun _ => empA.framed
  grow := fun _ _ => Nat.zero_le _
  call := Or.inl ⟨rfl, fun _ _ => rfl⟩
theorem tellAll_nil {ver : Nat} : ∀ (l : List FrD), (∀ f ∈ l, f.ver = ver) → tellAll (fun (s : Unit) (_ : FrD) => (s, (0 : Int))) ver l () = ((), 0)
  | [], _ => rfl
  | f :: r, h => by
    unfold tellAll
    rw [if_neg (by simp [h f (by simp)])]
    simp only
    rw [if_neg (by simp)]
    exact tellAll_nil r (fun g hg => h g (List.mem_cons_of_mem _ hg))
theorem opened_on {d : DiskD} {m : ManD} {Fr : List FrD} (h : OnDisk d m Fr) (hf : d.fail = 0) (size : Int) :
    ∃ d', openL (fun (s : Unit) (_ : FrD) => (s, (0 : Int))) size d () = ((), d', some ⟨sized size, m, false⟩, 0) ∧ Firm d' m Fr Fr.length ∧ Opened d d' := by
  obtain ⟨d', h1, h2, h3⟩ := open_on (fun (s : Unit) (_ : FrD) => (s, (0 : Int))) h hf size ()
  rw [tellAll_nil _ (fun f hf => (h.ver f hf).2)] at h1
  simp only at h1
  rw [if_neg (by simp)] at h1
  exact ⟨d', h1, h2, h3⟩
theorem Opened.rm {d d' : DiskD} {B n : Nat} (h : Opened d d') (hr : Rm d B n) : Rm d' B n := hr.same h.fail h.quota h.size (by rw [h.now]; exact Nat.le_refl _)
section
variable {F0 : List Nat} {w0 w : World} {R : List Asrt}
theorem OpenPost.some {σ : Type} {Acc : σ → Asrt} {bd : Nat} {r : σ × DiskD × Option LogD × Int} {l : LogD} {e : Ending} {w' : World} (h : OpenPost Acc bd r F0 w0 R e w') (hl : r.2.2.1 = some l) : ∃ lb, e = .returned (.tuple #[dptr lb, .int .i64 r.2.2.2]) ∧ In F0 w0 w' (LgA lb bd l :: Acc r.1 :: DkA bd r.2.1 :: R) := by
  unfold OpenPost at h; rw [hl] at h; exact h
end
section
variable {H : Type} {enc : TypeId × Value → H} {w : World} {base : Nat} {spare : Nat → Bool} {held : Bool}
theorem openBssA {a : Option Addr} {len cap : Nat} {d : DataW H} {p : List MemPlace} (h : DataW.Trod enc Tryz.prog w base spare held 22 (.slice a len cap) d p) : ∃ L, ArgBss w a len cap L :=
  openBss Tryz.underlying22 Tryz.underlying23 Tryz.underlying5 (by kernel_rfl) (by kernel_rfl) h
theorem openBytesA {a : Option Addr} {len cap : Nat} {d : DataW H} {p : List MemPlace} (h : DataW.Trod enc Tryz.prog w base spare held 23 (.slice a len cap) d p) : ∃ bs, AB w (.slice a len cap) bs :=
  openBytes Tryz.underlying23 Tryz.underlying5 (by kernel_rfl) h
end
end Go.Proofs.YtogclkhpbjfadaaGreat
