/- Two bytes as a text. -/
import Derived.Test.YtcakgponofbhkaaBase
import Derived.Test.YtcakgponofbhkaaRows
import Derived.Laws.BytesString
import Derived.Laws.Rows
namespace Go.Proofs.Ytcakgponofbhkaa
open Go.RowKit
set_option linter.unusedVariables false
set_option maxRecDepth 100000
def key2 (hi lo : Int) : ByteArray := ⟨#[UInt8.ofNat hi.toNat, UInt8.ofNat lo.toNat]⟩
theorem key2_size (hi lo : Int) : (key2 hi lo).size ≤ maxLen := by
  have : (key2 hi lo).size = 2 := rfl
  rw [this]; decide +kernel
theorem key2_inj {a b c d : Int} (ha : 0 ≤ a ∧ a < 256) (hb : 0 ≤ b ∧ b < 256) (hc : 0 ≤ c ∧ c < 256) (hd : 0 ≤ d ∧ d < 256) (h : key2 a b = key2 c d) : a = c ∧ b = d := by
  have e : (key2 a b).data.toList = (key2 c d).data.toList := by rw [h]
  simp only [key2, List.cons.injEq, and_true] at e
  have e1 := congrArg UInt8.toNat e.1
  have e2 := congrArg UInt8.toNat e.2
  simp at e1 e2
  omega
theorem conv2 {w : World} {b : Nat} {hi lo : Int} {T : TypeId} (h : w.heap[b]? = some (.cells #[.int .u8 hi, .int .u8 lo] T (0, 0))) :
    (convert 129 9 (.slice (some ⟨b, 0, none⟩) 2 2)).run Try.prog w = .ok (.string (key2 hi lo)) w := by
  rw [run_convert_bytes_string w 129 9 5 _ _ _ Try.underlying129 Try.underlying5 Try.underlying9]
  rw [run_bytesToString w ⟨b, 0, none⟩ 2 2 [hi, lo]]
  · rfl
  · have := run_loadCells_list (P := Try.prog) w ⟨b, 0, none⟩ [.int .u8 hi, .int .u8 lo] (fun j v hv => by
      have : (⟨b, 0, none⟩ : Addr).add j = ⟨b, j, none⟩ := by unfold Addr.add; split <;> simp_all
      rw [this]
      exact cell_of h (by simpa using hv))
    exact this
end Go.Proofs.Ytcakgponofbhkaa
