/- Rows.PathPlaysSaid -/
import Derived.Test.YtgapbecddgfkmaaGreatPY30
namespace Go.Proofs.YtgapbecddgfkmaaGreat
open Go.RowKit
set_option linter.unusedVariables false
set_option maxHeartbeats 64000000
set_option maxRecDepth 100000
theorem ltT_cases (a b : Tup) : (a.src ≠ b.src ∧ ltT a b = decide (a.src < b.src)) ∨ (a.src = b.src ∧ a.dst ≠ b.dst ∧ ltT a b = decide (a.dst < b.dst)) ∨ (a.src = b.src ∧ a.dst = b.dst ∧ a.proto ≠ b.proto ∧ ltT a b = decide (a.proto < b.proto)) ∨ (a.src = b.src ∧ a.dst = b.dst ∧ a.proto = b.proto ∧ a.sport ≠ b.sport ∧ ltT a b = decide (a.sport < b.sport)) ∨ (a.src = b.src ∧ a.dst = b.dst ∧ a.proto = b.proto ∧ a.sport = b.sport ∧ ltT a b = decide (a.dport < b.dport)) := by
  unfold ltT
  by_cases h1 : a.src = b.src
  · by_cases h2 : a.dst = b.dst
    · by_cases h3 : a.proto = b.proto
      · by_cases h4 : a.sport = b.sport
        · simp [h1, h2, h3, h4]
        · simp [h1, h2, h3, h4]
      · simp [h1, h2, h3]
    · simp [h1, h2]
  · simp [h1]
theorem r4less (a b : Tup) (w : World) : Calls Tryz.prog 129 #[.agg (encT a), .agg (encT b)] w fun e w' => e = .returned (.bool (ltT a b)) ∧ ∃ o o', w' = (w.alloc o).alloc o' := by
  have HP : Hid (∀ C D : Array Value, ∃ o o', (w.alloc (.cells C 24)).alloc (.cells D 24) = (w.alloc o).alloc o') := Lib.hid fun C D => ⟨_, _, rfl⟩
  rcases ltT_cases a b with ⟨h1, e⟩ | ⟨h1, h2, e⟩ | ⟨h1, h2, h3, e⟩ | ⟨h1, h2, h3, h4, e⟩ | ⟨h1, h2, h3, h4, e⟩
  all_goals
    rw [e]
    clear e
    obtain ⟨a1, a2, a3, a4, a5⟩ := a
    obtain ⟨b1, b2, b3, b4, b5⟩ := b
    simp only at *
    go_enter Tryz.func129, Tryz.ntmps129
    go_wp2
    go_ret
    exact ⟨rfl, HP.out _ _⟩
end Go.Proofs.YtgapbecddgfkmaaGreat
