import Derived.Test.YtpmnjeiemocbbaaProg
import Derived.WalkKit
import Derived.WalkSpells
import Derived.KernelRfl
import Derived.Laws.EntriesVeiled
import Derived.WalkLawsBesides
namespace Go.Proofs.Ytpmnjeiemocbbaa.Fr
set_option linter.unusedVariables false
set_option linter.unusedSimpArgs false
open Go.RowKit

theorem new_any (w : World) : Calls Try.prog 9 #[] w fun e w' => e = .returned (.pointer (some ⟨w.heap.size, 0, none⟩)) ∧
    w' = w.alloc (.cells #[.func (.func 16) #[.pointer (some ⟨w.heap.size, 0, none⟩)] #[], .int .i64 0, .int .i64 0, .int .i64 0, .slice none 0 0, .slice none 0 0] 46) := by
  go_enter Try.func9, Try.ntmps9
  go_wp2
  go_ways
  go_outline
  go_ret
  exact ⟨rfl, rfl⟩
end Go.Proofs.Ytpmnjeiemocbbaa.Fr
