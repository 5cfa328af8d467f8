/- The law's told, of a refusal; what may be, by the document. -/
import Derived.Test.YtaenedjanckaiaaGreatRefJ
namespace Go.Proofs.YtaenedjanckaiaaGreat
set_option linter.unnecessarySimpa false
set_option linter.unusedVariables false
set_option linter.unusedSimpArgs false
open Go.RowKit

set_option maxRecDepth 100000 in
theorem told_not {w : World} (b c : Bool) (s t : ByteArray) :
    Calls Tryz.prog 16 #[.agg #[.bool false, .string ⟨#[]⟩, .bool false, .string ⟨#[]⟩], .int .i64 2, .agg #[.bool b, .string s, .bool c, .string t], .bool false] w fun e w' => e = .returned (.bool true) ∧ Below w.heap.size w w' := by
  have h1 := below_new w (.cells #[.bool false, .string ⟨#[]⟩, .bool false, .string ⟨#[]⟩] 25)
  have HB := Lib.hid (below_alloc_ h1 (.cells #[.bool b, .string s, .bool c, .string t] 25))
  clear h1
  go_enter Tryz.func16, Tryz.ntmps16
  go_wp2
  go_ret
  exact ⟨rfl, HB.out⟩
end Go.Proofs.YtaenedjanckaiaaGreat
