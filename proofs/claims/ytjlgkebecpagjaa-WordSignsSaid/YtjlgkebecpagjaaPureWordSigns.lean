/- For every input WordSigns of layer 1 returns true, and its arguments read as before. No condition. -/
import Derived.Test.YtjlgkebecpagjaaWordSWordSigns
import Derived.Test.YtjlgkebecpagjaaPWordSignsx2
set_option linter.unusedVariables false
set_option linter.unusedSimpArgs false
namespace Go.Proofs.Ytjlgkebecpagjaa.Pure
open Go.RowKit Base Go.Proofs.Ytjlgkebecpagjaa.PWordSigns Go.Proofs.YtjlgkebecpagjaaW.PrintWords Go.Proofs.YtjlgkebecpagjaaW.PrintLast WordPWordSigns
theorem WordSigns : broadsheetlaw01_WordSigns.Pure := by
  intro n m s h0 h1 h2
  have b0 := wf_u64 h0
  have b1 := wf_i64 h1
  refine ⟨12, ?_⟩
  unfold broadsheetlaw01_WordSigns.f
  rw [bits_eq m s b1.1 b1.2, rbits_eq m s b1.1 b1.2, sign_eq, rsign_eq n s b0.1 b0.2, wide_eq, awake_eq 12 (by decide)]
  simp
end Go.Proofs.Ytjlgkebecpagjaa.Pure
