import Derived.Test.YtjlgkebecpagjaaWordRWordPuts
import Derived.Test.YtjlgkebecpagjaaOpenS
set_option linter.unusedVariables false
set_option linter.unusedSimpArgs false
namespace Go.Proofs.Ytjlgkebecpagjaa.WordPWordPuts
open Go.RowKit Base Go.Proofs.YtjlgkebecpagjaaW.PrintWords Go.Proofs.YtjlgkebecpagjaaW.PrintLast Go.Proofs.Ytjlgkebecpagjaa.PWordPuts
theorem puts_f (n s : Int) (b : ByteArray) (at_ : Int) (h0 : 0 ≤ n) (h1 : n < 18446744073709551616) (hz : b.size ≤ 9223372036854775807) (h2 : -9223372036854775808 ≤ at_) (h3 : at_ < 9223372036854775808) :
    broadsheetlaw01_WordPuts.f 12 n s b at_ = some true := by
  unfold broadsheetlaw01_WordPuts.f
  rw [put_eq n s 12 (by decide) h0 h1, rput_eq n s 12 (by decide) h0 h1, take_eq b at_ s 12 (by decide) hz h2 h3, rtake_eq b at_ s 12 (by decide) hz h2 h3, awake_eq 12 (by decide)]
  simp
theorem puts (n s : Int) (b : ByteArray) (at_ : Int) (w : World) (h0 : 0 ≤ n) (h1 : n < 18446744073709551616) (hz : b.size ≤ 9223372036854775807) (h2 : -9223372036854775808 ≤ at_) (h3 : at_ < 9223372036854775808) :
    Calls Try.prog 5 #[.int .u64 n, .int .i64 s, .agg #[.string b, .int .i64 at_]] w fun e w' => e = .returned (.bool true) ∧ Below w.heap.size w w' :=
  broadsheetlaw01_WordPuts.calls 12 n s b at_ true w (puts_f n s b at_ h0 h1 hz h2 h3)
end Go.Proofs.Ytjlgkebecpagjaa.WordPWordPuts
namespace Go.Proofs.Ytjlgkebecpagjaa.Open
open Go.RowKit Base Go.Proofs.YtjlgkebecpagjaaW.PrintWords
theorem place_opens : Opens Try.prog 45 (Kd.pair Kd.string (Kd.int .i64)) (GPair (fun s : ByteArray => s.size ≤ maxLen) (fun n => (Lit.int .i64 n).wf = true)) := by
  refine opens_struct Try.underlying45 (by kernel_rfl) ?_
  refine fields_cons (opens_string Try.underlying9) (by kernel_rfl) ?_
  exact fields_last (opens_int Try.underlying3) (by kernel_rfl)
end Go.Proofs.Ytjlgkebecpagjaa.Open
