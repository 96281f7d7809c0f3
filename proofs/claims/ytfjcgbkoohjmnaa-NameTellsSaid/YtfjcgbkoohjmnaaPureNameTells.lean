/- For every input NameTells of layer 4 returns true, and its argument reads as before: Name, Word and Lead agree with the reference for any text. No condition. -/
import Derived.Test.YtfjcgbkoohjmnaaPNameTellsx2
import Derived.Test.YtfjcgbkoohjmnaaNamePure
set_option linter.unusedVariables false
set_option linter.unusedSimpArgs false
namespace Go.Proofs.Ytfjcgbkoohjmnaa.Pure
open Go.RowKit Go.Proofs.Ytfjcgbkoohjmnaa.PNameTells

theorem NameTells : broadsheetlaw04_NameTells.Pure := fun s hs => NameP.tells s hs
end Go.Proofs.Ytfjcgbkoohjmnaa.Pure
