/- Plain lemmas: the greatest absolute value of a list. No condition. -/
import Derived.Test.YtdcglkdgepdnpaaBase
namespace Go.Proofs.Ytdcglkdgepdnpaa.Base
open Go.RowKit Go.Proofs.YtdcglkdgepdnpaaW.PrintWords Go.Proofs.YtdcglkdgepdnpaaW.PrintLast Go.Proofs.YtdcglkdgepdnpaaW.PrintMore
set_option linter.unusedVariables false
set_option linter.unusedSimpArgs false
def GR (a : Int) (l : List Int) : Int := l.foldl (fun a x => max a (max x (wrap64 (-x)))) a
end Go.Proofs.Ytdcglkdgepdnpaa.Base
