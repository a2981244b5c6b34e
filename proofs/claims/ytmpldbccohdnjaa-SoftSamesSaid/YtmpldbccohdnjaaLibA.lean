/- Lemmas on the printed functions: what each answers, in plain words of Lean; on condition that the numbers are of their kinds. -/
import Derived.Test.YtmpldbccohdnjaaPx1
import Derived.Test.YtmpldbccohdnjaaMath
namespace Go.Proofs.Ytmpldbccohdnjaa.L
open Go Go.RowKit Go.Proofs.Ytmpldbccohdnjaa.M Go.Proofs.Ytmpldbccohdnjaa.P Go.Proofs.YtmpldbccohdnjaaW.PrintWords Go.Proofs.YtmpldbccohdnjaaW.PrintLast Go.Proofs.YtmpldbccohdnjaaW.PrintMore
set_option linter.unusedVariables false
set_option linter.unusedSimpArgs false

theorem Floor_f (a d : Int) (ha : I64 a) (hd : I64 d) : fixed_Floor.f a d = some (floorS a d) := by
  unfold fixed_Floor.f; exact floor_code a d ha hd

theorem rFloor_f (a d : Int) (ha : I64 a) (hd : I64 d) : heraldref02_Floor.f a d = some (floorS a d) := by
  unfold heraldref02_Floor.f; exact floor_code a d ha hd
end Go.Proofs.Ytmpldbccohdnjaa.L
