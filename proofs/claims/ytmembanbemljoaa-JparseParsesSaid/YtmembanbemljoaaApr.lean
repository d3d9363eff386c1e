/- The reference's Parse, as a contract over plain values. -/
import Derived.Test.YtmembanbemljoaaAp
import Derived.Test.YtmembanbemljoaaJr6
namespace Go.Proofs.Ytmembanbemljoaa
open Go.RowKit
set_option linter.unusedVariables false
set_option linter.unusedSimpArgs false

theorem rparse_told (l : List UInt8) (h : l.length ≤ 20000) : Told Try.prog 33 [.c (.sl 1 (bytePV l))] (.tup [(resT (mParse l)).1.av, .c (.v (.int .i64 ((resT (mParse l)).2 : Int)))]) :=
  pres_told ent_33 fun W a b off c h1 h2 h3 => rparse_any h1 h2 h h3

end Go.Proofs.Ytmembanbemljoaa
