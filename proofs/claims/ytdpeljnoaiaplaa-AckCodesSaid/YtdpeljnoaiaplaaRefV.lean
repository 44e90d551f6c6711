/- Reference 02: Read. -/
import Derived.Test.YtdpeljnoaiaplaaVarB
namespace Go.Proofs.Ytdpeljnoaiaplaa
open Go.RowKit

theorem ret3 {a b c a' b' c' : Int} (h1 : a = a') (h2 : b = b') (h3 : c = c') : Ending.returned (.tuple #[.int .i64 a, .int .i64 b, .int .i64 c]) = .returned (.tuple #[.int .i64 a', .int .i64 b', .int .i64 c']) := by rw [h1, h2, h3]
end Go.Proofs.Ytdpeljnoaiaplaa
