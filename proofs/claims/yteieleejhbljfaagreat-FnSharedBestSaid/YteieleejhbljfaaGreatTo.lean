/- What comes from outside: toValue, toExpr. -/
import Derived.Test.YteieleejhbljfaaGreatSz
namespace Go.Proofs.YteieleejhbljfaaGreat
open Go Go.Ax Go.Proofs
set_option linter.unusedVariables false
set_option linter.unusedSimpArgs false

theorem tmod_nat (n m : Nat) : (n : Int).tmod m = ((n % m : Nat) : Int) := rfl
abbrev zero4 : AV := avOf (.agg #[.int .i64 0, .int .i64 0, .string ⟨#[]⟩, .slice none 0 0])
end Go.Proofs.YteieleejhbljfaaGreat
