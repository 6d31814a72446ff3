/-
  The world of a walk under a letter, with the facts that are wanted of it.
-/
import Derived.Test.YtihalkpcddnikaaObj
namespace Go.Proofs.Ytihalkpcddnikaa
open Go.RowKit

/-- The rest of a walk, from any world of which F is known. -/
theorem wp_gen {P : Program} {c : Code} {Q : Exit → Act → World → Prop} {a : Act} {w : World} (F : World → Prop) (hF : F w) (h : ∀ w', F w' → c.wp P Q a w') : c.wp P Q a w := h w hF
theorem Calls.gen {P : Program} {f : FuncId} {args : Array Value} {w : World} {K : Ending → World → Prop} (F : World → Prop) (hF : F w) (h : ∀ w', F w' → Calls P f args w' K) : Calls P f args w K := h w hF
end Go.Proofs.Ytihalkpcddnikaa
