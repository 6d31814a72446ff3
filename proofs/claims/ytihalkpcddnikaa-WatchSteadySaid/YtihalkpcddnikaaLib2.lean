/-
  More of my own laws on calls.
-/
import Derived.Test.YtihalkpcddnikaaLib
namespace Go.Proofs.Ytihalkpcddnikaa
open Go.RowKit

/-- A call that leaves the world as it was, in straight code. -/
theorem Calls.tells {P : Program} {f : FuncId} {args : Array Value} {w : World} {v : Value} {K : Ending → World → Prop} (h : Calls P f args w (Tells w v))
    (k : K (.returned v) w) : Calls P f args w K := h.mono fun _ _ ⟨he, hy⟩ => by rw [he, ← hy]; exact k
end Go.Proofs.Ytihalkpcddnikaa
