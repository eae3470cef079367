/- Two small words for functions that hold a label: a scope through which no goto runs ends as the body does. -/
import Derived.WalkMore
import Derived.Calls
namespace Go
theorem noGoto_bodyPost {P : Program} {fn : Func} {R : Ending → World → Prop} : Exit.noGoto (bodyPost P fn R) = bodyPost P fn R := by
  funext e a w
  cases e <;> rfl
theorem wp_scope_body {P : Program} {Q : Exit → Act → World → Prop} {a : Act} {w : World} {c : Code} (hQ : Exit.noGoto Q = Q) (h : c.wp P Q a w) : (Code.scope c).wp P Q a w :=
  wp_scope_straight (by rw [hQ]; exact h)
end Go
