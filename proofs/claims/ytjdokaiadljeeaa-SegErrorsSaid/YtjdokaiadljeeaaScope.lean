/-
  A scope with a label that is jumped to forward alone.
-/
import Derived.Test.YtjdokaiadljeeaaMem
import Derived.WalkMore
import Derived.ScopeJumps
namespace Go.Proofs.Ytjdokaiadljeeaa

theorem wp_scope_fwd {P : Program} {a : Act} {w : World} {Q : Exit → Act → World → Prop} {c rest : Code} (l : Nat) (hf : findLabel c l = some rest)
    (first : c.wp P (Exit.jump l (fun a' w' => rest.wp P (Exit.jump l (fun _ _ => False) Q) a' w') Q) a w) : (Code.scope c).wp P Q a w := by
  refine wp_scope_jumps l (fun a' w' => rest.wp P (Exit.jump l (fun _ _ => False) Q) a' w') (fun _ _ => 0) hf first ?_
  intro a' w' h
  refine Code.wp_mono ?_ h
  intro e a2 w2 h2
  cases e with
  | goto l' => exact ⟨h2.1, h2.2.elim⟩
  | normal => exact h2
  | exit id => exact h2
  | ret => exact h2
  | panic ch => exact h2
  | outgrown => exact h2

end Go.Proofs.Ytjdokaiadljeeaa
