/- Steps of a walk: what an exit passes. No program is in sight here. -/
import Derived.Test.YtlegnbigddhmlaaDoorZSx2
namespace Go.Slip
open Go.RowKit
theorem sx_thenexit {next : Act → World → Prop} {Q : Exit → Act → World → Prop} {id : Nat} {a : Act} {w : World} (h : Q (.exit id) a w) : Exit.then next Q (.exit id) a w := h
theorem sx_loop {P : Program} {Q : Exit → Act → World → Prop} {a : Act} {w : World} {c : Code} (I : Nat → Act → World → Prop) (n0 : Nat) (h0 : I n0 a w)
    (round : ∀ G : Nat → Act → World → Prop, (∀ n a w, c.wp P (Exit.then (fun a' w' => ∃ n', n' < n ∧ I n' a' w') Q) a w → G n a w) → ∀ n a w, I n a w → G n a w) : (Code.loop c).wp P Q a w :=
  wp_loop_ghost I n0 h0 (round _ fun _ _ _ h => h)
theorem sx_cutg {P : Program} {c : Code} {Q : Exit → Act → World → Prop} {a : Act} {w : World} {R : Act → World → Prop} (h : c.wp P (CutQ R) a w) (k : ∀ G : Act → World → Prop, (∀ a w, Q .normal a w → G a w) → ∀ a w, R a w → G a w) : c.wp P Q a w :=
  sx_cut h (k _ fun _ _ h => h)
end Go.Slip
