/- Steps of a walk: what an exit passes. No program is in sight here. -/
import Derived.Test.YtlegnbigddhmlaaDoorZSx2
namespace Go.Slip
open Go.RowKit
theorem sx_thenexit {next : Act → World → Prop} {Q : Exit → Act → World → Prop} {id : Nat} {a : Act} {w : World} (h : Q (.exit id) a w) : Exit.then next Q (.exit id) a w := h
theorem sx_loop {P : Program} {Q : Exit → Act → World → Prop} {a : Act} {w : World} {c : Code} (I : Nat → Act → World → Prop) (n0 : Nat) (h0 : I n0 a w)
    (round : ∀ G : Nat → Act → World → Prop, (∀ n a w, c.wp P (Exit.then (fun a' w' => ∃ n', n' < n ∧ I n' a' w') Q) a w → G n a w) → ∀ n a w, I n a w → G n a w) : (Code.loop c).wp P Q a w :=
  wp_loop_ghost I n0 h0 (round _ fun _ _ _ h => h)
theorem sx_loop2 {P : Program} {Q : Exit → Act → World → Prop} {a : Act} {w : World} {c : Code} (K : Nat → (Nat → Value) → Act → World → Prop) (n0 : Nat) (h0 : K n0 (fun i => a.tmps[i]?.getD undef) a w)
    (round : ∀ G : Nat → Act → World → Prop, (∀ n a w, c.wp P (Exit.then (fun a' w' => ∃ n', n' < n ∧ K n' (fun i => a'.tmps[i]?.getD undef) a' w') Q) a w → G n a w) → ∀ n U a w, K n U a w → G n a w) : (Code.loop c).wp P Q a w := by
  refine wp_loop_ghost (fun n a w => ∃ U, K n U a w) n0 ⟨_, h0⟩ fun n a w ⟨U, hk⟩ => ?_
  refine round (fun n a w => c.wp P (Exit.then (fun a' w' => ∃ n', n' < n ∧ ∃ U, K n' U a' w') Q) a w) (fun n a w h => ?_) n U a w hk
  refine wp_mono h fun e a' w' hq => ?_
  cases e with
  | normal =>
    obtain ⟨n', h1, h2⟩ := hq
    exact ⟨n', h1, _, h2⟩
  | exit id => exact hq
  | goto l => exact hq
  | ret => exact hq
  | panic ch => exact hq
  | outgrown => exact hq
theorem sx_cutg {P : Program} {c : Code} {Q : Exit → Act → World → Prop} {a : Act} {w : World} {R : Act → World → Prop} (h : c.wp P (CutQ R) a w) (k : ∀ G : Act → World → Prop, (∀ a w, Q .normal a w → G a w) → ∀ a w, R a w → G a w) : c.wp P Q a w :=
  sx_cut h (k _ fun _ _ h => h)
end Go.Slip
