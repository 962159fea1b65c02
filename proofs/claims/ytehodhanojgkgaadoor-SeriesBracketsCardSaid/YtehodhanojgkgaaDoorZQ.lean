/- What the references call, said of whole numbers over one power of 2.
   The references' series: ZPlus, atanOf, PiOf, Ln2Of; the laws' sumOf. -/
import Derived.Test.YtehodhanojgkgaaDoorZA
import Derived.Test.YtehodhanojgkgaaDoorZX
import Derived.Test.YtehodhanojgkgaaDoorZRBa2
import Derived.Test.YtehodhanojgkgaaDoorZRDy5
import Derived.Test.YtehodhanojgkgaaDoorZRDy7
import Derived.Test.YtehodhanojgkgaaDoorZR
import Derived.Test.YtehodhanojgkgaaDoorZRef10
import Derived.Test.YtehodhanojgkgaaDoorZK
namespace Go.Proofs.YtehodhanojgkgaaDoor
open Go.RowKit Go.Slip

/-- A number of the reference's. -/
def GNf (w : World) (base : Nat) (d : Dv) (en : Ending) (w' : World) : Prop :=
  ∃ p c, en = .returned (.agg #[.bool d.neg, .slice p (dig B16 d.m).length c, .int .i64 d.e]) ∧ Rf w' base p c (dig B16 d.m) ∧ Below w.heap.size w w'

theorem gnf_of {w w' : World} {d : Dv} {en : Ending} (h : GivesF w (fun _ => False) d en w') : GNf w w.heap.size d en w' := by
  obtain ⟨p, c, h1, h2, h3, h4, h5⟩ := h
  exact ⟨p, c, h1, rf_of h2 h3 h4, h5⟩
/-- Bounds of a number of the reference's. -/
structure FitR (d : Dv) : Prop where
  len : (dig B16 d.m).length ≤ 1000000
  lo : -1000000 ≤ d.e
  hi : d.e ≤ 1000000
theorem fit_nn {z : Int} {w : Nat} (hw : w ≤ 15000) (hz : Small z) : FitR (norm z (-w)) := by
  obtain ⟨h1, h2, h3⟩ := len_nn z w hw hz
  have := B16_len32 (norm z (-w)).m
  exact ⟨by omega, by omega, by omega⟩

theorem rdcmp (a b : Dv) (p q : Option Addr) (c c' : Nat) (w : World) (hp : Rd w .i64 p (dig B16 a.m)) (hq : Rd w .i64 q (dig B16 b.m)) (hc : (dig B16 b.m).length ≤ c') (fa : FitR a) (fb : FitR b) :
    Calls Tryd.prog 26 #[.agg #[.bool a.neg, .slice p (dig B16 a.m).length c, .int .i64 a.e], .agg #[.bool b.neg, .slice q (dig B16 b.m).length c', .int .i64 b.e]] w fun en w' => en = .returned (.int .i64 (rCmp a b)) ∧ Below w.heap.size w w' :=
  refDCmp_any a.neg b.neg p q _ c _ c' a.e b.e a.m b.m w hp hq rfl rfl hc fa.len fb.len ⟨fa.lo, fa.hi⟩ ⟨fb.lo, fb.hi⟩
/-- A dyad that came from a call, as one that is handed in. -/
theorem din_of {w : World} {base t : Nat} {d : Dv} {p : Option Addr} {c : Nat} (h : Own w base .u32 t p c (dig B32 d.m)) (hB : Bare d) (h0 : errD d = 0) :
    InD w ⟨d.neg, p, c, dig B32 d.m, d.e⟩ ∧ errDy ⟨d.neg, p, c, dig B32 d.m, d.e⟩ = 0 ∧ dyV ⟨d.neg, p, c, dig B32 d.m, d.e⟩ = d := by
  have hl : (dig B32 d.m).length ≤ 1200 ∧ -20000 ≤ d.e ∧ d.e ≤ 20000 := by
    unfold errD at h0
    split at h0
    · omega
    · split at h0
      · omega
      · omega
  have hv : dyV ⟨d.neg, p, c, dig B32 d.m, d.e⟩ = d := by
    unfold dyV
    rw [val_dig B32_two]
    exact bare_of hB
  refine ⟨⟨h.rd, h.le_cap, by show (dig B32 d.m).length ≤ _; omega, dig_lt B32_two d.m⟩, ?_, hv⟩
  unfold errDy
  simp only
  have e : errNat (dig B32 d.m) = 0 := by rw [errNat_dig, if_neg (by omega)]
  rw [e, if_pos rfl, if_neg (by omega)]

end Go.Proofs.YtehodhanojgkgaaDoor

namespace Go.Slip

end Go.Slip
namespace Go.Proofs.YtehodhanojgkgaaDoor
open Go.RowKit Go.Slip

end Go.Proofs.YtehodhanojgkgaaDoor
