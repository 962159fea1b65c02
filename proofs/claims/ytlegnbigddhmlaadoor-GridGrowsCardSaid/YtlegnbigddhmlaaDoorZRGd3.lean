/- references: RoundTo. -/
import Derived.Test.YtlegnbigddhmlaaDoorZV
import Derived.Test.YtlegnbigddhmlaaDoorZR
import Derived.Test.YtlegnbigddhmlaaDoorZA
namespace Go.Proofs.YtlegnbigddhmlaaDoor
open Go.RowKit Go.Slip

/-- A reference's place that a call leaves. -/
def GivesRP (w : World) (d : Pl) (en : Ending) (w' : World) : Prop :=
  ∃ p c, en = .returned (.agg #[.bool d.neg, .slice p (dig B16 d.d).length c, .int .i64 d.pow, .bool d.exact, .bool d.over, .bool d.under]) ∧ Rd w' .i64 p (dig B16 d.d) ∧ (0 < (dig B16 d.d).length → w.heap.size ≤ blk p) ∧ Below w.heap.size w w'

theorem wid_cases (g : Gd) : wid g = 1 ∨ wid g = 4 := by unfold wid; split <;> simp

theorem far_div {x : Int} {wd : Nat} (h : wd = 1 ∨ wd = 4) (hx : -800000 ≤ x) : (x + 800000).tdiv wd = (x + 800000) / wd ∧ (800000 : Int).tdiv wd = 800000 / wd ∧ (x + 800000) / wd - 800000 / wd = x / wd := by
  refine ⟨Int.tdiv_eq_ediv_of_nonneg (by omega), Int.tdiv_eq_ediv_of_nonneg (by omega), ?_⟩
  rcases h with rfl | rfl <;> omega

theorem rd_one16b {w : World} {b : Nat} (h : Bx w b #[.int .i64 1]) : Rd w .i64 (some ⟨b, 0, none⟩) (dig B16 1) := by
  rw [dig_small B16_two (by omega) (by unfold B16; omega)]
  refine ⟨fun _ => ⟨rfl, rfl⟩, fun j hj => ?_⟩
  obtain rfl : j = 0 := by simp at hj; omega
  exact h.e1
theorem rd_one16 (w : World) (T : TypeId) : Rd (w.alloc (.cells #[.int .i64 1] T)) .i64 (some ⟨w.heap.size, 0, none⟩) (dig B16 1) := by
  rw [dig_small B16_two (by omega) (by unfold B16; omega)]
  exact (own_one w .i64 T 1 (by omega)).rd
theorem rd_two16 (w : World) (T : TypeId) : Rd (w.alloc (.cells #[.int .i64 2] T)) .i64 (some ⟨w.heap.size, 0, none⟩) (dig B16 2) := by
  rw [dig_small B16_two (by omega) (by unfold B16; omega)]
  exact (own_one w .i64 T 2 (by omega)).rd
theorem len_two16 : (dig B16 2).length = 1 := by rw [dig_small B16_two (by omega) (by unfold B16; omega)]; rfl
theorem len_one16 : (dig B16 1).length = 1 := by rw [dig_small B16_two (by omega) (by unfold B16; omega)]; rfl

end Go.Proofs.YtlegnbigddhmlaaDoor
