/- What calls on dyads leave, as dyads that can be handed in again. -/
import Derived.Test.YtlegnbigddhmlaaDoorZLawD1
import Derived.Test.YtlegnbigddhmlaaDoorZDyad11
import Derived.Test.YtlegnbigddhmlaaDoorZU
import Derived.Test.YtlegnbigddhmlaaDoorZA
namespace Go.Proofs.YtlegnbigddhmlaaDoor
open Go.RowKit Go.Slip

/-- This dyad holds this number. -/
structure OutOf (r : Din) (d : Dv) : Prop where
  g : r.g = d.neg
  xs : r.xs = dig B32 d.m
  e : r.e = d.e

structure TwoSpec (a b : Din) (D : Dv) (r : Din) (er : Int) : Prop where
  er : er = errTwo a b D
  out : OutOf r (doneTwo a b D)

structure OneSpec (e0 : Int) (D : Dv) (r : Din) (er : Int) : Prop where
  er : er = errOne e0 D
  out : OutOf r (doneOne e0 D)

theorem outDin (w' : World) (base : Nat) (d : Dv) (p : Option Addr) (c : Nat) (ho : Own w' base .u32 46 p c (dig B32 d.m)) (hl : (dig B32 d.m).length ≤ 9223372036854775807) :
    InD w' ⟨d.neg, p, c, dig B32 d.m, d.e⟩ ∧ OutOf ⟨d.neg, p, c, dig B32 d.m, d.e⟩ d :=
  ⟨⟨ho.rd, ho.le_cap, hl, dig_lt B32_two _⟩, rfl, rfl, rfl⟩

/-- A dyad that can be handed in again. -/
def GivesIn (w : World) (S : Din → Int → Prop) (en : Ending) (w' : World) : Prop :=
  ∃ (r : Din) (er : Int), en = .returned (.tuple #[.agg #[.bool r.g, .slice r.p r.xs.length r.c, .int .i64 r.e], .int .i64 er]) ∧ InD w' r ∧ Below w.heap.size w w' ∧ S r er

theorem givesIn_of {w w' : World} {d : Dv} {er : Int} {en : Ending} {S : Din → Int → Prop} (h : GivesDE w w.heap.size d er en w') (hl : (dig B32 d.m).length ≤ 9223372036854775807) (hS : ∀ r, OutOf r d → S r er) : GivesIn w S en w' := by
  obtain ⟨p, c, rfl, ho, hb⟩ := h
  obtain ⟨h1, h2⟩ := outDin w' _ d p c ho hl
  exact ⟨_, er, rfl, h1, hb, hS _ h2⟩

theorem doneTwo_len (a b : Din) (D : Dv) : (dig B32 (doneTwo a b D).m).length ≤ 9223372036854775807 := by
  unfold doneTwo
  split
  · have := doneD_len D; omega
  · simp [dig_zero]

theorem doneOne_len (e0 : Int) (D : Dv) : (dig B32 (doneOne e0 D).m).length ≤ 9223372036854775807 := by
  unfold doneOne
  split
  · have := doneD_len D; omega
  · simp [dig_zero]

theorem dyBare_in (a : Din) (w : World) (ha : InD w a) (hT : TabW w) :
    Calls Tryd.prog 16 #[.agg #[.bool a.g, .slice a.p a.xs.length a.c, .int .i64 a.e]] w (GivesIn w (OneSpec (errDy a) (dyV a))) :=
  (dyBare_any a w ha hT).mono fun _ _ h1 => givesIn_of h1 (doneOne_len _ _) fun _ h2 => ⟨rfl, h2⟩

theorem errD_bd {D : Dv} (h : errD D = 0) : (dig B32 D.m).length ≤ 1200 ∧ -20000 ≤ D.e ∧ D.e ≤ 20000 := by
  unfold errD at h
  split at h
  · omega
  · split at h
    · omega
    · omega

theorem errD_of {D : Dv} (h1 : (dig B32 D.m).length ≤ 1200) (h2 : -20000 ≤ D.e) (h3 : D.e ≤ 20000) : errD D = 0 := by
  unfold errD
  rw [if_neg (by omega), if_neg (by omega)]

/-- What was told is well formed, and stands for what it is. -/
theorem OutOf.good {r : Din} {D : Dv} (h : OutOf r D) (hB : Bare D) (h0 : errD D = 0) : errDy r = 0 ∧ dyV r = D := by
  obtain ⟨g, p, c, xs, e⟩ := r
  obtain ⟨h1, h2, h3⟩ := h
  obtain ⟨neg, m, ex⟩ := D
  simp only at h1 h2 h3
  subst h1 h2 h3
  obtain ⟨l1, l2, l3⟩ := errD_bd h0
  simp only at l1 l2 l3
  constructor
  · unfold errDy
    have hn : errNat (dig B32 m) = 0 := by rw [Go.Slip.errNat_dig, if_neg (by omega)]
    simp only [hn, if_true]
    rw [if_neg (by omega)]
  · unfold dyV
    simp only
    rw [val_dig B32_two]
    exact bare_of hB

theorem TwoSpec.ok {a b r : Din} {D : Dv} {er : Int} (h : TwoSpec a b D r er) (h0 : er = 0) : errDy2 a b = 0 ∧ errD D = 0 ∧ OutOf r D := by
  obtain ⟨h1, h2⟩ := h
  rw [h0] at h1
  unfold errTwo at h1
  by_cases he : errDy2 a b = 0
  · rw [if_pos he] at h1
    refine ⟨he, h1.symm, ?_⟩
    unfold doneTwo at h2
    rw [if_pos he] at h2
    unfold doneD at h2
    rw [if_pos h1.symm] at h2
    exact h2
  · rw [if_neg he] at h1
    exact absurd h1.symm he

theorem TwoSpec.of {a b r : Din} {D : Dv} {er : Int} (h : TwoSpec a b D r er) (h0 : errDy2 a b = 0) : er = errD D ∧ OutOf r (doneD D) := by
  obtain ⟨h1, h2⟩ := h
  unfold errTwo at h1
  unfold doneTwo at h2
  rw [if_pos h0] at h1 h2
  exact ⟨h1, h2⟩

theorem TwoSpec.made {a b r : Din} {D : Dv} {er : Int} (h : TwoSpec a b D r er) (h0 : errDy2 a b = 0) (h1 : errD D = 0) : er = 0 ∧ OutOf r D := by
  obtain ⟨h2, h3⟩ := h.of h0
  unfold doneD at h3
  rw [if_pos h1] at h3
  exact ⟨by rw [h2, h1], h3⟩

theorem OneSpec.ok {r : Din} {e0 er : Int} {D : Dv} (h : OneSpec e0 D r er) (h0 : er = 0) : e0 = 0 ∧ errD D = 0 ∧ OutOf r D := by
  obtain ⟨h1, h2⟩ := h
  rw [h0] at h1
  unfold errOne at h1
  by_cases he : e0 = 0
  · rw [if_pos he] at h1
    refine ⟨he, h1.symm, ?_⟩
    unfold doneOne at h2
    rw [if_pos he] at h2
    unfold doneD at h2
    rw [if_pos h1.symm] at h2
    exact h2
  · rw [if_neg he] at h1
    exact absurd h1.symm he

theorem OneSpec.made {r : Din} {e0 er : Int} {D : Dv} (h : OneSpec e0 D r er) (h0 : e0 = 0) (h1 : errD D = 0) : er = 0 ∧ OutOf r D := by
  obtain ⟨h2, h3⟩ := h
  unfold errOne at h2
  unfold doneOne at h3
  rw [if_pos h0] at h2 h3
  unfold doneD at h3
  rw [if_pos h1] at h3
  exact ⟨by rw [h2, h1], h3⟩

theorem errDy2_of {a b : Din} (h1 : errDy a = 0) (h2 : errDy b = 0) : errDy2 a b = 0 := by unfold errDy2; rw [if_pos h1]; exact h2

/-- SameDyad of two that hold these. -/
theorem refSameDyad_out (r s : Din) (d f : Dv) (w : World) (hr : InD w r) (hs : InD w s) (h1 : OutOf r d) (h2 : OutOf s f) (l1 : (dig B32 d.m).length ≤ 1000000000) (l2 : (dig B32 f.m).length ≤ 1000000000) :
    Calls Tryd.prog 17 #[.agg #[.bool r.g, .slice r.p r.xs.length r.c, .int .i64 r.e], .agg #[.bool s.g, .slice s.p s.xs.length s.c, .int .i64 s.e]] w fun en w' => en = .returned (.bool (decide (d = f))) ∧ Below w.heap.size w w' := by
  have h := refSameDyad_dec r.g s.g r.p s.p r.xs.length r.c s.xs.length s.c r.e s.e d.m f.m w (by rw [← h1.xs]; exact hr.rd) (by rw [← h2.xs]; exact hs.rd) (by rw [h1.xs]) (by rw [h2.xs]) l1 l2
  rw [h1.g, h2.g, h1.e, h2.e] at h
  rw [h1.g, h2.g, h1.e, h2.e]
  exact h

end Go.Proofs.YtlegnbigddhmlaaDoor
