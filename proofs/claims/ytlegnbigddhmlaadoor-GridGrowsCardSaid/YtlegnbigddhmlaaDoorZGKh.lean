/- What the grids' laws of balls and balances share. -/
import Derived.Test.YtlegnbigddhmlaaDoorZGd13
import Derived.Test.YtlegnbigddhmlaaDoorZF
import Derived.Test.YtlegnbigddhmlaaDoorZU
import Derived.Test.YtlegnbigddhmlaaDoorZLawG0
import Derived.Test.YtlegnbigddhmlaaDoorZChs
import Derived.Test.YtlegnbigddhmlaaDoorZSx3
import Derived.Test.YtlegnbigddhmlaaDoorZA
namespace Go.Slip

theorem times_bd2 {a b : Dv} (hal : (dig B32 a.m).length ≤ 1300) (hbl : (dig B32 b.m).length ≤ 1300) (ha1 : -100000 ≤ a.e) (ha2 : a.e ≤ 100000) (hb1 : -100000 ≤ b.e) (hb2 : b.e ≤ 100000) :
    (dig B32 (dTimes a b).m).length ≤ 2600 ∧ -200000 ≤ (dTimes a b).e ∧ (dTimes a b).e ≤ 300000 := by
  have h1 := dTimes_len a b
  unfold dTimes at *
  have h4 : (dig B32 (a.m * b.m)).length ≤ 2600 := Nat.le_trans (dig_len_mul B32_two _ _) (by omega)
  have h5 := bare_e ⟨xor a.neg b.neg, a.m * b.m, a.e + b.e⟩ (n := 2600) h4 (lo := -200000) (hi := 200000) (by simp only; omega) (by simp only; omega) (by omega) (by omega)
  omega

theorem rCmp_swap (a b : Dv) : rCmp b a = -rCmp a b := by
  have h1 : min a.e b.e ≤ a.e := by omega
  have h2 : min a.e b.e ≤ b.e := by omega
  rw [rCmp_zOf a b h1 h2, rCmp_zOf b a h2 h1, ← Int.sign_neg]
  congr 1
  omega

/-- Who is more is no less behind it. -/
theorem grows_more {p s x y : Dv} (bx : Bare x) (by' : Bare y) (h1 : leD p s → leD x y) (h2 : leD s p → leD y x) :
    (rCmp p s < 0 → pCmp x y ≤ 0) ∧ (0 < rCmp p s → 0 ≤ pCmp x y) ∧ (rCmp p s = 0 → pCmp x y = 0) := by
  rw [rCmp_eq bx by']
  unfold leD at h1 h2
  rw [rCmp_swap p s, rCmp_swap x y] at h2
  refine ⟨fun h => h1 (by omega), fun h => ?_, fun h => ?_⟩
  · have := h2 (by omega); omega
  · have := h2 (by omega); have := h1 (by omega); omega

end Go.Slip
namespace Go.Proofs.YtlegnbigddhmlaaDoor
open Go.RowKit Go.Slip

/-- A number that came, as one that is handed in. -/
def dinOf (d : Dv) (p : Option Addr) (c : Nat) : Din := ⟨d.neg, p, c, dig B32 d.m, d.e⟩

theorem dinOf_in {w : World} {base t : Nat} {d : Dv} {p : Option Addr} {c : Nat} (h : Own w base .u32 t p c (dig B32 d.m)) (hl : (dig B32 d.m).length ≤ 1000000) : InD w (dinOf d p c) :=
  ⟨h.rd, h.le_cap, by show (dig B32 d.m).length ≤ _; omega, dig_lt B32_two d.m⟩
theorem dinOf_good (d : Dv) (p : Option Addr) (c : Nat) (hB : Bare d) (h0 : errD d = 0) : errDy (dinOf d p c) = 0 ∧ dyV (dinOf d p c) = d := OutOf.good ⟨rfl, rfl, rfl⟩ hB h0

/-- The first half holds. -/
theorem keep_one {x : Din} {g : Gd} {w : World} (hx : InD w x) (h0 : errOn x g = 0) (hin : inGridD (dyV x) g = true) (k : Nat) (way : Int) (hw : 1 ≤ way ∧ way ≤ 5) :
    rokB ⟨x.g, x.p, x.c, x.xs, some ⟨k, 0, none⟩, 1, [1], x.e⟩ g way = true ∧ rvalV ⟨x.g, x.p, x.c, x.xs, some ⟨k, 0, none⟩, 1, [1], x.e⟩ g way = dyV x ∧ errD (dyV x) = 0 := by
  obtain ⟨hd0, hg0⟩ := errOn_ok h0
  have G := goodG_of hg0
  have hxs : errNat x.xs = 0 := by
    unfold errDy at hd0
    by_cases h : errNat x.xs = 0
    · exact h
    · rw [if_neg h] at hd0; exact absurd hd0 h
  have hxe : ¬ (x.e < -20000 ∨ 20000 < x.e) := by
    unfold errDy at hd0
    rw [if_pos hxs] at hd0
    intro h; rw [if_pos h] at hd0; simp at hd0
  obtain ⟨k1, k2⟩ := keeps_rv (s := x.g) (m := val B32 x.xs) (e := x.e) (way := way) G hin
  have e1 : val B32 [1] = 1 := rfl
  have er : errRound ⟨x.g, x.p, x.c, x.xs, some ⟨k, 0, none⟩, 1, [1], x.e⟩ g way = 0 := by
    unfold errRound errRat
    simp only
    rw [if_neg (by rw [if_neg (by simp [hxs]), if_neg (by simp [errNat_lit (k := 1)]), if_neg (by simp; omega)]; simp), if_neg (by simp [hg0]), if_neg (by omega)]
  have ro : rokB ⟨x.g, x.p, x.c, x.xs, some ⟨k, 0, none⟩, 1, [1], x.e⟩ g way = true := by
    unfold rokB roundOf
    rw [if_pos er, decide_eq_true er, Bool.true_and]
    simp only [e1]
    exact k2
  refine ⟨ro, ?_, ?_⟩
  · unfold rvalV
    rw [if_pos ro]
    simp only [e1]
    exact k1
  · obtain ⟨l1, _, _⟩ := dyV_bd hx hd0
    obtain ⟨l2, l3⟩ := inGrid_e hg0 (dyV_bare x) hin
    exact errD_of l1 (by omega) (by omega)

/-- What was rounded the grid holds. -/
theorem keep_two {q : Rin} {g : Gd} {w : World} (hq : InR w q) {way : Int} (h : rokB q g way = true) (p : Option Addr) (c : Nat) :
    errOn (dinOf (rvalV q g way) p c) g = 0 ∧ holdsB (dinOf (rvalV q g way) p c) g = true ∧ (dig B32 (rvalV q g way).m).length ≤ 1200 := by
  have h1 : errRound q g way = 0 ∧ okP (roundOf q g way) g = true := by
    unfold rokB at h
    simp only [Bool.and_eq_true, decide_eq_true_eq] at h
    exact h
  obtain ⟨hd, hg, hw1, hw2, _, _, _, _⟩ := errRound_ok hq h1.1
  have G := goodG_of hg
  have h2 := h1.2
  unfold roundOf at h2
  rw [if_pos h1.1] at h2
  have hv : rvalV q g way = rv q.g (val B32 q.xs) (val B32 q.ys) q.e g way := by unfold rvalV; rw [if_pos h]
  have he := rv_errD (neg := q.g) (num := val B32 q.xs) (e := q.e) (way := way) hd hg h2
  have hi := rv_in (neg := q.g) (num := val B32 q.xs) (e := q.e) (way := way) hd G h2
  rw [← hv] at he hi
  have hB : Bare (rvalV q g way) := by rw [hv]; exact bare_bare _
  obtain ⟨g1, g2⟩ := dinOf_good (rvalV q g way) p c hB he
  have e0 : errOn (dinOf (rvalV q g way) p c) g = 0 := by unfold errOn; rw [if_pos g1, hg]
  refine ⟨e0, ?_, (errD_bd he).1⟩
  unfold holdsB
  rw [decide_eq_true e0, Bool.true_and, g2, keeps_eq hB G, hi]

/-- A list of the reference's. -/
def GivesRf (w : World) (xs : List Nat) (en : Ending) (w' : World) : Prop :=
  ∃ p c, en = .returned (.slice p xs.length c) ∧ Rf w' w.heap.size p c xs ∧ Below w.heap.size w w'
theorem GivesR.rf {w w' : World} {xs : List Nat} {en : Ending} (h : GivesR w .i64 xs en w') : GivesRf w xs en w' := by
  obtain ⟨p, c, h1, h2, h3, h4, h5⟩ := h
  exact ⟨p, c, h1, rf_ofR h2 h3 h4, h5⟩

/-- What holds of a ratio that is rounded. -/
theorem rok_of {q : Rin} {g : Gd} {w : World} (hq : InR w q) {way : Int} (h : rokB q g way = true) :
    0 < val B32 q.ys ∧ errG g = 0 ∧ errD (rvalV q g way) = 0 ∧ Bare (rvalV q g way) ∧ (dig B32 (rvalV q g way).m).length ≤ 1200 ∧ rvalV q g way = rv q.g (val B32 q.xs) (val B32 q.ys) q.e g way ∧
    q.xs.length ≤ 1200 ∧ q.ys.length ≤ 1200 ∧ (dig B32 (val B32 q.xs)).length ≤ 1200 ∧ (dig B32 (val B32 q.ys)).length ≤ 1200 ∧ -20000 ≤ q.e ∧ q.e ≤ 20000 ∧ 1 ≤ way ∧ way ≤ 5 ∧ okP (roundP q.g (val B32 q.xs) (val B32 q.ys) q.e g way) g = true := by
  have h1 : errRound q g way = 0 ∧ okP (roundOf q g way) g = true := by
    unfold rokB at h
    simp only [Bool.and_eq_true, decide_eq_true_eq] at h
    exact h
  obtain ⟨hd, hg, hw1, hw2, hx, hy, he1, he2⟩ := errRound_ok hq h1.1
  have G := goodG_of hg
  have h2 := h1.2
  unfold roundOf at h2
  rw [if_pos h1.1] at h2
  have hv : rvalV q g way = rv q.g (val B32 q.xs) (val B32 q.ys) q.e g way := by unfold rvalV; rw [if_pos h]
  have he := rv_errD (neg := q.g) (num := val B32 q.xs) (e := q.e) (way := way) hd hg h2
  have hB : Bare (rvalV q g way) := by rw [hv]; exact bare_bare _
  rw [← hv] at he
  obtain ⟨k1, k2⟩ := errNat_ok hq.b1 hx
  obtain ⟨k3, k4⟩ := errNat_ok hq.b2 hy
  exact ⟨hd, hg, he, hB, (errD_bd he).1, hv, k2, k4, by rw [← k1]; exact k2, by rw [← k3]; exact k4, he1, he2, hw1, hw2, h2⟩

theorem stay2 {P : Program} {f : FuncId} {args : Array Value} {w : World} {E : Ending} (h : Calls P f args w fun e w' => e = E ∧ w = w') : Calls P f args w fun e w' => e = E ∧ Below w.heap.size w w' :=
  h.mono fun e w' ⟨h1, h2⟩ => ⟨h1, by subst h2; exact Below.refl _ _⟩

end Go.Proofs.YtlegnbigddhmlaaDoor
