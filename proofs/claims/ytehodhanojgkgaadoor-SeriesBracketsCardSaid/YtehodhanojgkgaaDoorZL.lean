/- The references on balls: OfBall, DSign, CheckBall, SameBall. -/
import Derived.Test.YtehodhanojgkgaaDoorZG
import Derived.Test.YtehodhanojgkgaaDoorZRDy7
import Derived.Test.YtehodhanojgkgaaDoorZRDy6
import Derived.Test.YtehodhanojgkgaaDoorZRDy3
import Derived.Test.YtehodhanojgkgaaDoorZRDy1
namespace Go.Proofs.YtehodhanojgkgaaDoor
open Go.RowKit Go.Slip

/-- A number of a reference, in memory: it reads so; its digits lie from block 'base' on. -/
structure InF (w : World) (base : Nat) (a : Rw) : Prop where
  rd : Rd w .i64 a.p (dig B16 a.m)
  cap : (dig B16 a.m).length ≤ a.c
  len : (dig B16 a.m).length ≤ 1000000
  lo : -1000000 ≤ a.e
  hi : a.e ≤ 1000000
  at_ : 0 < (dig B16 a.m).length → base ≤ blk a.p

theorem InF.past {w w' : World} {base : Nat} {a : Rw} (h : InF w base a) (hb : Below w.heap.size w w') : InF w' base a := ⟨h.rd.past hb, h.cap, h.len, h.lo, h.hi, h.at_⟩
theorem InF.drew {w : World} {base : Nat} {a : Rw} (h : InF w base a) : InF w.drew base a := ⟨h.rd.drew, h.cap, h.len, h.lo, h.hi, h.at_⟩
theorem InF.mono {w : World} {base base' : Nat} {a : Rw} (h : InF w base a) (hb : base' ≤ base) : InF w base' a := ⟨h.rd, h.cap, h.len, h.lo, h.hi, fun k => Nat.le_trans hb (h.at_ k)⟩
theorem InF.only {w w' : World} {base k : Nat} {a : Rw} (h : InF w base a) (hb : Only k w w') (hne : 0 < (dig B16 a.m).length → blk a.p ≠ k) : InF w' base a := ⟨h.rd.only hb hne, h.cap, h.len, h.lo, h.hi, h.at_⟩
theorem InF.lt {w : World} {base : Nat} {a : Rw} (h : InF w base a) : 0 < (dig B16 a.m).length → blk a.p < w.heap.size := fun k => h.rd.lt k

/-- Bounds of a number. -/
structure FitF (d : Dv) : Prop where
  len : (dig B16 d.m).length ≤ 1000000
  lo : -1000000 ≤ d.e
  hi : d.e ≤ 1000000

/-- What a reference leaves. -/
def GivesFW (w : World) (base : Nat) (d : Dv) (en : Ending) (w' : World) : Prop := ∃ r : Rw, r.v = d ∧ en = .returned (.agg #[.bool r.g, .slice r.p (dig B16 r.m).length r.c, .int .i64 r.e]) ∧ InF w' base r ∧ Below w.heap.size w w'

theorem GivesF.toW {w w' : World} {P : Nat → Prop} {base : Nat} {d : Dv} {en : Ending} (h : GivesF w P d en w') (hd : FitF d) (hP : ∀ k, P k → base ≤ k) (hb : base ≤ w.heap.size) : GivesFW w base d en w' := by
  obtain ⟨p, c, he, hr, hc, hf, hbl⟩ := h
  refine ⟨⟨d.neg, p, c, d.m, d.e⟩, rfl, he, ⟨hr, hc, hd.len, hd.lo, hd.hi, fun k => ?_⟩, hbl⟩
  rcases hf k with h1 | h1
  · exact hP _ h1
  · exact Nat.le_trans hb h1

theorem dyV_fitF {w : World} {a : Din} (h : InD w a) (he : errDy a = 0) : FitF (dyV a) := by
  obtain ⟨h1, h2, h3⟩ := dyV_bd h he
  have := B16_len32 (dyV a).m
  exact ⟨by omega, by omega, by omega⟩

theorem ofDyadF_any (a : Din) (w : World) (ha : InD w a) (he : errDy a = 0) :
    Calls Tryd.prog 36 #[.agg #[.bool a.g, .slice a.p a.xs.length a.c, .int .i64 a.e]] w (GivesFW w w.heap.size (dyV a)) :=
  (refOfDyad_any a w ha he).mono fun _ _ h => GivesF.toW h (dyV_fitF ha he) (fun _ h => h.elim) (Nat.le_refl _)

theorem dcmpF_any (x y : Rw) (b b' : Nat) (w : World) (hx : InF w b x) (hy : InF w b' y) :
    Calls Tryd.prog 26 #[.agg #[.bool x.g, .slice x.p (dig B16 x.m).length x.c, .int .i64 x.e], .agg #[.bool y.g, .slice y.p (dig B16 y.m).length y.c, .int .i64 y.e]] w fun en w' => en = .returned (.int .i64 (rCmp x.v y.v)) ∧ Below w.heap.size w w' :=
  refDCmp_any x.g y.g x.p y.p _ x.c _ y.c x.e y.e x.m y.m w hx.rd hy.rd rfl rfl hy.cap hx.len hy.len ⟨hx.lo, hx.hi⟩ ⟨hy.lo, hy.hi⟩

theorem rCmp_zero (a : Dv) : rCmp a ⟨false, 0, 0⟩ = dSign a := by
  rw [rCmp_zOf a ⟨false, 0, 0⟩ (e := min a.e 0) (by omega) (by simp only; omega)]
  have h0 : zOf ⟨false, 0, 0⟩ (min a.e 0) = 0 := by unfold zOf sg; simp
  rw [h0, Int.sub_zero]
  unfold zOf dSign sg
  have hp := Nat.pow_pos (n := (a.e - min a.e 0).toNat) (show 0 < 2 by omega)
  by_cases h0 : a.m = 0
  · rw [if_pos h0, h0, Nat.zero_mul]; cases a.neg <;> rfl
  · have hm : 0 < a.m * 2 ^ (a.e - min a.e 0).toNat := Nat.mul_pos (by omega) hp
    rw [if_neg h0]
    cases a.neg
    · simp only [Bool.false_eq_true, if_false]; exact Int.sign_eq_one_of_pos (by omega)
    · simp only [if_true]; exact Int.sign_eq_neg_one_of_neg (by omega)

set_option maxHeartbeats 1000000 in
theorem dsignF_any (x : Rw) (b : Nat) (w : World) (hx : InF w b x) :
    Calls Tryd.prog 28 #[.agg #[.bool x.g, .slice x.p (dig B16 x.m).length x.c, .int .i64 x.e]] w fun en w' => en = .returned (.int .i64 (dSign x.v)) ∧ Below w.heap.size w w' := by
  have HZ := fun W h => Lib.hid (show Calls Tryd.prog 26 #[.agg #[.bool x.g, .slice x.p (dig B16 x.m).length x.c, .int .i64 x.e], .agg #[.bool false, .slice none 0 0, .int .i64 0]] W fun en w' => en = .returned (.int .i64 (dSign x.v)) ∧ Below W.heap.size W w' by
    have k := dcmpF_any x ⟨false, none, 0, 0, 0⟩ b 0 W h ⟨by simp only [dig_zero]; exact Rd.nil _ _ _, by simp [dig_zero], by simp [dig_zero], by simp, by simp, by simp [dig_zero]⟩
    simp only [dig_zero, List.length_nil, rCmp_zero, show (Rw.v ⟨false, none, 0, 0, 0⟩) = ⟨false, 0, 0⟩ from rfl] at k
    exact k)
  go_enter Tryd.func28, Tryd.ntmps28
  go_wp2_with fail
  refine calls_lay1 (fun W1 hb1 hz1 A => ?_)
  replace hx := hx.past hb1
  have hs1 := hb1
  obtain ⟨A_0, A_1, A_2⟩ := A.e3
  go_wp2_with fail
  clear A_0 A_1 A_2
  ((with_reducible refine ((HZ _ hx).out).mono ?_))
  rintro e2 w2 ⟨rfl, hb2⟩
  replace A := A.past hb2
  replace hx := hx.past hb2
  have hs2 := hs1.trans (hb2.mono hs1.size)
  go_wp2
  go_ret
  exact ⟨rfl, hs2⟩

/-- A ball that a reference leaves. -/
def GivesFB (w : World) (base : Nat) (l h : Dv) (en : Ending) (w' : World) : Prop := ∃ r s : Rw, r.v = l ∧ s.v = h ∧ en = .returned (.agg #[.bool r.g, .slice r.p (dig B16 r.m).length r.c, .int .i64 r.e, .bool s.g, .slice s.p (dig B16 s.m).length s.c, .int .i64 s.e]) ∧ InF w' base r ∧ InF w' base s ∧ Below w.heap.size w w'

set_option maxHeartbeats 2000000 in
set_option maxRecDepth 100000 in
theorem refOfBall_any (a b : Din) (w : World) (ha : InD w a) (hb : InD w b) (hea : errDy a = 0) (heb : errDy b = 0) :
    Calls Tryd.prog 23 #[.agg #[.bool a.g, .slice a.p a.xs.length a.c, .int .i64 a.e, .bool b.g, .slice b.p b.xs.length b.c, .int .i64 b.e]] w (GivesFB w w.heap.size (dyV a) (dyV b)) := by
  have HA := fun W h1 => Lib.hid (ofDyadF_any a W h1 hea)
  have HB := fun W h1 => Lib.hid (ofDyadF_any b W h1 heb)
  generalize dyV a = va at *
  generalize dyV b = vb at *
  clear hea heb
  go_enter Tryd.func23, Tryd.ntmps23
  go_upto_region 1 with (fail)
  refine wp_lay2 (fun W1 hb1 hz1 A R => ?_)
  replace ha := ha.past hb1
  replace hb := hb.past hb1
  have hs1 := hb1
  have hRl := R.lt
  have hzd : W1.drew.heap.size = W1.heap.size := rfl
  have HZD := Lib.hid hzd
  clear hzd
  go_region_held3 (fun w' => w'.cell? ⟨w.heap.size, 0, none⟩ = some (.bool a.g) ∧ w'.cell? ⟨w.heap.size, 1, none⟩ = some (.slice a.p a.xs.length a.c) ∧ w'.cell? ⟨w.heap.size, 2, none⟩ = some (.int .i64 a.e) ∧ w'.cell? ⟨w.heap.size, 3, none⟩ = some (.bool b.g) ∧ w'.cell? ⟨w.heap.size, 4, none⟩ = some (.slice b.p b.xs.length b.c) ∧ w'.cell? ⟨w.heap.size, 5, none⟩ = some (.int .i64 b.e))
    (first
      | with_reducible exact A.e6
      | with_reducible exact A.drew.e6
      | with_reducible exact (A.drew.past hbx).e6
      | with_reducible exact ((A.drew.past hbx).past hby).e6
      | with_reducible exact (((A.drew.past hbx).past hby).only (only6 _ _ _ _ _ _ _ _) (by omega)).e6)
    (first
      | (go_at_call_of 36 (Value.agg #[.bool a.g, .slice a.p a.xs.length a.c, .int .i64 a.e]); ((with_reducible refine (HA _ ha.drew).out.mono ?_)); rintro ex wx ⟨rx, hrx, rfl, hfx, hbx⟩)
      | (go_at_call_of 36 (Value.agg #[.bool b.g, .slice b.p b.xs.length b.c, .int .i64 b.e]); ((with_reducible refine (HB _ (hb.drew.past hbx)).out.mono ?_)); rintro ey wy ⟨ry, hry, rfl, hfy, hby⟩; (have RR := (R.drew.past hbx).past hby); obtain ⟨R_0, R_1, R_2, R_3, R_4, R_5⟩ := RR.e6; (have R_f0 := RR.f 0); (have R_f1 := RR.f 1); (have R_f2 := RR.f 2); (have R_f3 := RR.f 3); (have R_f4 := RR.f 4); have R_f5 := RR.f 5))
  all_goals (have HRX := Lib.hid hrx; have HRY := Lib.hid hry; clear hrx hry)
  all_goals (go_wp2_with fail)
  all_goals (refine bodyPost_ret (v := .agg #[.bool rx.g, .slice rx.p (dig B16 rx.m).length rx.c, .int .i64 rx.e, .bool ry.g, .slice ry.p (dig B16 ry.m).length ry.c, .int .i64 ry.e]) (by simp [results, Tryd.results23, go_sem, R_0, R_1, R_2, R_3, R_4, R_5]) rfl ?_)
  have hzd := HZD.out
  have hz1 := hs1.size
  have hzx := hbx.size
  have hO := only6 wy (w.heap.size + 1) (.bool rx.g) (.slice rx.p (dig B16 rx.m).length rx.c) (.int .i64 rx.e) (.bool ry.g) (.slice ry.p (dig B16 ry.m).length ry.c) (.int .i64 ry.e)
  exact ⟨rx, ry, HRX.out, HRY.out, rfl, ((hfx.past hby).only hO (fun h => by have := hfx.at_ h; omega)).mono (by omega), (hfy.only hO (fun h => by have := hfy.at_ h; omega)).mono (by omega),
    ((hs1.drew.trans (hbx.mono hs1.size)).trans (hby.mono (Nat.le_trans hs1.size hbx.size))).trans (hO.below (by omega))⟩

end Go.Proofs.YtehodhanojgkgaaDoor
