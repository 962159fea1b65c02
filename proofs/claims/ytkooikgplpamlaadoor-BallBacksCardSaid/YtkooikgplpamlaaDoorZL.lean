/- The references on balls: OfBall, DSign, CheckBall, SameBall.
   The references on balls: CheckBall, SameBall, ToBall; the laws' twoBalls.
   The references on balls: ToBall; the laws' ballIs.
   The laws' ballIs, where something is wrong; the reference Ends.
   The references on balls: sums, products, opposites of numbers in memory. -/
import Derived.Test.YtkooikgplpamlaaDoorZG
import Derived.Test.YtkooikgplpamlaaDoorZRDy7
import Derived.Test.YtkooikgplpamlaaDoorZRDy6
import Derived.Test.YtkooikgplpamlaaDoorZRDy3
import Derived.Test.YtkooikgplpamlaaDoorZRDy1
import Derived.Test.YtkooikgplpamlaaDoorZI
import Derived.Test.YtkooikgplpamlaaDoorZBall12
import Derived.Test.YtkooikgplpamlaaDoorZA
import Derived.Test.YtkooikgplpamlaaDoorZJ
import Derived.Deep.LoopGhost
import Derived.Test.YtkooikgplpamlaaDoorZB
import Derived.Test.YtkooikgplpamlaaDoorZRDy4
import Derived.Test.YtkooikgplpamlaaDoorZRDy5
namespace Go.Proofs.YtkooikgplpamlaaDoor
open Go.RowKit Go.Slip

/-- A number of a reference, in memory: it reads so; its digits lie from block 'base' on. -/
structure InF (w : World) (base : Nat) (a : Rw) : Prop where
  rd : Rd w .i64 a.p (dig B16 a.m)
  cap : (dig B16 a.m).length ≤ a.c
  len : (dig B16 a.m).length ≤ 1000000
  lo : -1000000 ≤ a.e
  hi : a.e ≤ 1000000
  at_ : 0 < (dig B16 a.m).length → base ≤ blk a.p

theorem InF.past {w w' : World} {base : Nat} {a : Rw} (h : InF w base a) (hb : Below w.heap.size w w') : InF w' base a := ⟨h.rd.past hb, h.cap, h.len, h.lo, h.hi, h.at_⟩
theorem InF.drew {w : World} {base : Nat} {a : Rw} (h : InF w base a) : InF w.drew base a := ⟨h.rd.drew, h.cap, h.len, h.lo, h.hi, h.at_⟩
theorem InF.mono {w : World} {base base' : Nat} {a : Rw} (h : InF w base a) (hb : base' ≤ base) : InF w base' a := ⟨h.rd, h.cap, h.len, h.lo, h.hi, fun k => Nat.le_trans hb (h.at_ k)⟩
theorem InF.only {w w' : World} {base k : Nat} {a : Rw} (h : InF w base a) (hb : Only k w w') (hne : 0 < (dig B16 a.m).length → blk a.p ≠ k) : InF w' base a := ⟨h.rd.only hb hne, h.cap, h.len, h.lo, h.hi, h.at_⟩
theorem InF.lt {w : World} {base : Nat} {a : Rw} (h : InF w base a) : 0 < (dig B16 a.m).length → blk a.p < w.heap.size := fun k => h.rd.lt k

/-- Bounds of a number. -/
structure FitF (d : Dv) : Prop where
  len : (dig B16 d.m).length ≤ 1000000
  lo : -1000000 ≤ d.e
  hi : d.e ≤ 1000000

/-- What a reference leaves. -/
def GivesFW (w : World) (base : Nat) (d : Dv) (en : Ending) (w' : World) : Prop := ∃ r : Rw, r.v = d ∧ en = .returned (.agg #[.bool r.g, .slice r.p (dig B16 r.m).length r.c, .int .i64 r.e]) ∧ InF w' base r ∧ Below w.heap.size w w'

theorem GivesF.toW {w w' : World} {P : Nat → Prop} {base : Nat} {d : Dv} {en : Ending} (h : GivesF w P d en w') (hd : FitF d) (hP : ∀ k, P k → base ≤ k) (hb : base ≤ w.heap.size) : GivesFW w base d en w' := by
  obtain ⟨p, c, he, hr, hc, hf, hbl⟩ := h
  refine ⟨⟨d.neg, p, c, d.m, d.e⟩, rfl, he, ⟨hr, hc, hd.len, hd.lo, hd.hi, fun k => ?_⟩, hbl⟩
  rcases hf k with h1 | h1
  · exact hP _ h1
  · exact Nat.le_trans hb h1

theorem dyV_fitF {w : World} {a : Din} (h : InD w a) (he : errDy a = 0) : FitF (dyV a) := by
  obtain ⟨h1, h2, h3⟩ := dyV_bd h he
  have := B16_len32 (dyV a).m
  exact ⟨by omega, by omega, by omega⟩

theorem ofDyadF_any (a : Din) (w : World) (ha : InD w a) (he : errDy a = 0) :
    Calls Tryd.prog 27 #[.agg #[.bool a.g, .slice a.p a.xs.length a.c, .int .i64 a.e]] w (GivesFW w w.heap.size (dyV a)) :=
  (refOfDyad_any a w ha he).mono fun _ _ h => GivesF.toW h (dyV_fitF ha he) (fun _ h => h.elim) (Nat.le_refl _)

theorem dcmpF_any (x y : Rw) (b b' : Nat) (w : World) (hx : InF w b x) (hy : InF w b' y) :
    Calls Tryd.prog 28 #[.agg #[.bool x.g, .slice x.p (dig B16 x.m).length x.c, .int .i64 x.e], .agg #[.bool y.g, .slice y.p (dig B16 y.m).length y.c, .int .i64 y.e]] w fun en w' => en = .returned (.int .i64 (rCmp x.v y.v)) ∧ Below w.heap.size w w' :=
  refDCmp_any x.g y.g x.p y.p _ x.c _ y.c x.e y.e x.m y.m w hx.rd hy.rd rfl rfl hy.cap hx.len hy.len ⟨hx.lo, hx.hi⟩ ⟨hy.lo, hy.hi⟩

theorem rCmp_zero (a : Dv) : rCmp a ⟨false, 0, 0⟩ = dSign a := by
  rw [rCmp_zOf a ⟨false, 0, 0⟩ (e := min a.e 0) (by omega) (by simp only; omega)]
  have h0 : zOf ⟨false, 0, 0⟩ (min a.e 0) = 0 := by unfold zOf sg; simp
  rw [h0, Int.sub_zero]
  unfold zOf dSign sg
  have hp := Nat.pow_pos (n := (a.e - min a.e 0).toNat) (show 0 < 2 by omega)
  by_cases h0 : a.m = 0
  · rw [if_pos h0, h0, Nat.zero_mul]; cases a.neg <;> rfl
  · have hm : 0 < a.m * 2 ^ (a.e - min a.e 0).toNat := Nat.mul_pos (by omega) hp
    rw [if_neg h0]
    cases a.neg
    · simp only [Bool.false_eq_true, if_false]; exact Int.sign_eq_one_of_pos (by omega)
    · simp only [if_true]; exact Int.sign_eq_neg_one_of_neg (by omega)

set_option maxHeartbeats 1000000 in
theorem dsignF_any (x : Rw) (b : Nat) (w : World) (hx : InF w b x) :
    Calls Tryd.prog 20 #[.agg #[.bool x.g, .slice x.p (dig B16 x.m).length x.c, .int .i64 x.e]] w fun en w' => en = .returned (.int .i64 (dSign x.v)) ∧ Below w.heap.size w w' := by
  have HZ := fun W h => Lib.hid (show Calls Tryd.prog 28 #[.agg #[.bool x.g, .slice x.p (dig B16 x.m).length x.c, .int .i64 x.e], .agg #[.bool false, .slice none 0 0, .int .i64 0]] W fun en w' => en = .returned (.int .i64 (dSign x.v)) ∧ Below W.heap.size W w' by
    have k := dcmpF_any x ⟨false, none, 0, 0, 0⟩ b 0 W h ⟨by simp only [dig_zero]; exact Rd.nil _ _ _, by simp [dig_zero], by simp [dig_zero], by simp, by simp, by simp [dig_zero]⟩
    simp only [dig_zero, List.length_nil, rCmp_zero, show (Rw.v ⟨false, none, 0, 0, 0⟩) = ⟨false, 0, 0⟩ from rfl] at k
    exact k)
  go_enter Tryd.func20, Tryd.ntmps20
  go_wp2_with fail
  refine calls_lay1 (fun W1 hb1 hz1 A => ?_)
  replace hx := hx.past hb1
  have hs1 := hb1
  obtain ⟨A_0, A_1, A_2⟩ := A.e3
  go_wp2_with fail
  clear A_0 A_1 A_2
  ((with_reducible refine ((HZ _ hx).out).mono ?_))
  rintro e2 w2 ⟨rfl, hb2⟩
  replace A := A.past hb2
  replace hx := hx.past hb2
  have hs2 := hs1.trans (hb2.mono hs1.size)
  go_wp2
  go_ret
  exact ⟨rfl, hs2⟩

/-- A ball that a reference leaves. -/
def GivesFB (w : World) (base : Nat) (l h : Dv) (en : Ending) (w' : World) : Prop := ∃ r s : Rw, r.v = l ∧ s.v = h ∧ en = .returned (.agg #[.bool r.g, .slice r.p (dig B16 r.m).length r.c, .int .i64 r.e, .bool s.g, .slice s.p (dig B16 s.m).length s.c, .int .i64 s.e]) ∧ InF w' base r ∧ InF w' base s ∧ Below w.heap.size w w'

set_option maxHeartbeats 2000000 in
set_option maxRecDepth 100000 in
theorem refOfBall_any (a b : Din) (w : World) (ha : InD w a) (hb : InD w b) (hea : errDy a = 0) (heb : errDy b = 0) :
    Calls Tryd.prog 19 #[.agg #[.bool a.g, .slice a.p a.xs.length a.c, .int .i64 a.e, .bool b.g, .slice b.p b.xs.length b.c, .int .i64 b.e]] w (GivesFB w w.heap.size (dyV a) (dyV b)) := by
  have HA := fun W h1 => Lib.hid (ofDyadF_any a W h1 hea)
  have HB := fun W h1 => Lib.hid (ofDyadF_any b W h1 heb)
  generalize dyV a = va at *
  generalize dyV b = vb at *
  clear hea heb
  go_enter Tryd.func19, Tryd.ntmps19
  go_upto_region 1 with (fail)
  refine wp_lay2 (fun W1 hb1 hz1 A R => ?_)
  replace ha := ha.past hb1
  replace hb := hb.past hb1
  have hs1 := hb1
  have hRl := R.lt
  have hzd : W1.drew.heap.size = W1.heap.size := rfl
  have HZD := Lib.hid hzd
  clear hzd
  go_region_held3 (fun w' => w'.cell? ⟨w.heap.size, 0, none⟩ = some (.bool a.g) ∧ w'.cell? ⟨w.heap.size, 1, none⟩ = some (.slice a.p a.xs.length a.c) ∧ w'.cell? ⟨w.heap.size, 2, none⟩ = some (.int .i64 a.e) ∧ w'.cell? ⟨w.heap.size, 3, none⟩ = some (.bool b.g) ∧ w'.cell? ⟨w.heap.size, 4, none⟩ = some (.slice b.p b.xs.length b.c) ∧ w'.cell? ⟨w.heap.size, 5, none⟩ = some (.int .i64 b.e))
    (first
      | with_reducible exact A.e6
      | with_reducible exact A.drew.e6
      | with_reducible exact (A.drew.past hbx).e6
      | with_reducible exact ((A.drew.past hbx).past hby).e6
      | with_reducible exact (((A.drew.past hbx).past hby).only (only6 _ _ _ _ _ _ _ _) (by omega)).e6)
    (first
      | (go_at_call_of 27 (Value.agg #[.bool a.g, .slice a.p a.xs.length a.c, .int .i64 a.e]); ((with_reducible refine (HA _ ha.drew).out.mono ?_)); rintro ex wx ⟨rx, hrx, rfl, hfx, hbx⟩)
      | (go_at_call_of 27 (Value.agg #[.bool b.g, .slice b.p b.xs.length b.c, .int .i64 b.e]); ((with_reducible refine (HB _ (hb.drew.past hbx)).out.mono ?_)); rintro ey wy ⟨ry, hry, rfl, hfy, hby⟩; (have RR := (R.drew.past hbx).past hby); obtain ⟨R_0, R_1, R_2, R_3, R_4, R_5⟩ := RR.e6; (have R_f0 := RR.f 0); (have R_f1 := RR.f 1); (have R_f2 := RR.f 2); (have R_f3 := RR.f 3); (have R_f4 := RR.f 4); have R_f5 := RR.f 5))
  all_goals (have HRX := Lib.hid hrx; have HRY := Lib.hid hry; clear hrx hry)
  all_goals (go_wp2_with fail)
  all_goals (refine bodyPost_ret (v := .agg #[.bool rx.g, .slice rx.p (dig B16 rx.m).length rx.c, .int .i64 rx.e, .bool ry.g, .slice ry.p (dig B16 ry.m).length ry.c, .int .i64 ry.e]) (by simp [results, Tryd.results19, go_sem, R_0, R_1, R_2, R_3, R_4, R_5]) rfl ?_)
  have hzd := HZD.out
  have hz1 := hs1.size
  have hzx := hbx.size
  have hO := only6 wy (w.heap.size + 1) (.bool rx.g) (.slice rx.p (dig B16 rx.m).length rx.c) (.int .i64 rx.e) (.bool ry.g) (.slice ry.p (dig B16 ry.m).length ry.c) (.int .i64 ry.e)
  exact ⟨rx, ry, HRX.out, HRY.out, rfl, ((hfx.past hby).only hO (fun h => by have := hfx.at_ h; omega)).mono (by omega), (hfy.only hO (fun h => by have := hfy.at_ h; omega)).mono (by omega),
    ((hs1.drew.trans (hbx.mono hs1.size)).trans (hby.mono (Nat.le_trans hs1.size hbx.size))).trans (hO.below (by omega))⟩

end Go.Proofs.YtkooikgplpamlaaDoor

namespace Go.Proofs.YtkooikgplpamlaaDoor
open Go.RowKit Go.Slip

set_option maxHeartbeats 4000000 in
set_option maxRecDepth 100000 in
theorem refCheckBall_any (a b : Din) (w : World) (ha : InD w a) (hb : InD w b) :
    Calls Tryd.prog 16 #[.agg #[.bool a.g, .slice a.p a.xs.length a.c, .int .i64 a.e, .bool b.g, .slice b.p b.xs.length b.c, .int .i64 b.e]] w fun en w' => en = .returned (.int .i64 (errBall a b)) ∧ Below w.heap.size w w' := by
  have HT := fun W h1 h2 => Lib.hid (show Calls Tryd.prog 51 #[.agg #[.bool a.g, .slice a.p a.xs.length a.c, .int .i64 a.e], .agg #[.bool b.g, .slice b.p b.xs.length b.c, .int .i64 b.e]] W fun en w' => en = .returned (.int .i64 (errDy2 a b)) ∧ Below W.heap.size W w' from refTwoDyads_any a b W (InD.rd h1) ha.len (InD.rd h2) hb.len)
  have HE := Lib.hid (show errBall a b = if errDy2 a b = 0 then (if 0 < pCmp (dyV a) (dyV b) then 4 else 0) else errDy2 a b from rfl)
  have HPR := Lib.hid (rCmp_eq (dyV_bare a) (dyV_bare b))
  have HOK := Lib.hid (fun h : errDy2 a b = 0 => errDy2_ok h)
  generalize errDy2 a b = e2 at *
  by_cases h0 : e2 = 0
  · obtain ⟨q1, q2⟩ := HOK.out h0
    have t1 : (e2 == 0) = true := by simpa using h0
    have HOA := fun W h => Lib.hid (ofDyadF_any a W h q1)
    have HOB := fun W h => Lib.hid (ofDyadF_any b W h q2)
    have HEE := Lib.hid (HE.out.trans (if_pos h0))
    clear HE HOK q1 q2 h0
    rw [HPR.out] at HEE
    obtain ⟨C, hC⟩ : ∃ C, rCmp (dyV a) (dyV b) = C := ⟨_, rfl⟩
    rw [hC] at HEE
    have HC := Lib.hid hC
    clear hC HPR
    generalize dyV a = va at *
    generalize dyV b = vb at *
    go_enter Tryd.func16, Tryd.ntmps16
    go_wp2_with fail
    refine calls_lay1 (fun W1 hb1 hz1 A => ?_)
    replace ha := ha.past hb1
    replace hb := hb.past hb1
    have hs1 := hb1
    ((with_reducible refine ((HT _ ha hb).out).mono ?_))
    rintro e2 w2 ⟨rfl, hb2⟩
    replace A := A.past hb2
    replace ha := ha.past hb2
    replace hb := hb.past hb2
    have hs2 := hs1.trans (hb2.mono hs1.size)
    go_upto_region 2 with (fail)
    go_region_held3 (fun w' => w'.cell? ⟨w.heap.size, 0, none⟩ = some (.bool a.g) ∧ w'.cell? ⟨w.heap.size, 1, none⟩ = some (.slice a.p a.xs.length a.c) ∧ w'.cell? ⟨w.heap.size, 2, none⟩ = some (.int .i64 a.e) ∧ w'.cell? ⟨w.heap.size, 3, none⟩ = some (.bool b.g) ∧ w'.cell? ⟨w.heap.size, 4, none⟩ = some (.slice b.p b.xs.length b.c) ∧ w'.cell? ⟨w.heap.size, 5, none⟩ = some (.int .i64 b.e))
      (first
        | with_reducible exact A.e6
        | with_reducible exact A.drew.e6
        | with_reducible exact (A.drew.past hbx).e6
        | with_reducible exact ((A.drew.past hbx).past hby).e6
        | with_reducible exact (((A.drew.past hbx).past hby).past hbz).e6)
      (first
        | (go_at_call_of 27 (Value.agg #[.bool a.g, .slice a.p a.xs.length a.c, .int .i64 a.e]); ((with_reducible refine (HOA _ ha.drew).out.mono ?_)); rintro ex wx ⟨rx, hrx, rfl, hfx, hbx⟩; have HRX := Lib.hid hrx; clear hrx)
        | (go_at_call_of 27 (Value.agg #[.bool b.g, .slice b.p b.xs.length b.c, .int .i64 b.e]); ((with_reducible refine (HOB _ (hb.drew.past hbx)).out.mono ?_)); rintro ey wy ⟨ry, hry, rfl, hfy, hby⟩; have HRY := Lib.hid hry; clear hry)
        | (go_at_call 28; ((with_reducible refine (dcmpF_any rx ry _ _ _ (hfx.past hby) hfy).mono ?_)); rw [HRX.out, HRY.out, HC.out]; rintro ez wz ⟨rfl, hbz⟩))
    have hsz := ((hs2.drew.trans (hbx.mono hs2.size)).trans (hby.mono (Nat.le_trans hs2.size hbx.size))).trans (hbz.mono (Nat.le_trans (Nat.le_trans hs2.size hbx.size) hby.size))
    by_cases hC : 0 < C
    · have HEF := Lib.hid (HEE.out.trans (if_pos hC))
      go_wp2
      go_ret
      exact ⟨ret_int HEF.out.symm, hsz⟩
    · have HEF := Lib.hid (HEE.out.trans (if_neg hC))
      have t3 : e2 = 0 := by simpa using t1
      go_wp2
      go_ret
      exact ⟨ret_int HEF.out.symm, hsz⟩
  · have t1 : (e2 == 0) = false := beq_eq_false_iff_ne.2 h0
    have HEE := Lib.hid (HE.out.trans (if_neg h0))
    clear HE HOK h0 HPR
    go_enter Tryd.func16, Tryd.ntmps16
    go_wp2_with fail
    refine calls_lay1 (fun W1 hb1 hz1 A => ?_)
    replace ha := ha.past hb1
    replace hb := hb.past hb1
    have hs1 := hb1
    ((with_reducible refine ((HT _ ha hb).out).mono ?_))
    rintro e2 w2 ⟨rfl, hb2⟩
    replace A := A.past hb2
    replace ha := ha.past hb2
    replace hb := hb.past hb2
    have hs2 := hs1.trans (hb2.mono hs1.size)
    go_upto_region 2 with (fail)
    refine wp_region_held_drew (S := fun _ => True) (by kernel_rfl) True.intro (fun hHeld => ?_)
    refine wpAnyH_take (i := 0) (v := .int .i64 e2) rfl (by kernel_rfl) (by kernel_rfl) (by kernel_rfl) (fun _ _ _ h => h) (.inl ⟨by rfl, fun w hSw => ?_⟩) True.intro ?_
    · first | (go_simp; done) | (go_simp; with_reducible rfl)
    try simp only [List.getElem_toArray, List.getElem_cons_zero, Act.put, List.setIfInBounds_toArray, List.set_cons_zero, List.set_cons_succ]
    refine wpAnyH_take (i := 1) (v := .bool false) rfl (by kernel_rfl) (by kernel_rfl) (by kernel_rfl) (fun _ _ _ h => h) (.inl ⟨by rfl, fun w hSw => ?_⟩) True.intro ?_
    · first | (go_simp; done) | (go_simp; with_reducible rfl)
    try simp only [List.getElem_toArray, List.getElem_cons_succ, List.getElem_cons_zero, Act.put, List.setIfInBounds_toArray, List.set_cons_zero, List.set_cons_succ]
    refine wpAnyH_take (i := 2) (v := .bool false) rfl (by kernel_rfl) (by kernel_rfl) (by kernel_rfl) (fun _ _ _ h => h) (.inl ⟨by rfl, fun w hSw => ?_⟩) True.intro ?_
    · first | (go_simp; done) | (go_simp; with_reducible rfl)
    try simp only [List.getElem_toArray, List.getElem_cons_succ, List.getElem_cons_zero, Act.put, List.setIfInBounds_toArray, List.set_cons_zero, List.set_cons_succ]
    refine wpAnyH_take (i := 3) (v := undef) rfl (by kernel_rfl) (by kernel_rfl) (by kernel_rfl) (fun _ _ _ h => h) (.inr ⟨by rfl, rfl⟩) True.intro ?_
    try simp only [List.getElem_toArray, List.getElem_cons_succ, List.getElem_cons_zero, Act.put, List.setIfInBounds_toArray, List.set_cons_zero, List.set_cons_succ]
    refine wpAnyH_take (i := 4) (v := undef) rfl (by kernel_rfl) (by kernel_rfl) (by kernel_rfl) (fun _ _ _ h => h) (.inr ⟨by rfl, rfl⟩) True.intro ?_
    try simp only [List.getElem_toArray, List.getElem_cons_succ, List.getElem_cons_zero, Act.put, List.setIfInBounds_toArray, List.set_cons_zero, List.set_cons_succ]
    refine wpAnyH_take (i := 5) (v := undef) rfl (by kernel_rfl) (by kernel_rfl) (by kernel_rfl) (fun _ _ _ h => h) (.inr ⟨by rfl, rfl⟩) True.intro ?_
    try simp only [List.getElem_toArray, List.getElem_cons_succ, List.getElem_cons_zero, Act.put, List.setIfInBounds_toArray, List.set_cons_zero, List.set_cons_succ]
    refine wpAnyH_take (i := 6) (v := undef) rfl (by kernel_rfl) (by kernel_rfl) (by kernel_rfl) (fun _ _ _ h => h) (.inr ⟨by rfl, rfl⟩) True.intro ?_
    try simp only [List.getElem_toArray, List.getElem_cons_succ, List.getElem_cons_zero, Act.put, List.setIfInBounds_toArray, List.set_cons_zero, List.set_cons_succ]
    refine wpAnyH_take (i := 7) (v := undef) rfl (by kernel_rfl) (by kernel_rfl) (by kernel_rfl) (fun _ _ _ h => h) (.inr ⟨by rfl, rfl⟩) True.intro ?_
    try simp only [List.getElem_toArray, List.getElem_cons_succ, List.getElem_cons_zero, Act.put, List.setIfInBounds_toArray, List.set_cons_zero, List.set_cons_succ]
    refine wpAnyH_take (i := 8) (v := undef) rfl (by kernel_rfl) (by kernel_rfl) (by kernel_rfl) (fun _ _ _ h => h) (.inr ⟨by rfl, rfl⟩) True.intro ?_
    try simp only [List.getElem_toArray, List.getElem_cons_succ, List.getElem_cons_zero, Act.put, List.setIfInBounds_toArray, List.set_cons_zero, List.set_cons_succ]
    refine wpAnyH_take (i := 9) (v := undef) rfl (by kernel_rfl) (by kernel_rfl) (by kernel_rfl) (fun _ _ _ h => h) (.inr ⟨by rfl, rfl⟩) True.intro ?_
    try simp only [List.getElem_toArray, List.getElem_cons_succ, List.getElem_cons_zero, Act.put, List.setIfInBounds_toArray, List.set_cons_zero, List.set_cons_succ]
    refine wpAnyH_take (i := 10) (v := undef) rfl (by kernel_rfl) (by kernel_rfl) (by kernel_rfl) (fun _ _ _ h => h) (.inr ⟨by rfl, rfl⟩) True.intro ?_
    try simp only [List.getElem_toArray, List.getElem_cons_succ, List.getElem_cons_zero, Act.put, List.setIfInBounds_toArray, List.set_cons_zero, List.set_cons_succ]
    refine wpAnyH_take (i := 11) (v := .bool false) rfl (by kernel_rfl) (by kernel_rfl) (by kernel_rfl) (fun _ _ _ h => h) (.inl ⟨by rfl, fun w hSw => ?_⟩) True.intro ?_
    · first | (go_simp; done) | (go_simp; with_reducible rfl)
    try simp only [List.getElem_toArray, List.getElem_cons_succ, List.getElem_cons_zero, Act.put, List.setIfInBounds_toArray, List.set_cons_zero, List.set_cons_succ]
    refine wpAnyH_done (by kernel_rfl) ?_ _
    go_wp2_with fail
    go_ret
    exact ⟨ret_int HEE.out.symm, hs2.drew⟩

/-- Two balls, as they lie in memory, are the same. -/
theorem refSameBall_dec (l h l' h' : Dv) (p q p' q' : Option Addr) (c d c' d' : Nat) (w : World) (r1 : Rd w .u32 p (dig B32 l.m)) (r2 : Rd w .u32 q (dig B32 h.m)) (r3 : Rd w .u32 p' (dig B32 l'.m)) (r4 : Rd w .u32 q' (dig B32 h'.m))
    (l1 : (dig B32 l.m).length ≤ 1000000000) (l2 : (dig B32 h.m).length ≤ 1000000000) (l3 : (dig B32 l'.m).length ≤ 1000000000) (l4 : (dig B32 h'.m).length ≤ 1000000000) :
    Calls Tryd.prog 65 #[.agg #[.bool l.neg, .slice p (dig B32 l.m).length c, .int .i64 l.e, .bool h.neg, .slice q (dig B32 h.m).length d, .int .i64 h.e], .agg #[.bool l'.neg, .slice p' (dig B32 l'.m).length c', .int .i64 l'.e, .bool h'.neg, .slice q' (dig B32 h'.m).length d', .int .i64 h'.e]] w
      fun en w' => en = .returned (.bool (decide (l = l' ∧ h = h'))) ∧ Below w.heap.size w w' := by
  have H1 := fun W k1 k2 => Lib.hid (show Calls Tryd.prog 47 #[.agg #[.bool l.neg, .slice p (dig B32 l.m).length c, .int .i64 l.e], .agg #[.bool l'.neg, .slice p' (dig B32 l'.m).length c', .int .i64 l'.e]] W fun en w' => en = .returned (.bool (decide (l = l'))) ∧ Below W.heap.size W w' from
    refSameDyad_dec l.neg l'.neg p p' _ c _ c' l.e l'.e l.m l'.m W k1 k2 rfl rfl l1 l3)
  have H2 := fun W k1 k2 => Lib.hid (show Calls Tryd.prog 47 #[.agg #[.bool h.neg, .slice q (dig B32 h.m).length d, .int .i64 h.e], .agg #[.bool h'.neg, .slice q' (dig B32 h'.m).length d', .int .i64 h'.e]] W fun en w' => en = .returned (.bool (decide (h = h'))) ∧ Below W.heap.size W w' from
    refSameDyad_dec h.neg h'.neg q q' _ d _ d' h.e h'.e h.m h'.m W k1 k2 rfl rfl l2 l4)
  by_cases g1 : l = l'
  · have HD := Lib.hid (show decide (l = l' ∧ h = h') = decide (h = h') by simp [g1])
    rw [decide_eq_true g1] at H1
    generalize decide (h = h') = B2 at *
    rw [HD.out]
    clear g1
    go_enter Tryd.func65, Tryd.ntmps65
    go_wp2_with fail
    refine calls_lay2 (fun W1 hb1 hz1 A B => ?_)
    replace r1 := r1.past hb1
    replace r2 := r2.past hb1
    replace r3 := r3.past hb1
    replace r4 := r4.past hb1
    have hs1 := hb1
    ((with_reducible refine ((H1 _ r1 r3).out).mono ?_))
    rintro e2 w2 ⟨rfl, hb2⟩
    replace A := A.past hb2
    replace B := B.past hb2
    replace r1 := r1.past hb2
    replace r2 := r2.past hb2
    replace r3 := r3.past hb2
    replace r4 := r4.past hb2
    have hs2 := hs1.trans (hb2.mono hs1.size)
    obtain ⟨A_0, A_1, A_2, A_3, A_4, A_5⟩ := A.e6
    obtain ⟨B_0, B_1, B_2, B_3, B_4, B_5⟩ := B.e6
    go_wp2_with fail
    clear A_0 A_1 A_2 A_3 A_4 A_5 B_0 B_1 B_2 B_3 B_4 B_5
    ((with_reducible refine ((H2 _ r2 r4).out).mono ?_))
    rintro e3 w3 ⟨rfl, hb3⟩
    replace A := A.past hb3
    replace B := B.past hb3
    replace r1 := r1.past hb3
    replace r2 := r2.past hb3
    replace r3 := r3.past hb3
    replace r4 := r4.past hb3
    have hs3 := hs2.trans (hb3.mono hs2.size)
    go_wp2
    go_ret
    exact ⟨rfl, hs3⟩
  · have HD := Lib.hid (show decide (l = l' ∧ h = h') = false by simp [g1])
    rw [decide_eq_false g1] at H1
    rw [HD.out]
    clear g1
    go_enter Tryd.func65, Tryd.ntmps65
    go_wp2_with fail
    refine calls_lay2 (fun W1 hb1 hz1 A B => ?_)
    replace r1 := r1.past hb1
    replace r2 := r2.past hb1
    replace r3 := r3.past hb1
    replace r4 := r4.past hb1
    have hs1 := hb1
    ((with_reducible refine ((H1 _ r1 r3).out).mono ?_))
    rintro e2 w2 ⟨rfl, hb2⟩
    replace A := A.past hb2
    replace B := B.past hb2
    replace r1 := r1.past hb2
    replace r2 := r2.past hb2
    replace r3 := r3.past hb2
    replace r4 := r4.past hb2
    have hs2 := hs1.trans (hb2.mono hs1.size)
    go_wp2
    go_ret
    exact ⟨rfl, hs2⟩

/-- The laws' twoBalls. -/
theorem errC_two (n : Int) (a b a' b' : Din) : errC n [(a, b), (a', b')] = if (if errBall a b = 0 then errBall a' b' else errBall a b) = 0 then (if n < 1 ∨ 4096 < n then 3 else 0) else (if errBall a b = 0 then errBall a' b' else errBall a b) := by
  unfold errC
  rw [firstErrB_two]


set_option maxHeartbeats 4000000 in
set_option maxRecDepth 100000 in
theorem twoBalls_any (n : Int) (a b a' b' : Din) (w : World) (ha : InD w a) (hb : InD w b) (ha' : InD w a') (hb' : InD w b') :
    Calls Tryd.prog 18 #[.agg #[.bool a.g, .slice a.p a.xs.length a.c, .int .i64 a.e, .bool b.g, .slice b.p b.xs.length b.c, .int .i64 b.e], .agg #[.bool a'.g, .slice a'.p a'.xs.length a'.c, .int .i64 a'.e, .bool b'.g, .slice b'.p b'.xs.length b'.c, .int .i64 b'.e], .int .i64 n] w fun en w' => en = .returned (.int .i64 (errC n [(a, b), (a', b')])) ∧ Below w.heap.size w w' := by
  have HE := Lib.hid (errC_two n a b a' b')
  have H1 := fun W k1 k2 => Lib.hid (refCheckBall_any a b W k1 k2)
  have H2 := fun W k1 k2 => Lib.hid (refCheckBall_any a' b' W k1 k2)
  obtain ⟨e1, he1⟩ : ∃ e1, errBall a b = e1 := ⟨_, rfl⟩
  obtain ⟨e2, he2⟩ : ∃ e2, errBall a' b' = e2 := ⟨_, rfl⟩
  rw [he1] at H1 HE
  rw [he2] at H2 HE
  clear he1 he2
  by_cases h0 : e1 = 0
  · have HI := Lib.hid (show (if e1 = 0 then e2 else e1) = e2 from if_pos h0)
    have t1 : (e1 == 0) = true := by simpa using h0
    clear h0
    go_enter Tryd.func18, Tryd.ntmps18
    go_wp2_with fail
    refine calls_lay2 (fun W1 hb1 hz1 A B => ?_)
    replace ha := ha.past hb1
    replace hb := hb.past hb1
    replace ha' := ha'.past hb1
    replace hb' := hb'.past hb1
    have hs1 := hb1
    ((with_reducible refine ((H1 _ ha hb).out).mono ?_))
    rintro e2 w2 ⟨rfl, hb2⟩
    replace A := A.past hb2
    replace B := B.past hb2
    replace ha := ha.past hb2
    replace hb := hb.past hb2
    replace ha' := ha'.past hb2
    replace hb' := hb'.past hb2
    have hs2 := hs1.trans (hb2.mono hs1.size)
    obtain ⟨B_0, B_1, B_2, B_3, B_4, B_5⟩ := B.e6
    go_wp2_with fail
    clear B_0 B_1 B_2 B_3 B_4 B_5
    ((with_reducible refine ((H2 _ ha' hb').out).mono ?_))
    rintro e3 w3 ⟨rfl, hb3⟩
    replace A := A.past hb3
    replace B := B.past hb3
    replace ha := ha.past hb3
    replace hb := hb.past hb3
    replace ha' := ha'.past hb3
    replace hb' := hb'.past hb3
    have hs3 := hs2.trans (hb3.mono hs2.size)
    have hsT := hs3
    by_cases g0 : e2 = 0
    · have t3 : (e2 == 0) = true := by simpa using g0
      by_cases g1 : n < 1
      · have HF := Lib.hid (HE.out.trans ((if_pos (by rw [HI.out]; exact g0)).trans (if_pos (.inl g1))))
        clear g0
        go_wp2
        go_ret
        exact ⟨ret_int HF.out.symm, hsT⟩
      · by_cases g2 : 4096 < n
        · have HF := Lib.hid (HE.out.trans ((if_pos (by rw [HI.out]; exact g0)).trans (if_pos (.inr g2))))
          clear g0
          go_wp2
          go_ret
          exact ⟨ret_int HF.out.symm, hsT⟩
        · have HF := Lib.hid (HE.out.trans ((if_pos (by rw [HI.out]; exact g0)).trans (if_neg (by omega))))
          have g3 : e2 = 0 := g0
          clear g0
          go_wp2
          go_ret
          exact ⟨ret_int HF.out.symm, hsT⟩
    · have t3 : (e2 == 0) = false := beq_eq_false_iff_ne.2 g0
      have HF := Lib.hid ((HE.out.trans (if_neg (by rw [HI.out]; exact g0))).trans HI.out)
      clear g0
      go_wp2
      go_ret
      exact ⟨ret_int HF.out.symm, hsT⟩
  · have HI := Lib.hid (show (if e1 = 0 then e2 else e1) = e1 from if_neg h0)
    have t1 : (e1 == 0) = false := beq_eq_false_iff_ne.2 h0
    have HF := Lib.hid ((HE.out.trans (if_neg (by rw [HI.out]; exact h0))).trans HI.out)
    clear h0
    go_enter Tryd.func18, Tryd.ntmps18
    go_wp2_with fail
    refine calls_lay2 (fun W1 hb1 hz1 A B => ?_)
    replace ha := ha.past hb1
    replace hb := hb.past hb1
    replace ha' := ha'.past hb1
    replace hb' := hb'.past hb1
    have hs1 := hb1
    ((with_reducible refine ((H1 _ ha hb).out).mono ?_))
    rintro e2 w2 ⟨rfl, hb2⟩
    replace A := A.past hb2
    replace B := B.past hb2
    replace ha := ha.past hb2
    replace hb := hb.past hb2
    replace ha' := ha'.past hb2
    replace hb' := hb'.past hb2
    have hs2 := hs1.trans (hb2.mono hs1.size)
    go_wp2
    go_ret
    exact ⟨ret_int HF.out.symm, hs2⟩

end Go.Proofs.YtkooikgplpamlaaDoor

namespace Go.Proofs.YtkooikgplpamlaaDoor
open Go.RowKit Go.Slip

theorem dcutF_any (x : Rw) (base b : Nat) (up : Bool) (w : World) (hx : InF w base x) (hb : b ≤ 1000000) (hbase : base ≤ w.heap.size) (hd : FitF (rCut x.v b up)) :
    Calls Tryd.prog 62 #[.agg #[.bool x.g, .slice x.p (dig B16 x.m).length x.c, .int .i64 x.e], .int .i64 b, .bool up] w (GivesFW w base (rCut x.v b up)) :=
  (refDCut_any (fun k => base ≤ k) x.g x.p _ x.c x.e x.m b up w hx.rd rfl hx.cap hx.at_ hx.len ⟨hx.lo, hx.hi⟩ hb).mono fun _ _ h => GivesF.toW h hd (fun _ k => k) hbase

/-- The same, where how far it goes is all one. -/
theorem dcutG_any (x : Rw) (base b : Nat) (up : Bool) (w : World) (hx : InF w base x) (hb : b ≤ 1000000) :
    Calls Tryd.prog 62 #[.agg #[.bool x.g, .slice x.p (dig B16 x.m).length x.c, .int .i64 x.e], .int .i64 b, .bool up] w (GivesF w (fun k => base ≤ k) (rCut x.v b up)) :=
  refDCut_any (fun k => base ≤ k) x.g x.p _ x.c x.e x.m b up w hx.rd rfl hx.cap hx.at_ hx.len ⟨hx.lo, hx.hi⟩ hb

set_option maxHeartbeats 4000000 in
set_option maxRecDepth 100000 in
theorem refToBall_any (x y : Rw) (b base : Nat) (w : World) (hx : InF w base x) (hy : InF w base y) (hb : b ≤ 1000000) (lx : (dig B16 (rCut x.v b false).m).length ≤ 100000000) (ly : (dig B16 (rCut y.v b true).m).length ≤ 100000000) :
    Calls Tryd.prog 64 #[.agg #[.bool x.g, .slice x.p (dig B16 x.m).length x.c, .int .i64 x.e], .agg #[.bool y.g, .slice y.p (dig B16 y.m).length y.c, .int .i64 y.e], .int .i64 b] w (GivesBE w w.heap.size (doneL (rCut x.v b false) (rCut y.v b true)) (doneH (rCut x.v b false) (rCut y.v b true)) (errB (rCut x.v b false) (rCut y.v b true))) := by
  have HCX := fun W h => Lib.hid (dcutG_any x base b false W h hb)
  have HCY := fun W h => Lib.hid (dcutG_any y base b true W h hb)
  generalize rCut x.v b false = dx at *
  generalize rCut y.v b true = dy at *
  have HTX := fun p c W h => Lib.hid (refToDyad_any dx.neg p _ c dx.e dx.m W h rfl lx)
  have HTY := fun p c W h => Lib.hid (refToDyad_any dy.neg p _ c dy.e dy.m W h rfl ly)
  have HE := Lib.hid (show errB dx dy = if errD dx = 0 then errD dy else errD dx from rfl)
  have HP := Lib.hid (show doneL dx dy = if errB dx dy = 0 then dx else zeroD from rfl)
  have HQ := Lib.hid (show doneH dx dy = if errB dx dy = 0 then dy else zeroD from rfl)
  have HXL := Lib.hid (fun k : errD dx = 0 => doneD_zero k)
  have HXH := Lib.hid (fun k : errD dy = 0 => doneD_zero k)
  have HTX2 : ∀ p c W, Rd W .i64 p (dig B16 dx.m) → Hid (Calls Tryd.prog 99 #[.agg #[.bool dx.neg, .slice p (dig B16 dx.m).length c, .int .i64 dx.e]] W (GivesDE W W.heap.size (doneD dx) (errD dx))) := fun p c W h => HTX p c W h
  have HTY2 : ∀ p c W, Rd W .i64 p (dig B16 dy.m) → Hid (Calls Tryd.prog 99 #[.agg #[.bool dy.neg, .slice p (dig B16 dy.m).length c, .int .i64 dy.e]] W (GivesDE W W.heap.size (doneD dy) (errD dy))) := fun p c W h => HTY p c W h
  clear HTX HTY
  obtain ⟨e, he⟩ : ∃ e, errD dx = e := ⟨_, rfl⟩
  obtain ⟨f, hf⟩ : ∃ f, errD dy = f := ⟨_, rfl⟩
  obtain ⟨dl, hdl⟩ : ∃ dl, doneD dx = dl := ⟨_, rfl⟩
  obtain ⟨dh, hdh⟩ : ∃ dh, doneD dy = dh := ⟨_, rfl⟩
  rw [he] at HE HXL
  rw [hf] at HE HXH
  rw [hdl] at HXL
  rw [hdh] at HXH
  simp only [he, hdl] at HTX2
  simp only [hf, hdh] at HTY2
  clear he hf hdl hdh
  have R0 := True.intro
  go_enter Tryd.func64, Tryd.ntmps64
  go_upto_region 1 with (fail)
  refine wp_layT3 (fun W1 hs1 hz1 A B R RT => ?_)
  replace hx := hx.past hs1
  replace hy := hy.past hs1
  have hzw1 := hs1.size
  obtain ⟨A_0, A_1, A_2⟩ := A.e3
  go_wp2_with fail
  clear A_0 A_1 A_2
  ((with_reducible refine ((HCX _ hx).out).mono ?_))
  rintro e2 w2 ⟨p2, c2, rfl, hr2, hc2, hf2, hb2⟩
  replace A := A.past hb2
  replace B := B.past hb2
  replace R := R.past hb2
  replace hx := hx.past hb2
  replace hy := hy.past hb2
  replace RT := RT.past hb2
  have hs2 := hs1.trans (hb2.mono hs1.size)
  go_wp2_with fail
  ((with_reducible refine ((HTX2 p2 c2 _ hr2).out).mono ?_))
  rintro e3 w3 ⟨p3, c3, rfl, ho3, hb3⟩
  replace A := A.past hb3
  replace B := B.past hb3
  replace R := R.past hb3
  replace hx := hx.past hb3
  replace hy := hy.past hb3
  replace RT := RT.past hb3
  have hs3 := hs2.trans (hb3.mono hs2.size)
  go_upto_region 2 with (fail)
  refine wp_lay1 (fun W4 hb4 hz4 LO => ?_)
  replace A := A.past hb4
  replace B := B.past hb4
  replace R := R.past hb4
  replace hx := hx.past hb4
  replace hy := hy.past hb4
  replace RT := RT.past hb4
  replace ho3 := ho3.past hb4
  have hs4 := hs3.trans (hb4.mono hs3.size)
  obtain ⟨B_0, B_1, B_2⟩ := B.e3
  go_wp2_with fail
  clear B_0 B_1 B_2
  ((with_reducible refine ((HCY _ hy).out).mono ?_))
  rintro e5 w5 ⟨p5, c5, rfl, hr5, hc5, hf5, hb5⟩
  replace A := A.past hb5
  replace B := B.past hb5
  replace R := R.past hb5
  replace LO := LO.past hb5
  replace hx := hx.past hb5
  replace hy := hy.past hb5
  replace RT := RT.past hb5
  replace ho3 := ho3.past hb5
  have hs5 := hs4.trans (hb5.mono hs4.size)
  go_wp2_with fail
  ((with_reducible refine ((HTY2 p5 c5 _ hr5).out).mono ?_))
  rintro e6 w6 ⟨p6, c6, rfl, ho6, hb6⟩
  replace A := A.past hb6
  replace B := B.past hb6
  replace R := R.past hb6
  replace LO := LO.past hb6
  replace hx := hx.past hb6
  replace hy := hy.past hb6
  replace RT := RT.past hb6
  replace ho3 := ho3.past hb6
  have hs6 := hs5.trans (hb6.mono hs5.size)
  go_upto_region 3 with (fail)
  refine wp_lay1 (fun W7 hb7 hz7 HI => ?_)
  replace A := A.past hb7
  replace B := B.past hb7
  replace R := R.past hb7
  replace LO := LO.past hb7
  replace hx := hx.past hb7
  replace hy := hy.past hb7
  replace RT := RT.past hb7
  replace ho3 := ho3.past hb7
  replace ho6 := ho6.past hb7
  have hs7 := hs6.trans (hb7.mono hs6.size)
  have z3 : w.heap.size ≤ w2.heap.size := hs2.size
  have z6 : w.heap.size ≤ w5.heap.size := hs5.size
  replace ho3 := ho3.mono z3
  replace ho6 := ho6.mono z6
  obtain ⟨R_0, R_1, R_2, R_3, R_4, R_5⟩ := (R).e6
  have R_f0 := (R).f 0
  have R_f1 := (R).f 1
  have R_f2 := (R).f 2
  have R_f3 := (R).f 3
  have R_f4 := (R).f 4
  have R_f5 := (R).f 5
  by_cases h0 : e = 0
  · have t1 : (e == 0) = true := by simpa using h0
    have H0 := Lib.hid h0
    clear h0
    by_cases h1 : f = 0
    · have t3 : (f != 0) = false := by simpa using h1
      have HEE := Lib.hid (HE.out.trans ((if_pos H0.out).trans h1))
      have HPP := Lib.hid ((HP.out.trans (if_pos HEE.out)).trans (HXL.out H0.out).symm)
      have HQQ := Lib.hid ((HQ.out.trans (if_pos HEE.out)).trans (HXH.out h1).symm)
      clear h1
      obtain ⟨LO_0, LO_1, LO_2⟩ := LO.e3
      obtain ⟨HI_0, HI_1, HI_2⟩ := HI.e3
      go_wp2_with fail
      refine bodyPost_ret (v := .tuple #[.agg #[.bool dl.neg, .slice p3 (dig B32 dl.m).length c3, .int .i64 dl.e, .bool dh.neg, .slice p6 (dig B32 dh.m).length c6, .int .i64 dh.e], .int .i64 0]) (by simp [results, Tryd.results64, go_sem, R_0, R_1, R_2, R_3, R_4, R_5]) rfl ?_
      rw [HPP.out, HQQ.out, HEE.out]
      exact givesBE_put hs7 ho3 ho6 (by omega) RT
    · have t3 : (f != 0) = true := by rw [bne, beq_eq_false_iff_ne.2 h1]; rfl
      have HEE := Lib.hid (HE.out.trans (if_pos H0.out))
      have HPP := Lib.hid (HP.out.trans (if_neg (by rw [HEE.out]; exact h1)))
      have HQQ := Lib.hid (HQ.out.trans (if_neg (by rw [HEE.out]; exact h1)))
      clear h1
      go_wp2_with fail
      refine bodyPost_ret (v := .tuple #[.agg #[.bool false, .slice none 0 0, .int .i64 0, .bool false, .slice none 0 0, .int .i64 0], .int .i64 f]) (by simp [results, Tryd.results64, go_sem, R_0, R_1, R_2, R_3, R_4, R_5]) rfl ?_
      rw [HPP.out, HQQ.out, HEE.out]
      exact givesBE_zero hs7 (by omega)
  · have t1 : (e == 0) = false := beq_eq_false_iff_ne.2 h0
    have t3 : (e != 0) = true := by rw [bne, t1]; rfl
    have HEE := Lib.hid (HE.out.trans (if_neg h0))
    have HPP := Lib.hid (HP.out.trans (if_neg (by rw [HEE.out]; exact h0)))
    have HQQ := Lib.hid (HQ.out.trans (if_neg (by rw [HEE.out]; exact h0)))
    clear h0
    go_wp2_with fail
    refine bodyPost_ret (v := .tuple #[.agg #[.bool false, .slice none 0 0, .int .i64 0, .bool false, .slice none 0 0, .int .i64 0], .int .i64 e]) (by simp [results, Tryd.results64, go_sem, R_0, R_1, R_2, R_3, R_4, R_5]) rfl ?_
    rw [HPP.out, HQQ.out, HEE.out]
    exact givesBE_zero hs7 (by omega)

theorem done_len {l h : Dv} : (dig B32 (doneL l h).m).length ≤ 1200 ∧ (dig B32 (doneH l h).m).length ≤ 1200 := by
  unfold doneL doneH
  by_cases h0 : errB l h = 0
  · rw [if_pos h0, if_pos h0]
    obtain ⟨h1, h2⟩ := errB_ok h0
    unfold errD at h1 h2
    constructor
    · split at h1 <;> omega
    · split at h2 <;> omega
  · rw [if_neg h0, if_neg h0]
    simp [zeroD, dig_zero]

set_option maxHeartbeats 4000000 in
set_option maxRecDepth 100000 in
theorem ballIs_ok (x y : Rw) (b base : Nat) (p q : Option Addr) (c d : Nat) (w : World) (hx : InF w base x) (hy : InF w base y) (hb : b ≤ 1000000) (lx : (dig B16 (rCut x.v b false).m).length ≤ 100000000) (ly : (dig B16 (rCut y.v b true).m).length ≤ 100000000)
    (hp : Rd w .u32 p (dig B32 (doneL (rCut x.v b false) (rCut y.v b true)).m)) (hq : Rd w .u32 q (dig B32 (doneH (rCut x.v b false) (rCut y.v b true)).m)) :
    Calls Tryd.prog 23 #[.agg #[.bool (doneL (rCut x.v b false) (rCut y.v b true)).neg, .slice p (dig B32 (doneL (rCut x.v b false) (rCut y.v b true)).m).length c, .int .i64 (doneL (rCut x.v b false) (rCut y.v b true)).e, .bool (doneH (rCut x.v b false) (rCut y.v b true)).neg, .slice q (dig B32 (doneH (rCut x.v b false) (rCut y.v b true)).m).length d, .int .i64 (doneH (rCut x.v b false) (rCut y.v b true)).e],
      .int .i64 (errB (rCut x.v b false) (rCut y.v b true)), .int .i64 0, .agg #[.bool x.g, .slice x.p (dig B16 x.m).length x.c, .int .i64 x.e], .agg #[.bool y.g, .slice y.p (dig B16 y.m).length y.c, .int .i64 y.e], .int .i64 b] w fun en w' => en = .returned (.bool true) ∧ Below w.heap.size w w' := by
  have HT := fun W h1 h2 => Lib.hid (refToBall_any x y b base W h1 h2 hb lx ly)
  obtain ⟨l1, l2⟩ := done_len (l := rCut x.v b false) (h := rCut y.v b true)
  have HZ := Lib.hid (fun h : errB (rCut x.v b false) (rCut y.v b true) ≠ 0 => (show doneL (rCut x.v b false) (rCut y.v b true) = zeroD ∧ doneH (rCut x.v b false) (rCut y.v b true) = zeroD by unfold doneL doneH; rw [if_neg h, if_neg h]; exact ⟨rfl, rfl⟩))
  generalize doneL (rCut x.v b false) (rCut y.v b true) = dl at *
  generalize doneH (rCut x.v b false) (rCut y.v b true) = dh at *
  generalize errB (rCut x.v b false) (rCut y.v b true) = er at *
  clear lx ly
  have HSB := fun p' q' c' d' W k1 k2 k3 k4 => Lib.hid (refSameBall_dec dl dh dl dh p q p' q' c d c' d' W k1 k2 k3 k4 (by omega) (by omega) (by omega) (by omega))
  simp only [and_self, decide_true] at HSB
  have t0 : (er == er) = true := by simp
  have hp0 := hp
  have hq0 := hq
  go_enter Tryd.func23, Tryd.ntmps23
  go_upto_region 2 with (fail)
  refine wp_lay4 (fun W1 hs1 hz1 A X Y V => ?_)
  replace hx := hx.past hs1
  replace hy := hy.past hs1
  replace hp := hp.past hs1
  replace hq := hq.past hs1
  have hzw1 := hs1.size
  have hpl : 0 < (dig B32 dl.m).length → blk p < w.heap.size := fun h => hp0.lt h
  have hql : 0 < (dig B32 dh.m).length → blk q < w.heap.size := fun h => hq0.lt h
  obtain ⟨X_0, X_1, X_2⟩ := X.e3
  obtain ⟨Y_0, Y_1, Y_2⟩ := Y.e3
  go_wp2_with fail
  clear X_0 X_1 X_2 Y_0 Y_1 Y_2
  ((with_reducible refine ((HT _ hx hy).out).mono ?_))
  rintro e2 w2 ⟨p2, c2, q2, d2, rfl, ho2, hq2, hb2⟩
  replace A := A.past hb2
  replace X := X.past hb2
  replace Y := Y.past hb2
  replace V := V.past hb2
  replace hx := hx.past hb2
  replace hy := hy.past hb2
  replace hp := hp.past hb2
  replace hq := hq.past hb2
  have hs2 := hs1.trans (hb2.mono hs1.size)
  have hp2 : p2.isSome = true → W1.heap.size ≤ blk p2 := fun h => (ho2.blk_lt h).1
  have hq3 : q2.isSome = true → W1.heap.size ≤ blk q2 := fun h => (hq2.blk_lt h).1
  obtain ⟨V_0, V_1, V_2, V_3, V_4, V_5⟩ := V.e6
  have V_f0 := V.f 0
  have V_f1 := V.f 1
  have V_f2 := V.f 2
  have V_f3 := V.f 3
  have V_f4 := V.f 4
  have V_f5 := V.f 5
  go_upto_region 4 with (fail)
  clear V_0 V_1 V_2 V_3 V_4 V_5 V_f0 V_f1 V_f2 V_f3 V_f4 V_f5
  refine wp_put6 V (fun W3 hO3 V => ?_)
  replace A := A.only hO3 (by omega)
  replace hp := hp.only hO3 (fun h => by have := hpl h; omega)
  replace hq := hq.only hO3 (fun h => by have := hql h; omega)
  replace ho2 := ho2.only hO3 (fun h => by have := hp2 h; omega)
  replace hq2 := hq2.only hO3 (fun h => by have := hq3 h; omega)
  have hs3 := hs2.trans (hO3.below (B := w.heap.size) (by omega))
  by_cases h0 : er = 0
  · have t1 : (er != 0) = false := by simpa using h0
    clear h0
    obtain ⟨A_0, A_1, A_2, A_3, A_4, A_5⟩ := (A).e6
    have A_f0 := (A).f 0
    have A_f1 := (A).f 1
    have A_f2 := (A).f 2
    have A_f3 := (A).f 3
    have A_f4 := (A).f 4
    have A_f5 := (A).f 5
    obtain ⟨V_0, V_1, V_2, V_3, V_4, V_5⟩ := (V).e6
    have V_f0 := (V).f 0
    have V_f1 := (V).f 1
    have V_f2 := (V).f 2
    have V_f3 := (V).f 3
    have V_f4 := (V).f 4
    have V_f5 := (V).f 5
    go_wp2_with fail
    ((with_reducible refine (HSB p2 q2 c2 d2 _ hp hq ho2.rd hq2.rd).out.mono ?_))
    rintro e4 w4 ⟨rfl, hb4⟩
    go_wp2
    go_ret
    exact ⟨rfl, hs3.trans (hb4.mono hs3.size)⟩
  · have t1 : (er != 0) = true := by rw [bne, beq_eq_false_iff_ne.2 h0]; rfl
    obtain ⟨z1, z2⟩ := HZ.out h0
    have HSZ := fun W k1 k2 k3 k4 => Lib.hid (show Calls Tryd.prog 65 #[.agg #[.bool dl.neg, .slice p (dig B32 dl.m).length c, .int .i64 dl.e, .bool dh.neg, .slice q (dig B32 dh.m).length d, .int .i64 dh.e], .agg #[.bool false, .slice none 0 0, .int .i64 0, .bool false, .slice none 0 0, .int .i64 0]] W fun en w' => en = .returned (.bool true) ∧ Below W.heap.size W w' by
      have k := (HSB none none 0 0 W k1 k2 k3 k4).out
      rw [show Value.agg #[.bool false, .slice none 0 0, .int .i64 0, .bool false, .slice none 0 0, .int .i64 0] = .agg #[.bool dl.neg, .slice none (dig B32 dl.m).length 0, .int .i64 dl.e, .bool dh.neg, .slice none (dig B32 dh.m).length 0, .int .i64 dh.e] by rw [z1, z2, show zeroD = ⟨false, 0, 0⟩ from rfl]; simp only [dig_zero, List.length_nil]]
      exact k)
    have n1 : ∀ W : World, Rd W .u32 none (dig B32 dl.m) := fun W => by rw [z1]; simp only [zeroD, dig_zero]; exact Rd.nil _ _ _
    have n2 : ∀ W : World, Rd W .u32 none (dig B32 dh.m) := fun W => by rw [z2]; simp only [zeroD, dig_zero]; exact Rd.nil _ _ _
    clear h0 z1 z2
    obtain ⟨V_0, V_1, V_2, V_3, V_4, V_5⟩ := (V).e6
    have V_f0 := (V).f 0
    have V_f1 := (V).f 1
    have V_f2 := (V).f 2
    have V_f3 := (V).f 3
    have V_f4 := (V).f 4
    have V_f5 := (V).f 5
    go_upto_region 6 with (fail)
    clear V_0 V_1 V_2 V_3 V_4 V_5 V_f0 V_f1 V_f2 V_f3 V_f4 V_f5
    refine wp_put6 V (fun W5 hO5 V => ?_)
    replace A := A.only hO5 (by omega)
    replace hp := hp.only hO5 (fun h => by have := hpl h; omega)
    replace hq := hq.only hO5 (fun h => by have := hql h; omega)
    have hs5 := hs3.trans (hO5.below (B := w.heap.size) (by omega))
    obtain ⟨A_0, A_1, A_2, A_3, A_4, A_5⟩ := (A).e6
    have A_f0 := (A).f 0
    have A_f1 := (A).f 1
    have A_f2 := (A).f 2
    have A_f3 := (A).f 3
    have A_f4 := (A).f 4
    have A_f5 := (A).f 5
    obtain ⟨V_0, V_1, V_2, V_3, V_4, V_5⟩ := (V).e6
    have V_f0 := (V).f 0
    have V_f1 := (V).f 1
    have V_f2 := (V).f 2
    have V_f3 := (V).f 3
    have V_f4 := (V).f 4
    have V_f5 := (V).f 5
    go_wp2_with fail
    ((with_reducible refine (HSZ _ hp hq (n1 _) (n2 _)).out.mono ?_))
    rintro e4 w4 ⟨rfl, hb4⟩
    go_wp2
    go_ret
    exact ⟨rfl, hs5.trans (hb4.mono hs5.size)⟩

end Go.Proofs.YtkooikgplpamlaaDoor

namespace Go.Proofs.YtkooikgplpamlaaDoor
open Go.RowKit Go.Slip

set_option maxHeartbeats 4000000 in
set_option maxRecDepth 100000 in
theorem ballIs_err (er n : Int) (p q : Option Addr) (c d : Nat) (w : World) (he : er ≠ 0) :
    Calls Tryd.prog 23 #[.agg #[.bool false, .slice p 0 c, .int .i64 0, .bool false, .slice q 0 d, .int .i64 0], .int .i64 er, .int .i64 er, .agg #[.bool false, .slice none 0 0, .int .i64 0], .agg #[.bool false, .slice none 0 0, .int .i64 0], .int .i64 n] w fun en w' => en = .returned (.bool true) ∧ Below w.heap.size w w' := by
  have HSZ := fun W => Lib.hid (show Calls Tryd.prog 65 #[.agg #[.bool false, .slice p 0 c, .int .i64 0, .bool false, .slice q 0 d, .int .i64 0], .agg #[.bool false, .slice none 0 0, .int .i64 0, .bool false, .slice none 0 0, .int .i64 0]] W fun en w' => en = .returned (.bool true) ∧ Below W.heap.size W w' by
    have k := refSameBall_dec ⟨false, 0, 0⟩ ⟨false, 0, 0⟩ ⟨false, 0, 0⟩ ⟨false, 0, 0⟩ p q none none c d 0 0 W (by simp only [dig_zero]; exact Rd.nil _ _ _) (by simp only [dig_zero]; exact Rd.nil _ _ _) (by simp only [dig_zero]; exact Rd.nil _ _ _) (by simp only [dig_zero]; exact Rd.nil _ _ _) (by simp [dig_zero]) (by simp [dig_zero]) (by simp [dig_zero]) (by simp [dig_zero])
    simp only [dig_zero, List.length_nil, and_self, decide_true] at k
    exact k)
  have t0 : (er == er) = true := by simp
  have t1 : (er == 0) = false := beq_eq_false_iff_ne.2 he
  have t2 : (er != 0) = true := by rw [bne, t1]; rfl
  clear he
  go_enter Tryd.func23, Tryd.ntmps23
  go_upto_region 2 with (fail)
  refine wp_lay4 (fun W1 hs1 hz1 A X Y V => ?_)
  obtain ⟨V_0, V_1, V_2, V_3, V_4, V_5⟩ := (V).e6
  have V_f0 := (V).f 0
  have V_f1 := (V).f 1
  have V_f2 := (V).f 2
  have V_f3 := (V).f 3
  have V_f4 := (V).f 4
  have V_f5 := (V).f 5
  go_upto_region 6 with (fail)
  clear V_0 V_1 V_2 V_3 V_4 V_5 V_f0 V_f1 V_f2 V_f3 V_f4 V_f5
  refine wp_put6 V (fun W5 hO5 V => ?_)
  replace A := A.only hO5 (by omega)
  have hs5 := hs1.trans (hO5.below (B := w.heap.size) (by omega))
  obtain ⟨A_0, A_1, A_2, A_3, A_4, A_5⟩ := (A).e6
  have A_f0 := (A).f 0
  have A_f1 := (A).f 1
  have A_f2 := (A).f 2
  have A_f3 := (A).f 3
  have A_f4 := (A).f 4
  have A_f5 := (A).f 5
  obtain ⟨V_0, V_1, V_2, V_3, V_4, V_5⟩ := (V).e6
  have V_f0 := (V).f 0
  have V_f1 := (V).f 1
  have V_f2 := (V).f 2
  have V_f3 := (V).f 3
  have V_f4 := (V).f 4
  have V_f5 := (V).f 5
  go_wp2_with fail
  ((with_reducible refine (HSZ _).out.mono ?_))
  rintro e4 w4 ⟨rfl, hb4⟩
  go_wp2
  go_ret
  exact ⟨rfl, hs5.trans (hb4.mono hs5.size)⟩

/-- The number of three cells at a block's place, a reference's. -/
structure ElF (w : World) (g o : Nat) (a : Rw) : Prop where
  c0 : w.cell? ⟨g, o, none⟩ = some (.bool a.g)
  c1 : w.cell? ⟨g, o + 1, none⟩ = some (.slice a.p (dig B16 a.m).length a.c)
  c2 : w.cell? ⟨g, o + 2, none⟩ = some (.int .i64 a.e)
  lt : g < w.heap.size

theorem ElF.e3 {w : World} {g o : Nat} {a : Rw} (h : ElF w g o a) : w.cell? ⟨g, o, none⟩ = some (.bool a.g) ∧ w.cell? ⟨g, o + 1, none⟩ = some (.slice a.p (dig B16 a.m).length a.c) ∧ w.cell? ⟨g, o + 2, none⟩ = some (.int .i64 a.e) := ⟨h.c0, h.c1, h.c2⟩
theorem ElF.below {w w' : World} {B g o : Nat} {a : Rw} (h : ElF w g o a) (hb : Below B w w') (hB : g < B) : ElF w' g o a :=
  ⟨by rw [Below.cell hb hB]; exact h.c0, by rw [Below.cell hb hB]; exact h.c1, by rw [Below.cell hb hB]; exact h.c2, Nat.lt_of_lt_of_le h.lt hb.size⟩
theorem ElF.past {w w' : World} {g o : Nat} {a : Rw} (h : ElF w g o a) (hb : Below w.heap.size w w') : ElF w' g o a := h.below hb h.lt
theorem ElF.drew {w : World} {g o : Nat} {a : Rw} (h : ElF w g o a) : ElF w.drew g o a := ⟨h.c0, h.c1, h.c2, h.lt⟩
theorem ElF.laid {w : World} {g o : Nat} {a : Rw} (h : ElF w g o a) (ob : Obj) : ElF (w.alloc ob) g o a := h.past (below_lay1 _ _)
theorem ElF.set {w : World} {g o k i : Nat} {a : Rw} {v : Value} (h : ElF w g o a) (hne : g < k) : ElF (w.setCell ⟨k, i, none⟩ v) g o a :=
  h.below ((Below.refl k w).setCell (p := ⟨k, i, none⟩) (Nat.le_refl _) v) hne

def rLowR (a : Rw) (l : List Rw) : Rw := l.foldl (fun s x => if rCmp x.v s.v < 0 then x else s) a
def rHighR (a : Rw) (l : List Rw) : Rw := l.foldl (fun s x => if 0 < rCmp x.v s.v then x else s) a

theorem rLowR_v (l : List Rw) : ∀ a : Rw, (rLowR a l).v = rLow a.v (l.map Rw.v) := by
  induction l with
  | nil => intro a; rfl
  | cons y l ih =>
    intro a
    show (rLowR (if rCmp y.v a.v < 0 then y else a) l).v = rLow (if rCmp y.v a.v < 0 then y.v else a.v) (l.map Rw.v)
    rw [ih]; congr 1; split <;> rfl
theorem rHighR_v (l : List Rw) : ∀ a : Rw, (rHighR a l).v = rHigh a.v (l.map Rw.v) := by
  induction l with
  | nil => intro a; rfl
  | cons y l ih =>
    intro a
    show (rHighR (if 0 < rCmp y.v a.v then y else a) l).v = rHigh (if 0 < rCmp y.v a.v then y.v else a.v) (l.map Rw.v)
    rw [ih]; congr 1; split <;> rfl
theorem rLowR_take (l : List Rw) (a : Rw) (i : Nat) (h : i < l.length) : rLowR a (l.take (i + 1)) = if rCmp l[i].v (rLowR a (l.take i)).v < 0 then l[i] else rLowR a (l.take i) := by
  unfold rLowR
  rw [List.take_succ_eq_append_getElem h, List.foldl_append]
  rfl
theorem rHighR_take (l : List Rw) (a : Rw) (i : Nat) (h : i < l.length) : rHighR a (l.take (i + 1)) = if 0 < rCmp l[i].v (rHighR a (l.take i)).v then l[i] else rHighR a (l.take i) := by
  unfold rHighR
  rw [List.take_succ_eq_append_getElem h, List.foldl_append]
  rfl
theorem rCmp_self (a : Dv) : rCmp a a = 0 := by rw [rCmp_zOf a a (Int.le_refl _) (Int.le_refl _)]; simp
theorem rLowR_one (a : Rw) (l : List Rw) : rLowR a (a :: l) = rLowR a l := by
  show rLowR (if rCmp a.v a.v < 0 then a else a) l = _
  rw [rCmp_self]; rfl
theorem rHighR_one (a : Rw) (l : List Rw) : rHighR a (a :: l) = rHighR a l := by
  show rHighR (if 0 < rCmp a.v a.v then a else a) l = _
  rw [rCmp_self]; rfl

/-- What Ends leaves. -/
def GivesEnds (w : World) (base : Nat) (l h : Dv) (en : Ending) (w' : World) : Prop := ∃ r s : Rw, r.v = l ∧ s.v = h ∧ en = .returned (.tuple #[.agg #[.bool r.g, .slice r.p (dig B16 r.m).length r.c, .int .i64 r.e], .agg #[.bool s.g, .slice s.p (dig B16 s.m).length s.c, .int .i64 s.e]]) ∧ InF w' base r ∧ InF w' base s ∧ Below w.heap.size w w'



set_option maxHeartbeats 4000000 in
set_option maxRecDepth 100000 in
theorem refEnds_any (g c base : Nat) (a0 : Rw) (L0 L : List Rw) (hL : L = a0 :: L0) (w : World) (n : Nat) (hn : n = L0.length + 1) (hl : L0.length ≤ 900)
    (hcell : ∀ j (h : j < L.length), ElF w g (j * 3) (L[j])) (hr : ∀ j (h : j < L.length), InF w base (L[j])) :
    Calls Tryd.prog 21 #[.slice (some ⟨g, 0, none⟩) n c] w (GivesEnds w base (rLow a0.v (L0.map Rw.v)) (rHigh a0.v (L0.map Rw.v))) := by
  subst hn
  have E : ElF w g 0 a0 := by have k := hcell 0 (by rw [hL]; simp); subst hL; simpa using k
  have hr0 : InF w base a0 := by have k := hr 0 (by rw [hL]; simp); subst hL; simpa using k
  have hg := E.lt
  have HLS := Lib.hid (show (rLowR a0 L).v = rLow a0.v (L0.map Rw.v) by rw [hL, rLowR_one, rLowR_v])
  have HHS := Lib.hid (show (rHighR a0 L).v = rHigh a0.v (L0.map Rw.v) by rw [hL, rHighR_one, rHighR_v])
  have HF1 := Lib.hid (show a0 = rLowR a0 (L.take 1) ∧ a0 = rHighR a0 (L.take 1) by
    rw [hL]
    constructor
    · show a0 = rLowR a0 [a0]; rw [rLowR_one]; rfl
    · show a0 = rHighR a0 [a0]; rw [rHighR_one]; rfl)
  have HLen := Lib.hid (show L.length = L0.length + 1 by rw [hL]; rfl)
  clear hL
  have HC := Lib.hid hcell
  have HR := Lib.hid hr
  clear hcell hr
  generalize L0.length = N at *
  have hLn : ((N + 1 : Nat) : Int) = (N : Int) + 1 := by omega
  have hL1 : (0 : Int) < (N : Int) + 1 := by omega
  go_enter Tryd.func21, Tryd.ntmps21
  go_upto_region 1 with (fail)
  refine wp_lay2 (fun W1 hs1 hz1 R V => ?_)
  replace E := E.past hs1
  go_cut [4, 5] (fun s5 s6 wx => ∃ bl bh : Nat, s5 = .pointer (some ⟨bl, 0, none⟩) ∧ s6 = .pointer (some ⟨bh, 0, none⟩) ∧ bl ≠ bh ∧ W1.heap.size ≤ bl ∧ W1.heap.size ≤ bh ∧ Bx wx bl #[.bool a0.g, .slice a0.p (dig B16 a0.m).length a0.c, .int .i64 a0.e] ∧ Bx wx bh #[.bool a0.g, .slice a0.p (dig B16 a0.m).length a0.c, .int .i64 a0.e] ∧ Below W1.heap.size W1 wx)
  case first =>
    have hgW := hs1.size
    go_region_held3 (fun w' => w'.cell? ⟨g, 0, none⟩ = some (.bool a0.g) ∧ w'.cell? ⟨g, 1, none⟩ = some (.slice a0.p (dig B16 a0.m).length a0.c) ∧ w'.cell? ⟨g, 2, none⟩ = some (.int .i64 a0.e))
      (((refine ElF.e3 (o := 0) ?_); (repeat (first | with_reducible exact E | with_reducible refine ElF.drew ?_ | with_reducible refine ElF.laid ?_ _ | (with_reducible refine ElF.set ?_ (by first | omega | (simp; omega)))))))
      (fail)
    all_goals (go_wp2_with fail)
    all_goals go_meet
    · exact ⟨_, _, rfl, rfl, by omega, by omega, by omega, ((bx_new W1 _ _).laid _).drew, (by have h := (bx_new (W1.alloc (.cells #[.bool a0.g, .slice a0.p (dig B16 a0.m).length a0.c, .int .i64 a0.e] 37)) #[.bool a0.g, .slice a0.p (dig B16 a0.m).length a0.c, .int .i64 a0.e] 37).drew; rw [World.size_alloc] at h; exact h), (below_lay2 W1 _ _).drew⟩
    · exact ⟨_, _, rfl, rfl, by omega, by omega, by omega, (by have h := (bx_new (W1.alloc (.cells #[.bool a0.g, .slice a0.p (dig B16 a0.m).length a0.c, .int .i64 a0.e] 37)) #[.bool a0.g, .slice a0.p (dig B16 a0.m).length a0.c, .int .i64 a0.e] 37).drew; rw [World.size_alloc] at h; exact h), ((bx_new W1 _ _).laid _).drew, (below_lay2 W1 _ _).drew⟩
  case rest =>
    obtain ⟨bl, bh, rfl, rfl, hne, hbl, hbh, LO, HI, hbc⟩ := hcut
    have hs2 := hs1.trans (hbc.mono hs1.size)
    replace R := R.past hbc
    replace V := V.past hbc
    have hzW := hs1.size
    clear hbc E
    go_wp2_with fail
    go_loopg [6] N (fun gk iv wr => ∃ (i : Nat) (s t : Rw), iv = .int .i64 i ∧ gk + i = N + 1 ∧ 1 ≤ i ∧ Below w.heap.size w wr ∧ Bx wr bl #[.bool s.g, .slice s.p (dig B16 s.m).length s.c, .int .i64 s.e] ∧ Bx wr bh #[.bool t.g, .slice t.p (dig B16 t.m).length t.c, .int .i64 t.e] ∧ Bx wr w.heap.size #[.bool false, .slice none 0 0, .int .i64 0] ∧ Bx wr (w.heap.size + 1) #[.bool false, .slice none 0 0, .int .i64 0] ∧ InF w base s ∧ InF w base t ∧ Hid (s = rLowR a0 (L.take i) ∧ t = rHighR a0 (L.take i)))
    case atStart => exact ⟨1, a0, a0, rfl, rfl, Nat.le_refl _, hs2, LO, HI, R, V, hr0, hr0, ⟨HF1.out.1, HF1.out.2⟩⟩
    case round =>
      obtain ⟨i, s, t, rfl, hgk, hi1, hb2, LO, HI, R, V, hs, ht, HF⟩ := hrel
      have hbl1 := LO.lt
      have hbh1 := HI.lt
      have hRl := R.lt
      have hVl := V.lt
      have hhs := hs.past hb2
      have hht := ht.past hb2
      by_cases hlt : i < N + 1
      · have hi : i < L.length := by rw [HLen.out]; exact hlt
        have E := (HC.out i hi).past hb2
        have hx := HR.out i hi
        have HLT := Lib.hid (rLowR_take L a0 i hi)
        have HHT := Lib.hid (rHighR_take L a0 i hi)
        obtain ⟨x, hX⟩ : ∃ x, x = L[i] := ⟨_, rfl⟩
        rw [← hX] at E hx HLT HHT
        rw [← HF.out.1] at HLT
        rw [← HF.out.2] at HHT
        have hhx := hx.past hb2
        clear hX
        obtain ⟨C, hC0⟩ : ∃ C, rCmp x.v s.v = C := ⟨_, rfl⟩
        rw [hC0] at HLT
        have HCC := Lib.hid hC0
        obtain ⟨D, hD0⟩ : ∃ D, rCmp x.v t.v = D := ⟨_, rfl⟩
        rw [hD0] at HHT
        have HDD := Lib.hid hD0
        clear hC0 hD0
        have i1 : (0 : Int) ≤ (i : Int) := by omega
        have i2 : (i : Int) < (N : Int) + 1 := by omega
        have hz2 := hb2.size
        go_upto_region 5 with (fail)
        go_region_held3 (fun w' => (w'.cell? ⟨bl, 0, none⟩ = some (.bool s.g) ∧ w'.cell? ⟨bl, 1, none⟩ = some (.slice s.p (dig B16 s.m).length s.c) ∧ w'.cell? ⟨bl, 2, none⟩ = some (.int .i64 s.e)) ∧ (w'.cell? ⟨g, i * 3, none⟩ = some (.bool x.g) ∧ w'.cell? ⟨g, i * 3 + 1, none⟩ = some (.slice x.p (dig B16 x.m).length x.c) ∧ w'.cell? ⟨g, i * 3 + 2, none⟩ = some (.int .i64 x.e)))
          (first | with_reducible exact ⟨LO.e3, E.e3⟩ | with_reducible exact ⟨LO.drew.e3, E.drew.e3⟩ | with_reducible exact ⟨(LO.drew.past hbx).e3, (E.drew.past hbx).e3⟩)
          (first | (go_at_call 28; ((with_reducible refine (dcmpF_any x s _ _ _ hhx.drew hhs.drew).mono ?_)); rw [HCC.out]; rintro ex wx ⟨rfl, hbx⟩))
        have hsx := hb2.drew.trans (hbx.mono hz2)
        replace E := E.drew.past hbx
        replace LO := LO.drew.past hbx
        replace HI := HI.drew.past hbx
        replace R := R.drew.past hbx
        replace V := V.drew.past hbx
        replace hhx := hhx.drew.past hbx
        replace hht := hht.drew.past hbx
        by_cases hC : C < 0
        · have t1 : decide (C < 0) = true := decide_eq_true hC
          rw [if_pos hC] at HLT
          obtain ⟨k0, k1, k2⟩ := E.e3
          obtain ⟨LO_0, LO_1, LO_2⟩ := LO.e3
          have LO_f0 := LO.f 0
          have LO_f1 := LO.f 1
          have LO_f2 := LO.f 2
          go_upto_region 7 with (fail)
          clear LO_0 LO_1 LO_2 LO_f0 LO_f1 LO_f2
          clear k0 k1 k2
          refine wp_put3 LO (fun W6 hO6 LO => ?_)
          replace E := E.below (hO6.below (B := bl) (Nat.le_refl _)) (by omega)
          replace HI := HI.only hO6 (by omega)
          replace R := R.only hO6 (by omega)
          replace V := V.only hO6 (by omega)
          replace hhx := hhx.only hO6 (fun h => by have := hx.lt h; omega)
          replace hht := hht.only hO6 (fun h => by have := ht.lt h; omega)
          have hs6 := hsx.trans (hO6.below (B := w.heap.size) (by omega))
          have hz9 := (hs6).size
          go_region_held3 (fun w' => (w'.cell? ⟨bh, 0, none⟩ = some (.bool t.g) ∧ w'.cell? ⟨bh, 1, none⟩ = some (.slice t.p (dig B16 t.m).length t.c) ∧ w'.cell? ⟨bh, 2, none⟩ = some (.int .i64 t.e)) ∧ (w'.cell? ⟨g, i * 3, none⟩ = some (.bool x.g) ∧ w'.cell? ⟨g, i * 3 + 1, none⟩ = some (.slice x.p (dig B16 x.m).length x.c) ∧ w'.cell? ⟨g, i * 3 + 2, none⟩ = some (.int .i64 x.e)))
            (first | with_reducible exact ⟨HI.e3, E.e3⟩ | with_reducible exact ⟨HI.drew.e3, E.drew.e3⟩ | with_reducible exact ⟨(HI.drew.past hby).e3, (E.drew.past hby).e3⟩)
            (first | (go_at_call 28; ((with_reducible refine (dcmpF_any x t _ _ _ hhx.drew hht.drew).mono ?_)); rw [HDD.out]; rintro ey wy ⟨rfl, hby⟩))
          have hsy := (hs6).drew.trans (hby.mono hz9)
          replace E := E.drew.past hby
          replace LO := LO.drew.past hby
          replace HI := HI.drew.past hby
          replace R := R.drew.past hby
          replace V := V.drew.past hby
          by_cases hD : 0 < D
          · have t2 : decide (0 < D) = true := decide_eq_true hD
            rw [if_pos hD] at HHT
            obtain ⟨k0, k1, k2⟩ := E.e3
            obtain ⟨HI_0, HI_1, HI_2⟩ := HI.e3
            have HI_f0 := HI.f 0
            have HI_f1 := HI.f 1
            have HI_f2 := HI.f 2
            go_upto_region 4 with (fail)
            clear HI_0 HI_1 HI_2 HI_f0 HI_f1 HI_f2
            clear k0 k1 k2
            refine wp_put3 HI (fun W8 hO8 HI => ?_)
            replace LO := LO.only hO8 (by omega)
            replace R := R.only hO8 (by omega)
            replace V := V.only hO8 (by omega)
            have hs8 := hsy.trans (hO8.below (B := w.heap.size) (by omega))
            clear t1 t2
            go_wp2_with fail
            go_roundg (gk - 1)
            case measure => omega
            case rel => exact ⟨i + 1, x, x, by go_num, by omega, by omega, hs8, LO, HI, R, V, hx, hx, ⟨HLT.out.symm, HHT.out.symm⟩⟩
          · have t2 : decide (0 < D) = false := decide_eq_false hD
            rw [if_neg hD] at HHT
            go_upto_region 4 with (fail)
            clear t1 t2
            go_wp2_with fail
            go_roundg (gk - 1)
            case measure => omega
            case rel => exact ⟨i + 1, x, t, by go_num, by omega, by omega, hsy, LO, HI, R, V, hx, ht, ⟨HLT.out.symm, HHT.out.symm⟩⟩
        · have t1 : decide (C < 0) = false := decide_eq_false hC
          rw [if_neg hC] at HLT
          go_upto_region 7 with (fail)
          have hz9 := (hsx).size
          go_region_held3 (fun w' => (w'.cell? ⟨bh, 0, none⟩ = some (.bool t.g) ∧ w'.cell? ⟨bh, 1, none⟩ = some (.slice t.p (dig B16 t.m).length t.c) ∧ w'.cell? ⟨bh, 2, none⟩ = some (.int .i64 t.e)) ∧ (w'.cell? ⟨g, i * 3, none⟩ = some (.bool x.g) ∧ w'.cell? ⟨g, i * 3 + 1, none⟩ = some (.slice x.p (dig B16 x.m).length x.c) ∧ w'.cell? ⟨g, i * 3 + 2, none⟩ = some (.int .i64 x.e)))
            (first | with_reducible exact ⟨HI.e3, E.e3⟩ | with_reducible exact ⟨HI.drew.e3, E.drew.e3⟩ | with_reducible exact ⟨(HI.drew.past hby).e3, (E.drew.past hby).e3⟩)
            (first | (go_at_call 28; ((with_reducible refine (dcmpF_any x t _ _ _ hhx.drew hht.drew).mono ?_)); rw [HDD.out]; rintro ey wy ⟨rfl, hby⟩))
          have hsy := (hsx).drew.trans (hby.mono hz9)
          replace E := E.drew.past hby
          replace LO := LO.drew.past hby
          replace HI := HI.drew.past hby
          replace R := R.drew.past hby
          replace V := V.drew.past hby
          by_cases hD : 0 < D
          · have t2 : decide (0 < D) = true := decide_eq_true hD
            rw [if_pos hD] at HHT
            obtain ⟨k0, k1, k2⟩ := E.e3
            obtain ⟨HI_0, HI_1, HI_2⟩ := HI.e3
            have HI_f0 := HI.f 0
            have HI_f1 := HI.f 1
            have HI_f2 := HI.f 2
            go_upto_region 4 with (fail)
            clear HI_0 HI_1 HI_2 HI_f0 HI_f1 HI_f2
            clear k0 k1 k2
            refine wp_put3 HI (fun W8 hO8 HI => ?_)
            replace LO := LO.only hO8 (by omega)
            replace R := R.only hO8 (by omega)
            replace V := V.only hO8 (by omega)
            have hs8 := hsy.trans (hO8.below (B := w.heap.size) (by omega))
            clear t1 t2
            go_wp2_with fail
            go_roundg (gk - 1)
            case measure => omega
            case rel => exact ⟨i + 1, s, x, by go_num, by omega, by omega, hs8, LO, HI, R, V, hs, hx, ⟨HLT.out.symm, HHT.out.symm⟩⟩
          · have t2 : decide (0 < D) = false := decide_eq_false hD
            rw [if_neg hD] at HHT
            go_upto_region 4 with (fail)
            clear t1 t2
            go_wp2_with fail
            go_roundg (gk - 1)
            case measure => omega
            case rel => exact ⟨i + 1, s, t, by go_num, by omega, by omega, hsy, LO, HI, R, V, hs, ht, ⟨HLT.out.symm, HHT.out.symm⟩⟩
      · have hiN : i = N + 1 := by omega
        have HTK := Lib.hid (show L.take i = L by rw [hiN, ← HLen.out, List.take_length])
        have H1 := Lib.hid (show s.v = rLow a0.v (L0.map Rw.v) by rw [HF.out.1, HTK.out]; exact HLS.out)
        have H2 := Lib.hid (show t.v = rHigh a0.v (L0.map Rw.v) by rw [HF.out.2, HTK.out]; exact HHS.out)
        have hin : ¬ (i : Int) < (N : Int) + 1 := by omega
        clear hiN HTK HF
        go_upto_region 9 with (fail)
        obtain ⟨R_0, R_1, R_2⟩ := R.e3
        obtain ⟨V_0, V_1, V_2⟩ := V.e3
        have R_f0 := R.f 0
        have R_f1 := R.f 1
        have R_f2 := R.f 2
        have V_f0 := V.f 0
        have V_f1 := V.f 1
        have V_f2 := V.f 2
        have hz2 := hb2.size
        go_region_held3 (fun w' => (w'.cell? ⟨bl, 0, none⟩ = some (.bool s.g) ∧ w'.cell? ⟨bl, 1, none⟩ = some (.slice s.p (dig B16 s.m).length s.c) ∧ w'.cell? ⟨bl, 2, none⟩ = some (.int .i64 s.e)) ∧ (w'.cell? ⟨bh, 0, none⟩ = some (.bool t.g) ∧ w'.cell? ⟨bh, 1, none⟩ = some (.slice t.p (dig B16 t.m).length t.c) ∧ w'.cell? ⟨bh, 2, none⟩ = some (.int .i64 t.e)))
          (first
            | with_reducible exact ⟨LO.e3, HI.e3⟩
            | with_reducible exact ⟨LO.drew.e3, HI.drew.e3⟩
            | with_reducible exact ⟨(LO.only (only3 wr w.heap.size _ _ _) (by omega)).drew.e3, (HI.only (only3 wr w.heap.size _ _ _) (by omega)).drew.e3⟩
            | with_reducible exact ⟨((LO.only (only3 wr w.heap.size _ _ _) (by omega)).only (only3 _ (w.heap.size + 1) _ _ _) (by omega)).drew.e3, ((HI.only (only3 wr w.heap.size _ _ _) (by omega)).only (only3 _ (w.heap.size + 1) _ _ _) (by omega)).drew.e3⟩)
          (fail)
        all_goals (go_wp2_with fail)
        all_goals (refine bodyPost_ret (v := .tuple #[.agg #[.bool s.g, .slice s.p (dig B16 s.m).length s.c, .int .i64 s.e], .agg #[.bool t.g, .slice t.p (dig B16 t.m).length t.c, .int .i64 t.e]]) (by simp [results, Tryd.results21, go_sem, R_0, R_1, R_2, V_0, V_1, V_2]) rfl ?_)
        have hO1 := only3 wr w.heap.size (.bool s.g) (.slice s.p (dig B16 s.m).length s.c) (.int .i64 s.e)
        have hO2 := only3 (((wr.setCell ⟨w.heap.size, 0, none⟩ (.bool s.g)).setCell ⟨w.heap.size, 1, none⟩ (.slice s.p (dig B16 s.m).length s.c)).setCell ⟨w.heap.size, 2, none⟩ (.int .i64 s.e)) (w.heap.size + 1) (.bool t.g) (.slice t.p (dig B16 t.m).length t.c) (.int .i64 t.e)
        exact ⟨s, t, H1.out, H2.out, rfl, ((hhs.only hO1 (fun h => by have := hs.lt h; omega)).only hO2 (fun h => by have := hs.lt h; omega)).drew, ((hht.only hO1 (fun h => by have := ht.lt h; omega)).only hO2 (fun h => by have := ht.lt h; omega)).drew,
          ((hb2.trans (hO1.below (Nat.le_refl _))).trans (hO2.below (by omega))).drew⟩

end Go.Proofs.YtkooikgplpamlaaDoor

namespace Go.Proofs.YtkooikgplpamlaaDoor
open Go.RowKit Go.Slip

theorem dplusF_any (x y : Rw) (b b' : Nat) (d : Dv) (w : World) (hx : InF w b x) (hy : InF w b' y) (e : rPlus x.v y.v = d) (hd : FitF d) :
    Calls Tryd.prog 32 #[.agg #[.bool x.g, .slice x.p (dig B16 x.m).length x.c, .int .i64 x.e], .agg #[.bool y.g, .slice y.p (dig B16 y.m).length y.c, .int .i64 y.e]] w (GivesFW w w.heap.size d) := by
  subst e
  exact (refDPlus_any x.g y.g x.p y.p _ x.c _ y.c x.e y.e x.m y.m w hx.rd hy.rd rfl rfl hx.len hy.len ⟨hx.lo, hx.hi⟩ ⟨hy.lo, hy.hi⟩).mono fun _ _ h => GivesF.toW h hd (fun _ k => k.elim) (Nat.le_refl _)

theorem dtimesF_any (x y : Rw) (b b' : Nat) (d : Dv) (w : World) (hx : InF w b x) (hy : InF w b' y) (e : dTimes x.v y.v = d) (hd : FitF d) :
    Calls Tryd.prog 30 #[.agg #[.bool x.g, .slice x.p (dig B16 x.m).length x.c, .int .i64 x.e], .agg #[.bool y.g, .slice y.p (dig B16 y.m).length y.c, .int .i64 y.e]] w (GivesFW w w.heap.size d) := by
  subst e
  exact (refDTimes_any x.g y.g x.p y.p _ x.c _ y.c x.e y.e x.m y.m w hx.rd hy.rd rfl rfl hx.len hy.len ⟨hx.lo, hx.hi⟩ ⟨hy.lo, hy.hi⟩).mono fun _ _ h => GivesF.toW h hd (fun _ k => k.elim) (Nat.le_refl _)

theorem FitF.minus {d : Dv} (h : FitF d) : FitF (dMinus d) := ⟨h.len, h.lo, h.hi⟩

theorem dminusF_any (x : Rw) (b : Nat) (d : Dv) (w : World) (hx : InF w b x) (hb : b ≤ w.heap.size) (e : dMinus x.v = d) :
    Calls Tryd.prog 34 #[.agg #[.bool x.g, .slice x.p (dig B16 x.m).length x.c, .int .i64 x.e]] w (GivesFW w b d) := by
  subst e
  exact (refMinus_any (fun k => b ≤ k) x.g x.p _ x.c x.e x.m w hx.rd rfl hx.cap hx.at_).mono fun _ _ h => GivesF.toW h ⟨hx.len, hx.lo, hx.hi⟩ (fun _ k => k) hb

theorem rPlus_fitF {a b : Dv} (ha : Bare a) (hb : Bare b) (sa : SmD a) (sb : SmD b) : FitF (rPlus a b) := by
  obtain ⟨h1, h2, h3⟩ := pPlus_bd sa.len sb.len sa.lo sa.hi sb.lo sb.hi
  rw [pPlus_eq ha hb] at h1 h2 h3
  have := B16_len32 (rPlus a b).m
  exact ⟨by omega, by omega, by omega⟩

theorem rPlus_len32 {a b : Dv} (ha : Bare a) (hb : Bare b) (sa : SmD a) (sb : SmD b) : (dig B32 (rPlus a b).m).length ≤ 1000000 := by
  obtain ⟨h1, h2, h3⟩ := pPlus_bd sa.len sb.len sa.lo sa.hi sb.lo sb.hi
  rw [pPlus_eq ha hb] at h1
  omega

theorem cut_len16 {d : Dv} (b : Nat) (up : Bool) (hb : Bare d) (h : (dig B32 d.m).length ≤ 1000000) : (dig B16 (rCut d b up).m).length ≤ 100000000 := by
  have h1 := cut_len d b up h
  rw [pCut_eq hb] at h1
  have := B16_len32 (rCut d b up).m
  omega

theorem dTimes_fitF {a b : Dv} (sa : SmD a) (sb : SmD b) : FitF (dTimes a b) := by
  obtain ⟨h1, h2, h3⟩ := dTimes_bd sa.len sb.len sa.lo sa.hi sb.lo sb.hi
  have := B16_len32 (dTimes a b).m
  exact ⟨by omega, by omega, by omega⟩

theorem givesBE_none {w w' : World} {B : Nat} {er : Int} {en : Ending} (h : GivesBE w B zeroD zeroD er en w') :
    ∃ (p : Option Addr) (c : Nat) (q : Option Addr) (d : Nat), en = .returned (.tuple #[.agg #[.bool false, .slice p 0 c, .int .i64 0, .bool false, .slice q 0 d, .int .i64 0], .int .i64 er]) ∧ Below w.heap.size w w' := by
  obtain ⟨p, c, q, d, he, _, _, hb⟩ := h
  simp only [zeroD, dig_zero, List.length_nil] at he
  exact ⟨p, c, q, d, he, hb⟩

theorem len16 {d : Dv} (h : (dig B32 d.m).length ≤ 1000000) : (dig B16 d.m).length ≤ 100000000 := by
  have := B16_len32 d.m
  omega

theorem elF4 {w : World} {g : Nat} {r1 r2 r3 r4 : Rw} (h : Bx w g #[.bool r1.g, .slice r1.p (dig B16 r1.m).length r1.c, .int .i64 r1.e, .bool r2.g, .slice r2.p (dig B16 r2.m).length r2.c, .int .i64 r2.e, .bool r3.g, .slice r3.p (dig B16 r3.m).length r3.c, .int .i64 r3.e, .bool r4.g, .slice r4.p (dig B16 r4.m).length r4.c, .int .i64 r4.e]) : ∀ j (hj : j < [r1, r2, r3, r4].length), ElF w g (j * 3) ([r1, r2, r3, r4][j]) := fun j hj =>
  match j, hj with
  | 0, _ => ⟨h.c 0 rfl, h.c 1 rfl, h.c 2 rfl, h.lt⟩
  | 1, _ => ⟨h.c 3 rfl, h.c 4 rfl, h.c 5 rfl, h.lt⟩
  | 2, _ => ⟨h.c 6 rfl, h.c 7 rfl, h.c 8 rfl, h.lt⟩
  | 3, _ => ⟨h.c 9 rfl, h.c 10 rfl, h.c 11 rfl, h.lt⟩

theorem inF4 {w : World} {b : Nat} {r1 r2 r3 r4 : Rw} (h1 : InF w b r1) (h2 : InF w b r2) (h3 : InF w b r3) (h4 : InF w b r4) : ∀ j (hj : j < [r1, r2, r3, r4].length), InF w b ([r1, r2, r3, r4][j]) := fun j hj =>
  match j, hj with
  | 0, _ => h1
  | 1, _ => h2
  | 2, _ => h3
  | 3, _ => h4

theorem endsF4_any (g c base : Nat) (r1 r2 r3 r4 : Rw) (d1 d2 d3 d4 dl dh : Dv) (w : World) (e1 : r1.v = d1) (e2 : r2.v = d2) (e3 : r3.v = d3) (e4 : r4.v = d4) (hl : rLow d1 [d2, d3, d4] = dl) (hh : rHigh d1 [d2, d3, d4] = dh)
    (E : Bx w g #[.bool r1.g, .slice r1.p (dig B16 r1.m).length r1.c, .int .i64 r1.e, .bool r2.g, .slice r2.p (dig B16 r2.m).length r2.c, .int .i64 r2.e, .bool r3.g, .slice r3.p (dig B16 r3.m).length r3.c, .int .i64 r3.e, .bool r4.g, .slice r4.p (dig B16 r4.m).length r4.c, .int .i64 r4.e]) (h1 : InF w base r1) (h2 : InF w base r2) (h3 : InF w base r3) (h4 : InF w base r4) :
    Calls Tryd.prog 21 #[.slice (some ⟨g, 0, none⟩) 4 c] w (GivesEnds w base dl dh) := by
  subst e1 e2 e3 e4 hl hh
  exact refEnds_any g c base r1 [r2, r3, r4] [r1, r2, r3, r4] rfl w 4 rfl (by simp) (elF4 E) (inF4 h1 h2 h3 h4)

theorem elF2 {w : World} {g : Nat} {r1 r2 : Rw} (h : Bx w g #[.bool r1.g, .slice r1.p (dig B16 r1.m).length r1.c, .int .i64 r1.e, .bool r2.g, .slice r2.p (dig B16 r2.m).length r2.c, .int .i64 r2.e]) : ∀ j (hj : j < [r1, r2].length), ElF w g (j * 3) ([r1, r2][j]) := fun j hj =>
  match j, hj with
  | 0, _ => ⟨h.c 0 rfl, h.c 1 rfl, h.c 2 rfl, h.lt⟩
  | 1, _ => ⟨h.c 3 rfl, h.c 4 rfl, h.c 5 rfl, h.lt⟩

theorem inF2 {w : World} {b : Nat} {r1 r2 : Rw} (h1 : InF w b r1) (h2 : InF w b r2) : ∀ j (hj : j < [r1, r2].length), InF w b ([r1, r2][j]) := fun j hj =>
  match j, hj with
  | 0, _ => h1
  | 1, _ => h2

theorem endsF2_any (g c base : Nat) (r1 r2 : Rw) (d1 d2 dl dh : Dv) (w : World) (e1 : r1.v = d1) (e2 : r2.v = d2) (hl : rLow d1 [d2] = dl) (hh : rHigh d1 [d2] = dh)
    (E : Bx w g #[.bool r1.g, .slice r1.p (dig B16 r1.m).length r1.c, .int .i64 r1.e, .bool r2.g, .slice r2.p (dig B16 r2.m).length r2.c, .int .i64 r2.e]) (h1 : InF w base r1) (h2 : InF w base r2) :
    Calls Tryd.prog 21 #[.slice (some ⟨g, 0, none⟩) 2 c] w (GivesEnds w base dl dh) := by
  subst e1 e2 hl hh
  exact refEnds_any g c base r1 [r2] [r1, r2] rfl w 2 rfl (by simp) (elF2 E) (inF2 h1 h2)

theorem ballIs_of (x y : Rw) (dx dy : Dv) (n : Int) (base : Nat) (p q : Option Addr) (c d : Nat) (w : World) (ex : x.v = dx) (ey : y.v = dy) (hx : InF w base x) (hy : InF w base y) (h0 : 0 ≤ n) (hb : n ≤ 1000000) (lx : (dig B16 (rCut dx n.toNat false).m).length ≤ 100000000) (ly : (dig B16 (rCut dy n.toNat true).m).length ≤ 100000000)
    (hp : Rd w .u32 p (dig B32 (doneL (rCut dx n.toNat false) (rCut dy n.toNat true)).m)) (hq : Rd w .u32 q (dig B32 (doneH (rCut dx n.toNat false) (rCut dy n.toNat true)).m)) :
    Calls Tryd.prog 23 #[.agg #[.bool (doneL (rCut dx n.toNat false) (rCut dy n.toNat true)).neg, .slice p (dig B32 (doneL (rCut dx n.toNat false) (rCut dy n.toNat true)).m).length c, .int .i64 (doneL (rCut dx n.toNat false) (rCut dy n.toNat true)).e, .bool (doneH (rCut dx n.toNat false) (rCut dy n.toNat true)).neg, .slice q (dig B32 (doneH (rCut dx n.toNat false) (rCut dy n.toNat true)).m).length d, .int .i64 (doneH (rCut dx n.toNat false) (rCut dy n.toNat true)).e],
      .int .i64 (errB (rCut dx n.toNat false) (rCut dy n.toNat true)), .int .i64 0, .agg #[.bool x.g, .slice x.p (dig B16 x.m).length x.c, .int .i64 x.e], .agg #[.bool y.g, .slice y.p (dig B16 y.m).length y.c, .int .i64 y.e], .int .i64 n] w fun en w' => en = .returned (.bool true) ∧ Below w.heap.size w w' := by
  subst ex ey
  have h := ballIs_ok x y n.toNat base p q c d w hx hy (by omega) lx ly hp hq
  rw [show ((n.toNat : Nat) : Int) = n by omega] at h
  exact h

end Go.Proofs.YtkooikgplpamlaaDoor
