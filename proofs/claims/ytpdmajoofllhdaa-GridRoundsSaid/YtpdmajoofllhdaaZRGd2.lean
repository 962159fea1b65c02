/- references: OfRatio, parts. -/
import Derived.Test.YtpdmajoofllhdaaZRGd1
import Derived.Test.YtpdmajoofllhdaaZRef10
import Derived.Test.YtpdmajoofllhdaaZR
namespace Go.Proofs.Ytpdmajoofllhdaa
open Go.RowKit Go.Slip

def GivesQ (w : World) (g : Bool) (x y : Nat) (e : Int) (en : Ending) (w' : World) : Prop :=
  ∃ p c q d, en = .returned (.agg #[.bool g, .slice p (dig B16 x).length c, .slice q (dig B16 y).length d, .int .i64 e]) ∧ Rd w' .i64 p (dig B16 x) ∧ (0 < (dig B16 x).length → w.heap.size ≤ blk p) ∧ Rd w' .i64 q (dig B16 y) ∧ (0 < (dig B16 y).length → w.heap.size ≤ blk q) ∧ Below w.heap.size w w'

set_option maxHeartbeats 2000000 in
set_option maxRecDepth 100000 in
theorem refOfRatio_any (a : Rin) (w : World) (ha : InR w a) (hl : a.xs.length ≤ 1000000000) (hl2 : a.ys.length ≤ 1000000000) :
    Calls Try.prog 12 #[.agg #[.bool a.g, .slice a.p a.xs.length a.c, .slice a.q a.ys.length a.d, .int .i64 a.e]] w (GivesQ w a.g (val B32 a.xs) (val B32 a.ys) a.e) := by
  have hb1 := ha.b1
  have hb2 := ha.b2
  have HX := fun W h => Lib.hid (refOf_any a.p _ a.c a.xs W h rfl hb1 hl)
  have HY := fun W h => Lib.hid (refOf_any a.q _ a.d a.ys W h rfl hb2 hl2)
  generalize val B32 a.xs = x at *
  generalize val B32 a.ys = y at *
  clear hb1 hb2
  go_enter Try.func12, Try.ntmps12
  go_wp2_with fail
  refine wp_lay2 (fun W1 hb1 hz1 Q R => ?_)
  replace ha := ha.past hb1
  have hs1 := hb1
  go_region_held3 (fun w' => w'.cell? ⟨w.heap.size, 0, none⟩ = some (.bool a.g) ∧ w'.cell? ⟨w.heap.size, 1, none⟩ = some (.slice a.p a.xs.length a.c) ∧ w'.cell? ⟨w.heap.size, 2, none⟩ = some (.slice a.q a.ys.length a.d) ∧ w'.cell? ⟨w.heap.size, 3, none⟩ = some (.int .i64 a.e))
    (first | with_reducible exact Q.e4 | with_reducible exact Q.drew.e4 | with_reducible exact (Q.drew.past hbx).e4 | with_reducible exact (Q.drew.past hby).e4 | with_reducible exact ((Q.drew.past hbx).past hby).e4 | with_reducible exact ((Q.drew.past hby).past hbx).e4 | with_reducible exact (((Q.drew.past hbx).past hby).only (only4 _ _ _ _ _ _) (by omega)).e4 | with_reducible exact (((Q.drew.past hby).past hbx).only (only4 _ _ _ _ _ _) (by omega)).e4)
    (first
      | (go_at_call_of 29 (Value.slice a.p a.xs.length a.c); refine (HX _ ?_).out.mono ?_; (first | exact ha.r1.drew | exact ha.r1.drew.past hby); rintro ex wx ⟨px, cx, rfl, hrx, hcx, hfx, hbx⟩; (first | (have hRR := ((R.drew.past hby).past hbx); obtain ⟨R_0, R_1, R_2, R_3⟩ := hRR.e4; have R_f0 := hRR.f 0; have R_f1 := hRR.f 1; have R_f2 := hRR.f 2; have R_f3 := hRR.f 3) | skip))
      | (go_at_call_of 29 (Value.slice a.q a.ys.length a.d); refine (HY _ ?_).out.mono ?_; (first | exact ha.r2.drew | exact ha.r2.drew.past hbx); rintro ey wy ⟨py, cy, rfl, hry, hcy, hfy, hby⟩; (first | (have hRR := ((R.drew.past hbx).past hby); obtain ⟨R_0, R_1, R_2, R_3⟩ := hRR.e4; have R_f0 := hRR.f 0; have R_f1 := hRR.f 1; have R_f2 := hRR.f 2; have R_f3 := hRR.f 3) | skip)))
  all_goals (go_wp2_with fail)
  all_goals (refine bodyPost_ret (v := .agg #[.bool a.g, .slice px (dig B16 x).length cx, .slice py (dig B16 y).length cy, .int .i64 a.e]) (by simp [results, Try.results12, go_sem, R_0, R_1, R_2, R_3]) rfl ?_)
  all_goals (have hzd : W1.drew.heap.size = W1.heap.size := rfl; have hzx := hbx.size; have hzy := hby.size)
  · have hO := only4 wy (w.heap.size + 1) (.bool a.g) (.slice px (dig B16 x).length cx) (.slice py (dig B16 y).length cy) (.int .i64 a.e)
    exact ⟨px, cx, py, cy, rfl, (hrx.past hby).only hO (fun h => by have := hfx h; omega), fun h => by have := hfx h; omega, hry.only hO (fun h => by have := hfy h; omega), fun h => by have := hfy h; omega,
      ((hs1.drew.trans (hbx.mono (by omega))).trans (hby.mono (by omega))).trans (hO.below (by omega))⟩

theorem up_len16 (a N n : Nat) (h : (dig B16 a).length ≤ n) : (dig B16 (a * 2 ^ N)).length ≤ n + (N / 16 + 1) := by
  refine Nat.le_trans (dig_len_mul B16_two a (2 ^ N)) ?_
  rw [dig_len_pow2]; omega
theorem numP_len16 {a : Nat} {n : Int} (h : (dig B16 a).length ≤ 2000000) (hn : -10000000 ≤ n ∧ n ≤ 10000000) : (dig B16 (numP a n)).length ≤ 2700000 := by
  have := up_len16 a n.toNat _ h; unfold numP; omega
theorem denP_len16 {a : Nat} {n : Int} (h : (dig B16 a).length ≤ 2000000) (hn : -10000000 ≤ n ∧ n ≤ 10000000) : (dig B16 (denP a n)).length ≤ 2700000 := by
  have := up_len16 a (-n).toNat _ h; unfold denP; omega

/-- Quotient, rest, and over what: digits to the base of 65536. -/
def GivesR3 (w : World) (q0 : Option Addr) (x y z : Nat) (en : Ending) (w' : World) : Prop :=
  ∃ p c q d r f, en = .returned (.tuple #[.slice p (dig B16 x).length c, .slice q (dig B16 y).length d, .slice r (dig B16 z).length f]) ∧ Rd w' .i64 p (dig B16 x) ∧ (0 < (dig B16 x).length → w.heap.size ≤ blk p) ∧
    Rd w' .i64 q (dig B16 y) ∧ (0 < (dig B16 y).length → w.heap.size ≤ blk q) ∧ Rd w' .i64 r (dig B16 z) ∧ (r = q0 ∨ (0 < (dig B16 z).length → w.heap.size ≤ blk r)) ∧ Below w.heap.size w w'

set_option maxHeartbeats 1000000 in
theorem refParts_any (g : Bool) (p q : Option Addr) (c d : Nat) (a b : Nat) (x n : Int) (w : World) (hp : Rd w .i64 p (dig B16 a)) (hq : Rd w .i64 q (dig B16 b))
    (hl : (dig B16 a).length ≤ 2000000) (hl2 : (dig B16 b).length ≤ 2000000) (hb : 0 < b) (hn : -10000000 ≤ x - n ∧ x - n ≤ 10000000) (hx : -1000000000 ≤ x ∧ x ≤ 1000000000) :
    Calls Try.prog 23 #[.agg #[.bool g, .slice p (dig B16 a).length c, .slice q (dig B16 b).length d, .int .i64 x], .int .i64 n] w (GivesR3 w q (qP a b (x - n)) (rP a b (x - n)) (denP b (x - n))) := by
  have l1 := numP_len16 hl hn
  have l2 := denP_len16 hl2 hn
  have h0 := denP_pos hb (x - n)
  unfold qP rP
  by_cases h : n ≤ x
  · obtain ⟨N, hN⟩ : ∃ N : Nat, x - n = N := ⟨(x - n).toNat, by omega⟩
    have hNb : N ≤ 10000000 := by omega
    have e1 : denP b (x - n) = b := by rw [hN]; unfold denP; rw [show (-(N : Int)).toNat = 0 by omega, Nat.pow_zero, Nat.mul_one]
    have HN := Lib.hid (show numP a (x - n) = a * 2 ^ N by rw [hN]; unfold numP; rw [Int.toNat_natCast])
    rw [e1] at l2 h0 ⊢
    generalize numP a (x - n) = X at *
    have HNN := Lib.hid hN
    clear e1 hN
    go_enter Try.func23, Try.ntmps23
    go_wp2_with fail
    refine wp_lay1 (fun W1 hb1 hz1 Q => ?_)
    replace hp := hp.past hb1
    replace hq := hq.past hb1
    have hs1 := hb1
    obtain ⟨Q_0, Q_1, Q_2, Q_3⟩ := Q.e4
    go_quiet (fail)
    clear Q_0 Q_1 Q_2 Q_3
    have hb2 := below_drewN (Below.refl (W1).heap.size (W1)) nq
    replace Q := Q.past hb2
    replace hp := hp.past hb2
    replace hq := hq.past hb2
    have hs2 := hs1.trans (hb2.mono hs1.size)
    generalize (W1).drewN nq = w2 at *
    have hN := HNN.out
    obtain ⟨Q_0, Q_1, Q_2, Q_3⟩ := Q.e4
    go_wp2_with fail
    clear Q_0 Q_1 Q_2 Q_3
    clear hN
    ((with_reducible refine (refUp_any p _ c a N _ hp rfl (by omega) (by omega)).mono ?_))
    rintro e3 w3 ⟨p1, c1, rfl, ho1, hc1, hf1, hb3⟩
    replace Q := Q.past hb3
    replace hp := hp.past hb3
    replace hq := hq.past hb3
    have hs3 := hs2.trans (hb3.mono hs2.size)
    rw [← HN.out] at ho1 hf1 ⊢
    obtain ⟨Q_0, Q_1, Q_2, Q_3⟩ := Q.e4
    go_wp2_with fail
    clear Q_0 Q_1 Q_2 Q_3
    ((with_reducible refine (refInto_all p1 q _ _ c1 d X b _ ho1 hq rfl rfl (by omega) (by omega) h0).mono ?_))
    rintro e4 w4 ⟨p2, c2, q2, d2, rfl, hr2, hc2, hf2, hr3, hc3, hf3, hb4⟩
    replace Q := Q.past hb4
    replace hp := hp.past hb4
    replace hq := hq.past hb4
    replace ho1 := ho1.past hb4
    have hs4 := hs3.trans (hb4.mono hs3.size)
    go_wp2_with fail
    refine bodyPost_ret (v := .tuple #[.slice p2 (dig B16 (X / b)).length c2, .slice q2 (dig B16 (X % b)).length d2, .slice q (dig B16 b).length d]) (by simp [results, Try.results23, go_sem]) rfl ?_
    have hz := hs3.size
    exact ⟨p2, c2, q2, d2, q, d, rfl, hr2, fun h => Nat.le_trans hz (hf2 h), hr3, fun h => Nat.le_trans hz (hf3 h), hq, .inl rfl, hs4⟩
  · obtain ⟨N, hN⟩ : ∃ N : Nat, n - x = N := ⟨(n - x).toNat, by omega⟩
    have hNb : N ≤ 10000000 := by omega
    have e1 : numP a (x - n) = a := by unfold numP; rw [show (x - n).toNat = 0 by omega, Nat.pow_zero, Nat.mul_one]
    have HN := Lib.hid (show denP b (x - n) = b * 2 ^ N by unfold denP; rw [show (-(x - n)).toNat = N by omega])
    rw [e1] at l1 ⊢
    generalize denP b (x - n) = X at *
    have HNN := Lib.hid hN
    clear e1 hN
    go_enter Try.func23, Try.ntmps23
    go_wp2_with fail
    refine wp_lay1 (fun W1 hb1 hz1 Q => ?_)
    replace hp := hp.past hb1
    replace hq := hq.past hb1
    have hs1 := hb1
    obtain ⟨Q_0, Q_1, Q_2, Q_3⟩ := Q.e4
    go_quiet (fail)
    clear Q_0 Q_1 Q_2 Q_3
    have hb2 := below_drewN (Below.refl (W1).heap.size (W1)) nq
    replace Q := Q.past hb2
    replace hp := hp.past hb2
    replace hq := hq.past hb2
    have hs2 := hs1.trans (hb2.mono hs1.size)
    generalize (W1).drewN nq = w2 at *
    have hN := HNN.out
    obtain ⟨Q_0, Q_1, Q_2, Q_3⟩ := Q.e4
    go_wp2_with fail
    clear Q_0 Q_1 Q_2 Q_3
    clear hN
    ((with_reducible refine (refUp_any q _ d b N _ hq rfl (by omega) (by omega)).mono ?_))
    rintro e3 w3 ⟨p1, c1, rfl, ho1, hc1, hf1, hb3⟩
    replace Q := Q.past hb3
    replace hp := hp.past hb3
    replace hq := hq.past hb3
    have hs3 := hs2.trans (hb3.mono hs2.size)
    rw [← HN.out] at ho1 hf1 ⊢
    obtain ⟨Q_0, Q_1, Q_2, Q_3⟩ := Q.e4
    go_wp2_with fail
    clear Q_0 Q_1 Q_2 Q_3
    ((with_reducible refine (refInto_all p p1 _ _ c c1 a X _ hp ho1 rfl rfl (by omega) (by omega) h0).mono ?_))
    rintro e4 w4 ⟨p2, c2, q2, d2, rfl, hr2, hc2, hf2, hr3, hc3, hf3, hb4⟩
    replace Q := Q.past hb4
    replace hp := hp.past hb4
    replace hq := hq.past hb4
    replace ho1 := ho1.past hb4
    have hs4 := hs3.trans (hb4.mono hs3.size)
    go_wp2_with fail
    refine bodyPost_ret (v := .tuple #[.slice p2 (dig B16 (a / X)).length c2, .slice q2 (dig B16 (a % X)).length d2, .slice p1 (dig B16 X).length c1]) (by simp [results, Try.results23, go_sem]) rfl ?_
    have hz := hs3.size
    have hz2 := hs2.size
    exact ⟨p2, c2, q2, d2, p1, c1, rfl, hr2, fun h => Nat.le_trans hz (hf2 h), hr3, fun h => Nat.le_trans hz (hf3 h), ho1, .inr fun h => Nat.le_trans hz2 (hf1 h), hs4⟩

end Go.Proofs.Ytpdmajoofllhdaa
