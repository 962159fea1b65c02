/- ball: quotient.
   ball: rows of numbers; how far what is cut, and a quotient, goes. -/
import Derived.Test.YtkooikgplpamlaaDoorZG
import Derived.Test.YtkooikgplpamlaaDoorZLimb13
import Derived.Maps.AppendAt
namespace Go.Proofs.YtkooikgplpamlaaDoor
open Go.RowKit Go.Slip

theorem signW_any (x : Rw) (w : World) :
    Calls Tryd.prog 54 #[.agg #[.bool x.g, .slice x.p (dig B32 x.m).length x.c, .int .i64 x.e]] w fun en w' => en = .returned (.int .i64 (dSign x.v)) ∧ Below w.heap.size w w' :=
  signD_any x.g x.p _ x.c x.e x.m w rfl

/-- One store of three cells into the box of the result. -/
theorem givesD_put {w wk : World} {base b : Nat} {d : Dv} {p : Option Addr} {c : Nat} {v0 v1 v2 : Value} (hs : Below w.heap.size w wk) (ho : Own wk base .u32 77 p c (dig B32 d.m)) (hB : w.heap.size ≤ b)
    (hne : p.isSome = true → blk p ≠ b) :
    GivesD w base d (.returned (.agg #[.bool d.neg, .slice p (dig B32 d.m).length c, .int .i64 d.e])) (((wk.setCell ⟨b, 0, none⟩ v0).setCell ⟨b, 1, none⟩ v1).setCell ⟨b, 2, none⟩ v2) :=
  have hO := only3 wk b v0 v1 v2
  ⟨p, c, rfl, ho.only hO hne, hs.trans (hO.below hB)⟩

theorem dSign_m {x : Rw} : dSign x.v = 0 ↔ x.m = 0 := by
  unfold dSign Rw.v
  simp only
  split
  · simp [*]
  · split <;> simp [*]

theorem shl1_any (p : Option Addr) (c : Nat) (a : Nat) (w : World) (hp : Rd w .u32 p (dig B32 a)) (hl : (dig B32 a).length ≤ 1000000000) :
    Calls Tryd.prog 92 #[.slice p (dig B32 a).length c, .int .i64 1] w (Gives w .u32 77 (dig B32 (a * 2 ^ 1))) := shl_any p _ c a 1 w hp rfl hl (by omega)

theorem of1_any (w : World) : Calls Tryd.prog 108 #[.int .i64 1] w (Gives w .u32 77 (dig B32 1)) := of_any 1 w (by omega)

theorem bare_neg {g : Bool} {m : Nat} {e : Int} (h : 0 < m) : bare ⟨g, m, e⟩ = ⟨g, (bare ⟨false, m, e⟩).m, (bare ⟨false, m, e⟩).e⟩ := by
  rw [bare_pos h, bare_pos h]

theorem _root_.Go.Slip.Bx.put0of3 {w : World} {b : Nat} {v0 v1 v2 : Value} (h : Bx w b #[v0, v1, v2]) (u : Value) : Bx (w.setCell ⟨b, 0, none⟩ u) b #[u, v1, v2] := h.set 0 u
theorem wp_put0of3 {P : Program} {c : Code} {Q : Exit → Act → World → Prop} {a : Act} {w : World} {b : Nat} {v0 v1 v2 u : Value} (hX : Bx w b #[v0, v1, v2]) (h : ∀ W, Only b w W → Bx W b #[u, v1, v2] → c.wp P Q a W) : c.wp P Q a (w.setCell ⟨b, 0, none⟩ u) :=
  h _ (only_set _ _ _ _) (hX.put0of3 u)


set_option maxHeartbeats 4000000 in
set_option maxRecDepth 100000 in
theorem quot_any (x y : Rw) (b base base' : Nat) (up : Bool) (w : World) (hx : InW w base x) (hy : InW w base' y) (hy0 : 0 < y.m) (hb : b ≤ 5000) (hxl : (dig B32 x.m).length ≤ 4000) (hyl : (dig B32 y.m).length ≤ 4000) (hxe : -200000 ≤ x.e ∧ x.e ≤ 200000) (hye : -200000 ≤ y.e ∧ y.e ≤ 200000) (hT : TabW w) (hbase : base ≤ w.heap.size) :
    Calls Tryd.prog 93 #[.agg #[.bool x.g, .slice x.p (dig B32 x.m).length x.c, .int .i64 x.e], .agg #[.bool y.g, .slice y.p (dig B32 y.m).length y.c, .int .i64 y.e], .int .i64 b, .bool up] w (GivesD w base (pOver x.v y.v b up)) := by
  have HS := fun W => Lib.hid (signW_any x W)
  have HJ := Lib.hid (show pOver x.v y.v b up = if x.m = 0 then x.v else pCut (bare (stickyQ (xor x.g y.g) x.m y.m (b + 2 + blen y.m - blen x.m) 1 (x.e - y.e))) b up from rfl)
  have hS0 := dSign_m (x := x)
  have hSb := dSign_bd x.v
  obtain ⟨S, hS⟩ : ∃ S, dSign x.v = S := ⟨_, rfl⟩
  rw [hS] at HS hS0 hSb
  clear hS
  by_cases h0 : x.m = 0
  · have t1 : (S == 0) = true := by simpa using hS0.2 h0
    have HK := Lib.hid (HJ.out.trans (if_pos h0))
    clear HJ hS0 h0
    go_enter Tryd.func93, Tryd.ntmps93
    go_wp2_with fail
    refine calls_lay3 (fun W1 hb1 hz1 A B R => ?_)
    have hs1 := hb1
    obtain ⟨A_0, A_1, A_2⟩ := A.e3
    go_wp2_with fail
    clear A_0 A_1 A_2
    ((with_reducible refine ((HS _).out).mono ?_))
    rintro e2 w2 ⟨rfl, hb2⟩
    replace A := A.past hb2
    replace B := B.past hb2
    replace R := R.past hb2
    have hs2 := hs1.trans (hb2.mono hs1.size)
    have hxl := fun h => (hx.ow.blk_lt h).2
    obtain ⟨A_0, A_1, A_2⟩ := A.e3
    obtain ⟨R_0, R_1, R_2⟩ := R.e3
    have R_f0 := R.f 0
    have R_f1 := R.f 1
    have R_f2 := R.f 2
    go_wp2_with fail
    clear A_0 A_1 A_2 R_0 R_1 R_2 R_f0 R_f1 R_f2
    obtain ⟨R_0, R_1, R_2⟩ := R.e3
    refine bodyPost_ret (v := .agg #[.bool x.g, .slice x.p (dig B32 x.m).length x.c, .int .i64 x.e]) (by simp [results, Tryd.results93, go_sem, R_0, R_1, R_2]) rfl ?_
    rw [HK.out]
    exact givesD_put (d := x.v) hs2 (hx.ow.past hs2) (by omega) (fun h => by have := hxl h; omega)
  · have t1 : (S == 0) = false := beq_eq_false_iff_ne.2 (fun h => h0 (hS0.1 h))
    have HK := Lib.hid (HJ.out.trans (if_neg h0))
    have hx0 : 0 < x.m := by omega
    clear HJ hS0 h0
    have hLX := blen_len32 x.m
    have hLY := blen_len32 y.m
    have HLX := fun W h => Lib.hid (len_any x.p _ x.c x.m W h rfl (by omega))
    have HLY := fun W h => Lib.hid (len_any y.p _ y.c y.m W h rfl (by omega))
    obtain ⟨N, hN⟩ : ∃ N, N = b + 2 + blen y.m - blen x.m := ⟨_, rfl⟩
    rw [← hN] at HK
    replace HK := Lib.hid (HK.out.trans (show pCut (bare (stickyQ (xor x.g y.g) x.m y.m N 1 (x.e - y.e))) b up = pCut (bare ⟨xor x.g y.g, 2 ^ 1 * (x.m * 2 ^ N / y.m) + (if x.m * 2 ^ N % y.m ≠ 0 then 1 else 0), x.e - y.e - (N : Int) - 1⟩) b up from rfl))
    have HQB := Lib.hid (quot_bits (X := x.m) (Y := y.m) (n := N) (b := b) hx0 hy0 (by omega))
    generalize blen x.m = LX at *
    generalize blen y.m = LY at *
    have HSX := fun W h => Lib.hid (shl_any x.p _ x.c x.m N W h rfl (by omega) (by omega))
    have lXN : (dig B32 (x.m * 2 ^ N)).length ≤ 8300 := by have := len_shl x.m N; omega
    generalize x.m * 2 ^ N = XN at *
    go_enter Tryd.func93, Tryd.ntmps93
    go_wp2_with fail
    refine calls_lay3 (fun W1 hb1 hz1 A B R => ?_)
    replace hx := hx.past hb1
    replace hy := hy.past hb1
    replace hT := hT.past hb1
    have hs1 := hb1
    obtain ⟨A_0, A_1, A_2⟩ := A.e3
    go_wp2_with fail
    clear A_0 A_1 A_2
    ((with_reducible refine ((HS _).out).mono ?_))
    rintro e2 w2 ⟨rfl, hb2⟩
    replace A := A.past hb2
    replace B := B.past hb2
    replace R := R.past hb2
    replace hx := hx.past hb2
    replace hy := hy.past hb2
    replace hT := hT.past hb2
    have hs2 := hs1.trans (hb2.mono hs1.size)
    obtain ⟨A_0, A_1, A_2⟩ := A.e3
    obtain ⟨B_0, B_1, B_2⟩ := B.e3
    go_upto_region 4 with (fail)
    clear A_0 A_1 A_2 B_0 B_1 B_2
    have e1 : IntKind.i64.wrap ((b : Int) + 2) = (b : Int) + 2 := IntWalk.i64_in _ (by omega)
    have e2 : IntKind.i64.wrap ((b : Int) + 2 + (LY : Int)) = (b : Int) + 2 + (LY : Int) := IntWalk.i64_in _ (by omega)
    have e3 : IntKind.i64.wrap ((b : Int) + 2 + (LY : Int) - (LX : Int)) = (b : Int) + 2 + (LY : Int) - (LX : Int) := IntWalk.i64_in _ (by omega)
    have m1 : max 0 ((b : Int) + 2 + (LY : Int) - (LX : Int)) = (N : Int) := by omega
    have HN := Lib.hid hN
    have hN2 : N ≤ 134000 := by omega
    clear hN
    go_region_held3 (fun w' => (w'.cell? ⟨w.heap.size, 0, none⟩ = some (.bool x.g) ∧ w'.cell? ⟨w.heap.size, 1, none⟩ = some (.slice x.p (dig B32 x.m).length x.c) ∧ w'.cell? ⟨w.heap.size, 2, none⟩ = some (.int .i64 x.e)) ∧
        (w'.cell? ⟨w.heap.size + 1, 0, none⟩ = some (.bool y.g) ∧ w'.cell? ⟨w.heap.size + 1, 1, none⟩ = some (.slice y.p (dig B32 y.m).length y.c) ∧ w'.cell? ⟨w.heap.size + 1, 2, none⟩ = some (.int .i64 y.e)))
      (first
        | with_reducible exact ⟨A.e3, B.e3⟩
        | with_reducible exact ⟨A.drew.e3, B.drew.e3⟩)
      (first
        | (go_at_call_of 106 (Value.slice x.p (dig B32 x.m).length x.c); ((with_reducible refine (HLX _ hx.ow.rd.drew).out.mono ?_)); rintro ex wx ⟨rfl, rfl⟩)
        | (go_at_call_of 106 (Value.slice y.p (dig B32 y.m).length y.c); ((with_reducible refine (HLY _ hy.ow.rd.drew).out.mono ?_)); rintro ey wy ⟨rfl, rfl⟩))
    clear e1 e2 e3 m1
    go_wp2_with fail
    have hs3 := hs2.drew
    replace A := A.drew
    replace B := B.drew
    replace R := R.drew
    replace hx := hx.drew
    replace hy := hy.drew
    replace hT := hT.drew
    generalize w2.drew = W3 at *
    have hzd : W3.drew.heap.size = W3.heap.size := rfl
    have HZD := Lib.hid hzd
    clear hzd
    obtain ⟨Q, hQ⟩ : ∃ Q, Q = XN / y.m := ⟨_, rfl⟩
    obtain ⟨T, hT0⟩ : ∃ T, T = XN % y.m := ⟨_, rfl⟩
    have HDV := fun W p c h1 q d h2 => Lib.hid (limbDiv_any p q _ _ c d XN y.m W h1 h2 rfl rfl (by omega) (by omega) hy0)
    have lQ : (dig B32 Q).length ≤ 8300 := by rw [hQ]; exact Nat.le_trans (dig_len_mono B32_two (Nat.div_le_self _ _)) lXN
    rw [← hQ] at HDV HQB HK
    rw [← hT0] at HDV HK
    have HQ := Lib.hid hQ
    have HT := Lib.hid hT0
    clear hQ hT0
    go_region_held3 (fun w' => (w'.cell? ⟨w.heap.size, 0, none⟩ = some (.bool x.g) ∧ w'.cell? ⟨w.heap.size, 1, none⟩ = some (.slice x.p (dig B32 x.m).length x.c) ∧ w'.cell? ⟨w.heap.size, 2, none⟩ = some (.int .i64 x.e)) ∧
        (w'.cell? ⟨w.heap.size + 1, 0, none⟩ = some (.bool y.g) ∧ w'.cell? ⟨w.heap.size + 1, 1, none⟩ = some (.slice y.p (dig B32 y.m).length y.c) ∧ w'.cell? ⟨w.heap.size + 1, 2, none⟩ = some (.int .i64 y.e)))
      (first
        | with_reducible exact ⟨A.e3, B.e3⟩
        | with_reducible exact ⟨A.drew.e3, B.drew.e3⟩
        | with_reducible exact ⟨(A.drew.past hbx).e3, (B.drew.past hbx).e3⟩
        | with_reducible exact ⟨((A.drew.past hbx).past hby).e3, ((B.drew.past hbx).past hby).e3⟩)
      (first
        | (go_at_call 92; ((with_reducible refine (HSX _ hx.ow.rd.drew).out.mono ?_)); rintro ex wx ⟨px, cx, rfl, hox, hbx⟩)
        | (go_at_call 116; ((with_reducible refine (HDV _ _ _ hox.rd _ _ (hy.ow.rd.drew.past hbx)).out.mono ?_)); rintro ey wy ⟨pq, cq, pr, cr, rfl, hoq, hor, hby, -⟩))
    have hs4 := (hs3.drew.trans (hbx.mono hs3.size)).trans (hby.mono (Nat.le_trans hs3.size hbx.size))
    replace A := (A.drew.past hbx).past hby
    replace B := (B.drew.past hbx).past hby
    replace R := (R.drew.past hbx).past hby
    replace hT := (hT.drew.past hbx).past hby
    clear HDV HSX HLX HLY HS hx hy
    go_wp2_with fail
    rw [show xor x.g y.g = !(x.g == y.g) by cases x.g <;> cases y.g <;> rfl] at HK
    generalize (!(x.g == y.g)) = ng at *
    have lQ2 : (dig B32 (Q * 2 ^ 1)).length ≤ 8310 := by have := len_shl Q 1; omega
    have HSQ := fun W p c h => Lib.hid (shl1_any p c Q W h (by omega))
    have HQ2 := Lib.hid (show Q * 2 ^ 1 = 2 ^ 1 * Q from Nat.mul_comm _ _)
    have HQ0 := Lib.hid (show 0 < Q * 2 ^ 1 by have h1 := HQB.out; have h2 : 0 < Q := (blen_pos Q).1 (by omega); omega)
    generalize Q * 2 ^ 1 = Q2 at *
    have hRl0 := R.lt
    ((with_reducible refine ((HSQ _ pq cq hoq.rd).out).mono ?_))
    rintro e5 w5 ⟨p5, c5, rfl, ho5, hb5⟩
    replace A := A.past hb5
    replace B := B.past hb5
    replace R := R.past hb5
    replace hT := hT.past hb5
    replace hor := hor.past hb5
    have hs5 := hs4.trans (hb5.mono hs4.size)
    have hs5s := hs5.size
    by_cases hT0 : T = 0
    · have HM := Lib.hid (show Q2 = 2 ^ 1 * Q + (if T ≠ 0 then 1 else 0) by rw [if_neg (by omega), HQ2.out]; rfl)
      have hTL : (dig B32 T).length = 0 := (dig_len_zero B32_two T).2 hT0
      have t2 : decide (0 < (dig B32 T).length) = false := decide_eq_false (by omega)
      have hM0 := HQ0.out
      have lM : (dig B32 Q2).length ≤ 8500 := by omega
      clear hTL hT0
      obtain ⟨A_0, A_1, A_2⟩ := A.e3
      obtain ⟨B_0, B_1, B_2⟩ := B.e3
      go_wp2_with fail
      clear A_0 A_1 A_2 B_0 B_1 B_2
      obtain ⟨r0, hr0⟩ : ∃ r0, bare ⟨false, Q2, x.e - y.e - (N : Int) - 1⟩ = r0 := ⟨_, rfl⟩
      have HW := fun W h1 h2 => Lib.hid (whole_any p5 _ c5 (x.e - y.e - (N : Int) - 1) (Q2) W h1 rfl (ho5).le_cap (by omega) (by omega) h2)
      have hr1 := bare_len B32_two ⟨false, Q2, x.e - y.e - (N : Int) - 1⟩
      have hr2 := bare_e ⟨false, Q2, x.e - y.e - (N : Int) - 1⟩ (n := 8500) (by simp only; omega) (lo := -600000) (hi := 400000) (by simp only; omega) (by simp only; omega) (by omega) (by omega)
      rw [hr0] at HW hr1 hr2
      simp only at hr1
      have HKK := Lib.hid (HK.out.trans (congrArg (fun z => pCut z b up) (show bare ⟨ng, 2 ^ 1 * Q + (if T ≠ 0 then 1 else 0), x.e - y.e - (N : Int) - 1⟩ = ⟨ng, r0.m, r0.e⟩ by rw [← HM.out, bare_neg hM0, hr0])))
      clear hr0 HK
      ((with_reducible refine (HW _ (ho5).rd hT).out.mono ?_))
      rintro e8 w8 ⟨p8, c8, rfl, ho8, hb8⟩
      have hs8 := (hs5).trans (hb8.mono (hs5).size)
      have hzw8 := Nat.le_trans (hs5).size hb8.size
      have hzw5 := Nat.le_trans (hs5).size (Nat.le_refl (w5).heap.size)
      have hR8 := R.lt
      replace R := R.past hb8
      replace hT := hT.past hb8
      have hR9 := R.lt
      have hp8 : p8.isSome = true → blk p8 < w8.heap.size := fun h => (ho8.blk_lt h).2
      go_upto_region 10 with (fail)
      refine wp_lay1 (fun W9 hb9 hz9 O => ?_)
      replace R := R.past hb9
      replace hT := hT.past hb9
      replace ho8 := ho8.past hb9
      have hs9 := hs8.trans (hb9.mono hs8.size)
      obtain ⟨O_0, O_1, O_2⟩ := O.e3
      have O_f0 := O.f 0
      have O_f1 := O.f 1
      have O_f2 := O.f 2
      go_upto_region 11 with (fail)
      clear O_0 O_1 O_2 O_f0 O_f1 O_f2
      refine wp_put0of3 O (fun W10 hO10 O => ?_)
      replace R := R.only hO10 (by omega)
      replace ho8 := ho8.only hO10 (fun h => by have := hp8 h; omega)
      replace hT := TabW.below hT (hO10.below (B := w8.heap.size) (Nat.le_refl _)) (by omega)
      have hs10 := hs9.trans (hO10.below (B := w.heap.size) hzw8)
      have hz10 : (w5).heap.size ≤ W10.heap.size := by rw [hO10.size]; exact Nat.le_trans hb8.size hb9.size
      obtain ⟨O_0, O_1, O_2⟩ := O.e3
      go_wp2_with fail
      clear O_0 O_1 O_2
      ((with_reducible refine ((cutW_any ⟨ng, p8, c8, r0.m, r0.e⟩ (w5).heap.size b up _ ⟨ho8, by simp only; omega, by simp only; omega, by simp only; omega⟩ (by omega) hT hz10)).mono ?_))
      rintro e11 w11 ⟨p11, c11, rfl, ho11, hb11⟩
      replace R := R.past hb11
      replace O := O.past hb11
      replace hT := hT.past hb11
      have hs11 := hs10.trans (hb11.mono hs10.size)
      generalize hrr : pCut (Rw.v ⟨ng, p8, c8, r0.m, r0.e⟩) b up = rr at *
      have HRR := Lib.hid (HKK.out.trans hrr)
      clear hrr
      obtain ⟨R_0, R_1, R_2⟩ := R.e3
      have R_f0 := R.f 0
      have R_f1 := R.f 1
      have R_f2 := R.f 2
      go_wp2_with fail
      clear R_0 R_1 R_2 R_f0 R_f1 R_f2
      obtain ⟨R_0, R_1, R_2⟩ := R.e3
      refine bodyPost_ret (v := .agg #[.bool rr.neg, .slice p11 (dig B32 rr.m).length c11, .int .i64 rr.e]) (by simp [results, Tryd.results93, go_sem, R_0, R_1, R_2]) rfl ?_
      rw [HRR.out]
      exact givesD_put hs11 (ho11.mono (Nat.le_trans hbase hzw5)) (by omega) (fun h => by have := (ho11.blk_lt h).1; omega)
    · have hTL := dig_len_zero B32_two T
      have t2 : decide (0 < (dig B32 T).length) = true := decide_eq_true (by omega)
      have HM := Lib.hid (show Q2 + 1 = 2 ^ 1 * Q + (if T ≠ 0 then 1 else 0) by rw [if_pos hT0, HQ2.out])
      have hM0 : 0 < Q2 + 1 := by omega
      have l1 : (dig B32 1).length ≤ 1 := (dig_len_le B32_two 1 1).2 (by decide)
      have lM : (dig B32 (Q2 + 1)).length ≤ 8500 := by have := dig_len_add B32_two Q2 1; omega
      clear hTL hT0
      go_wp2_with fail
      ((with_reducible refine ((of1_any _)).mono ?_))
      rintro e6 w6 ⟨p6, c6, rfl, ho6, hb6⟩
      replace A := A.past hb6
      replace B := B.past hb6
      replace R := R.past hb6
      replace hT := hT.past hb6
      replace hor := hor.past hb6
      replace ho5 := ho5.past hb6
      have hs6 := hs5.trans (hb6.mono hs5.size)
      go_wp2_with fail
      ((with_reducible refine ((add_any p5 p6 _ _ c5 c6 Q2 1 _ ho5.rd ho6.rd rfl rfl (by omega) (by omega))).mono ?_))
      rintro e7 w7 ⟨p7, c7, rfl, ho7, hb7⟩
      replace A := A.past hb7
      replace B := B.past hb7
      replace R := R.past hb7
      replace hT := hT.past hb7
      replace hor := hor.past hb7
      replace ho5 := ho5.past hb7
      replace ho6 := ho6.past hb7
      have hs7 := hs6.trans (hb7.mono hs6.size)
      obtain ⟨A_0, A_1, A_2⟩ := A.e3
      obtain ⟨B_0, B_1, B_2⟩ := B.e3
      go_wp2_with fail
      clear A_0 A_1 A_2 B_0 B_1 B_2
      obtain ⟨r0, hr0⟩ : ∃ r0, bare ⟨false, (Q2 + 1), x.e - y.e - (N : Int) - 1⟩ = r0 := ⟨_, rfl⟩
      have HW := fun W h1 h2 => Lib.hid (whole_any p7 _ c7 (x.e - y.e - (N : Int) - 1) ((Q2 + 1)) W h1 rfl (ho7).le_cap (by omega) (by omega) h2)
      have hr1 := bare_len B32_two ⟨false, (Q2 + 1), x.e - y.e - (N : Int) - 1⟩
      have hr2 := bare_e ⟨false, (Q2 + 1), x.e - y.e - (N : Int) - 1⟩ (n := 8500) (by simp only; omega) (lo := -600000) (hi := 400000) (by simp only; omega) (by simp only; omega) (by omega) (by omega)
      rw [hr0] at HW hr1 hr2
      simp only at hr1
      have HKK := Lib.hid (HK.out.trans (congrArg (fun z => pCut z b up) (show bare ⟨ng, 2 ^ 1 * Q + (if T ≠ 0 then 1 else 0), x.e - y.e - (N : Int) - 1⟩ = ⟨ng, r0.m, r0.e⟩ by rw [← HM.out, bare_neg hM0, hr0])))
      clear hr0 HK
      ((with_reducible refine (HW _ (ho7).rd hT).out.mono ?_))
      rintro e8 w8 ⟨p8, c8, rfl, ho8, hb8⟩
      have hs8 := (hs7).trans (hb8.mono (hs7).size)
      have hzw8 := Nat.le_trans (hs7).size hb8.size
      have hzw5 := Nat.le_trans (hs7).size (Nat.le_refl (w7).heap.size)
      have hR8 := R.lt
      replace R := R.past hb8
      replace hT := hT.past hb8
      have hR9 := R.lt
      have hp8 : p8.isSome = true → blk p8 < w8.heap.size := fun h => (ho8.blk_lt h).2
      go_upto_region 10 with (fail)
      refine wp_lay1 (fun W9 hb9 hz9 O => ?_)
      replace R := R.past hb9
      replace hT := hT.past hb9
      replace ho8 := ho8.past hb9
      have hs9 := hs8.trans (hb9.mono hs8.size)
      obtain ⟨O_0, O_1, O_2⟩ := O.e3
      have O_f0 := O.f 0
      have O_f1 := O.f 1
      have O_f2 := O.f 2
      go_upto_region 11 with (fail)
      clear O_0 O_1 O_2 O_f0 O_f1 O_f2
      refine wp_put0of3 O (fun W10 hO10 O => ?_)
      replace R := R.only hO10 (by omega)
      replace ho8 := ho8.only hO10 (fun h => by have := hp8 h; omega)
      replace hT := TabW.below hT (hO10.below (B := w8.heap.size) (Nat.le_refl _)) (by omega)
      have hs10 := hs9.trans (hO10.below (B := w.heap.size) hzw8)
      have hz10 : (w7).heap.size ≤ W10.heap.size := by rw [hO10.size]; exact Nat.le_trans hb8.size hb9.size
      obtain ⟨O_0, O_1, O_2⟩ := O.e3
      go_wp2_with fail
      clear O_0 O_1 O_2
      ((with_reducible refine ((cutW_any ⟨ng, p8, c8, r0.m, r0.e⟩ (w7).heap.size b up _ ⟨ho8, by simp only; omega, by simp only; omega, by simp only; omega⟩ (by omega) hT hz10)).mono ?_))
      rintro e11 w11 ⟨p11, c11, rfl, ho11, hb11⟩
      replace R := R.past hb11
      replace O := O.past hb11
      replace hT := hT.past hb11
      have hs11 := hs10.trans (hb11.mono hs10.size)
      generalize hrr : pCut (Rw.v ⟨ng, p8, c8, r0.m, r0.e⟩) b up = rr at *
      have HRR := Lib.hid (HKK.out.trans hrr)
      clear hrr
      obtain ⟨R_0, R_1, R_2⟩ := R.e3
      have R_f0 := R.f 0
      have R_f1 := R.f 1
      have R_f2 := R.f 2
      go_wp2_with fail
      clear R_0 R_1 R_2 R_f0 R_f1 R_f2
      obtain ⟨R_0, R_1, R_2⟩ := R.e3
      refine bodyPost_ret (v := .agg #[.bool rr.neg, .slice p11 (dig B32 rr.m).length c11, .int .i64 rr.e]) (by simp [results, Tryd.results93, go_sem, R_0, R_1, R_2]) rfl ?_
      rw [HRR.out]
      exact givesD_put hs11 (ho11.mono (Nat.le_trans hbase hzw5)) (by omega) (fun h => by have := (ho11.blk_lt h).1; omega)

end Go.Proofs.YtkooikgplpamlaaDoor

namespace Go.Slip

theorem pCut_bd {a : Dv} (b : Nat) (up : Bool) {n : Nat} {lo hi : Int} (hl : (dig B32 a.m).length ≤ n) (h1 : lo ≤ a.e) (h2 : a.e ≤ hi) (h3 : lo ≤ 0) (h4 : 0 ≤ hi) :
    (dig B32 (pCut a b up).m).length ≤ n + 2 ∧ lo ≤ (pCut a b up).e ∧ (pCut a b up).e ≤ hi + 64 * n + 64 := by
  have hb := blen_len32 a.m
  unfold pCut
  split
  · omega
  · have hm : (dig B32 (a.m / 2 ^ (blen a.m - b) + if up ≠ a.neg then 1 else 0)).length ≤ n + 2 := by
      refine Nat.le_trans (dig_len_add B32_two _ _) ?_
      have h5 := dig_len_mono B32_two (Nat.div_le_self a.m (2 ^ (blen a.m - b)))
      have h6 : (dig B32 (if up ≠ a.neg then 1 else 0)).length ≤ 1 := (dig_len_le B32_two _ 1).2 (by split <;> decide)
      omega
    have h7 := bare_e ⟨a.neg, a.m / 2 ^ (blen a.m - b) + (if up ≠ a.neg then 1 else 0), a.e + ((blen a.m - b : Nat) : Int)⟩ (n := n + 2) hm (lo := lo) (hi := hi + 32 * n) (by simp only; omega) (by simp only; omega) h3 (by omega)
    have h8 := bare_len B32_two ⟨a.neg, a.m / 2 ^ (blen a.m - b) + (if up ≠ a.neg then 1 else 0), a.e + ((blen a.m - b : Nat) : Int)⟩
    refine ⟨Nat.le_trans h8 hm, h7.1, ?_⟩
    have := h7.2
    omega

theorem pOver_bd {a c : Dv} (b : Nat) (up : Bool) (hb : b ≤ 5000) (hal : (dig B32 a.m).length ≤ 1300) (hcl : (dig B32 c.m).length ≤ 1300) (ha1 : -100000 ≤ a.e) (ha2 : a.e ≤ 100000) (hc1 : -100000 ≤ c.e) (hc2 : c.e ≤ 100000) :
    (dig B32 (pOver a c b up).m).length ≤ 3000 ∧ -900000 ≤ (pOver a c b up).e ∧ (pOver a c b up).e ≤ 900000 := by
  unfold pOver
  split
  · omega
  · have hLY := blen_len32 c.m
    have hN : b + 2 + blen c.m - blen a.m ≤ 46700 := by omega
    generalize b + 2 + blen c.m - blen a.m = N at *
    unfold stickyQ
    have l1 : (dig B32 (a.m * 2 ^ N / c.m)).length ≤ 2761 := by
      refine Nat.le_trans (dig_len_mono B32_two (Nat.div_le_self _ _)) ?_
      have := len_shl a.m N
      omega
    have l2 : (dig B32 (2 ^ 1 * (a.m * 2 ^ N / c.m))).length ≤ 2762 := by
      refine Nat.le_trans (dig_len_mul B32_two _ _) ?_
      have : (dig B32 (2 ^ 1)).length ≤ 1 := (dig_len_le B32_two _ 1).2 (by decide)
      omega
    have l3 : (dig B32 (2 ^ 1 * (a.m * 2 ^ N / c.m) + if a.m * 2 ^ N % c.m ≠ 0 then 1 else 0)).length ≤ 2764 := by
      refine Nat.le_trans (dig_len_add B32_two _ _) ?_
      have h6 : (dig B32 (if a.m * 2 ^ N % c.m ≠ 0 then 1 else 0)).length ≤ 1 := (dig_len_le B32_two _ 1).2 (by split <;> decide)
      omega
    have h7 := bare_e ⟨xor a.neg c.neg, 2 ^ 1 * (a.m * 2 ^ N / c.m) + (if a.m * 2 ^ N % c.m ≠ 0 then 1 else 0), a.e - c.e - N - (1 : Nat)⟩ (n := 2764) l3 (lo := -300000) (hi := 200000) (by simp only; omega) (by simp only; omega) (by omega) (by omega)
    have h8 := bare_len B32_two ⟨xor a.neg c.neg, 2 ^ 1 * (a.m * 2 ^ N / c.m) + (if a.m * 2 ^ N % c.m ≠ 0 then 1 else 0), a.e - c.e - N - (1 : Nat)⟩
    have h9 := pCut_bd b up (n := 2764) (Nat.le_trans h8 l3) h7.1 (h7.2) (by omega) (by omega)
    omega

end Go.Slip
namespace Go.Proofs.YtkooikgplpamlaaDoor
open Go.RowKit Go.Slip

theorem tyRaws : Tryd.prog.underlying 121 = some (.slice 80) := by kernel_rfl
theorem tyRaw : ∃ i z, Tryd.prog.info? 80 = some i ∧ i.zero = some z ∧ i.size = 3 ∧ i.bytes = 40 ∧ z.cells.size = 3 := by
  have h : (Tryd.prog.info? 80).map (fun i => (i.zero.map (fun z => z.cells.size), i.size, i.bytes)) = some (some 3, 3, 40) := by kernel_rfl
  cases hi : Tryd.prog.info? 80 with
  | none => rw [hi] at h; simp at h
  | some i =>
    rw [hi] at h
    simp only [Option.map_some, Option.some.injEq, Prod.mk.injEq] at h
    obtain ⟨h1, h2, h3⟩ := h
    cases hz : i.zero with
    | none => rw [hz] at h1; simp at h1
    | some z => rw [hz] at h1; simp at h1; exact ⟨i, z, rfl, hz, h2, h3, h1⟩

def rowCells (L : List Rw) : List Value := L.flatMap fun x => [.bool x.g, .slice x.p (dig B32 x.m).length x.c, .int .i64 x.e]

theorem rowCells_len (L : List Rw) : (rowCells L).length = L.length * 3 := by
  induction L with
  | nil => rfl
  | cons x L ih => show (_ :: _ :: _ :: rowCells L).length = _; simp only [List.length_cons, ih]; omega

theorem rowCells_app (L M : List Rw) : rowCells (L ++ M) = rowCells L ++ rowCells M := List.flatMap_append

theorem rowCells_at (L : List Rw) : ∀ (j : Nat) (h : j < L.length), (rowCells L)[j * 3]? = some (.bool L[j].g) ∧ (rowCells L)[j * 3 + 1]? = some (.slice L[j].p (dig B32 L[j].m).length L[j].c) ∧ (rowCells L)[j * 3 + 2]? = some (.int .i64 L[j].e) := by
  induction L with
  | nil => intro j h; simp at h
  | cons x L ih =>
    intro j h
    match j with
    | 0 => exact ⟨rfl, rfl, rfl⟩
    | j + 1 =>
      have h2 := ih j (by simpa using h)
      show (_ :: _ :: _ :: rowCells L)[(j + 1) * 3]? = _ ∧ (_ :: _ :: _ :: rowCells L)[(j + 1) * 3 + 1]? = _ ∧ (_ :: _ :: _ :: rowCells L)[(j + 1) * 3 + 2]? = _
      rw [show (j + 1) * 3 = j * 3 + 1 + 1 + 1 by omega]
      simpa using h2

/-- A row of numbers of the call's own. -/
def RowW (w : World) (base : Nat) (v : Value) (L : List Rw) : Prop := w.ownsRow base 80 3 v L.length (rowCells L)

/-- A row that holds these numbers. -/
def Ov (w : World) (base0 base : Nat) (v : Value) (D : List Dv) : Prop := ∃ L : List Rw, RowW w base0 v L ∧ L.map Rw.v = D ∧ ∀ x ∈ L, InW w base x

/-- The row is not in this block. -/
def Off (v : Value) (k : Nat) : Prop := v.ownBlock ≠ some k

theorem Ov.nil (w : World) (base0 base : Nat) : Ov w base0 base (.slice none 0 0) [] := ⟨[], World.ownsRow_nil _ _ _ _, rfl, by simp⟩

theorem Ov.lt {w : World} {base0 base : Nat} {v : Value} {D : List Dv} (h : Ov w base0 base v D) : ∀ k, v.ownBlock = some k → base0 ≤ k ∧ k < w.heap.size := by
  obtain ⟨L, h1, _⟩ := h
  exact World.ownsRow.lt h1

theorem Ov.off {w : World} {base0 base : Nat} {v : Value} {D : List Dv} (h : Ov w base0 base v D) {k : Nat} (hk : k < base0 ∨ w.heap.size ≤ k) : Off v k := fun h1 => by
  have := h.lt k h1
  omega

theorem Off.app {w : World} {v v' : Value} {k : Nat} (h : Off v k) (ha : v'.ownBlock = v.ownBlock ∨ v'.ownBlock = some w.heap.size) (hk : k < w.heap.size) : Off v' k := fun h1 => by
  rcases ha with h2 | h2
  · exact h (h2.symm.trans h1)
  · rw [h2] at h1; simp at h1; omega

theorem RowW.past {w w' : World} {base : Nat} {v : Value} {L : List Rw} (h : RowW w base v L) (hb : Below w.heap.size w w') : RowW w' base v L := by
  refine ⟨h.1, ?_⟩
  rcases h.2 with hn | ⟨g, cap, cur, hv, hbg, hg, r⟩
  · exact .inl hn
  · exact .inr ⟨g, cap, cur, hv, hbg, (hb.block _ (Array.getElem?_eq_some_iff.1 hg).1).trans hg, r⟩

theorem Ov.past {w w' : World} {base0 base : Nat} {v : Value} {D : List Dv} (h : Ov w base0 base v D) (hb : Below w.heap.size w w') : Ov w' base0 base v D := by
  obtain ⟨L, h1, h2, h3⟩ := h
  exact ⟨L, h1.past hb, h2, fun x hx => (h3 x hx).past hb⟩

/-- Numbers lie in no row of structs. -/
theorem InW.grown {w w' : World} {base base2 : Nat} {x : Rw} {v : Value} {n : Nat} {xs : List Value} (h : InW w base x) (hg : w.grownBy w' v.ownBlock) (h2 : w.ownsRow base2 80 3 v n xs) : InW w' base x :=
  ⟨h.ow.grown hg (fun hp he => by
    rcases h2.2 with ⟨h3, _⟩ | ⟨g, cap, cur, hv, _, hgg, _⟩
    · rw [h3] at he; simp [Value.ownBlock] at he
    · rw [hv] at he
      simp only [Value.ownBlock, Option.some.injEq] at he
      exact h.ow.ne_tb (b := g) ⟨cur, (0, 0), hgg⟩ (by decide) hp he), h.len, h.lo, h.hi⟩

theorem Ov.grown {w w' : World} {base0 base base2 base3 : Nat} {v v2 : Value} {D D2 : List Dv} (h : Ov w base0 base v D) (hg : w.grownBy w' v2.ownBlock) (h2 : Ov w base2 base3 v2 D2) (hne : v.ownBlock = none ∨ v.ownBlock ≠ v2.ownBlock) : Ov w' base0 base v D := by
  obtain ⟨L, h3, h4, h5⟩ := h
  obtain ⟨L2, h6, _⟩ := h2
  exact ⟨L, h3.kept hg hne, h4, fun x hx => (h5 x hx).grown hg h6⟩

theorem _root_.Go.Slip.Bx.grown {w w' : World} {b : Nat} {v : Value} {vs : Array Value} (h : Bx w b vs) (hg : w.grownBy w' v.ownBlock) (hne : Off v b) : Bx w' b vs :=
  h.same (hg.block _ h.lt fun he => hne he.symm)

theorem RowW.el {w : World} {base : Nat} {v : Value} {L : List Rw} (h : RowW w base v L) (h0 : 0 < L.length) :
    ∃ g c, v = .slice (some ⟨g, 0, none⟩) L.length c ∧ L.length ≤ c ∧ ∀ j (hj : j < L.length), El w g (j * 3) L[j] := by
  rcases h.2 with ⟨_, h1⟩ | ⟨g, cap, cur, hv, hb, hg, hn, _, _, _⟩
  · omega
  · refine ⟨g, cap, hv, hn, fun j hj => ?_⟩
    have hc := World.ownsRow.cells h (g := g) (by rw [hv]; rfl)
    obtain ⟨k0, k1, k2⟩ := rowCells_at L j hj
    have e0 := hc _ _ k0
    have e1 := hc _ _ k1
    have e2 := hc _ _ k2
    simp only [Addr.add_lit, Nat.zero_add] at e0 e1 e2
    exact ⟨e0, e1, e2, (Array.getElem?_eq_some_iff.1 hg).1⟩

/-- One number more. -/
theorem wpl_appendW {ops : Array Oper} {rest : List Oper} {o : Oper} {a : Act} {Q : Exit → Act → World → Prop} {w : World} (hgd : o.guard = none) (s x : Operand)
    (ho : o.op = .call { callee := .builtin .append, args := #[s, x], argTypes := #[121, 121] })
    (base0 base : Nat) (v : Value) (D : List Dv) (hs : a.eval s = v) (h : Ov w base0 base v D) (q c2 : Nat) (y : Rw) (hx : a.eval x = .slice (some ⟨q, 0, none⟩) 1 c2) (hq : El w q 0 y) (hy : InW w base y) (hD : D.length ≤ 1000) (hbase : base0 ≤ w.heap.size)
    (hK : ∀ v' w', Ov w' base0 base v' (D ++ [y.v]) → w.grownBy w' v.ownBlock → (v'.ownBlock = v.ownBlock ∨ v'.ownBlock = some w.heap.size) → wpList Tryd.prog ops Q rest (a.put o.dst v') w') :
    wpList Tryd.prog ops Q (o :: rest) a w := by
  obtain ⟨i, z, hi, hz, h1, h2, h3⟩ := tyRaw
  obtain ⟨L, k1, k2, k3⟩ := h
  have hl : L.length = D.length := by rw [← k2, List.length_map]
  refine wpList_append_own_at w hgd s x _ ho base0 80 i z 3 40 tyRaws hi hz h1 h2 h3 (by omega) v L.length (rowCells L) hs k1 ⟨q, 0, none⟩ 1 c2 (rowCells [y]) hx (by rw [rowCells_len]; rfl) ?_ ?_ (by unfold maxLen; omega) (by omega) hbase ?_
  · intro j u hj
    rw [Addr.add_lit, Nat.zero_add]
    match j, hj with
    | 0, hj => simp [rowCells] at hj; subst hj; exact hq.c0
    | 1, hj => simp [rowCells] at hj; subst hj; exact hq.c1
    | 2, hj => simp [rowCells] at hj; subst hj; exact hq.c2
    | j + 3, hj => simp [rowCells] at hj
  · intro u hu
    simp [rowCells] at hu
    rcases hu with rfl | rfl | rfl <;> rfl
  · intro v' w' ho' hg _ hat
    refine hK v' w' ⟨L ++ [y], ?_, by rw [List.map_append, k2]; rfl, fun z hz => ?_⟩ hg hat
    · unfold RowW
      rw [rowCells_app, List.length_append]
      exact ho'
    · rcases List.mem_append.1 hz with h4 | h4
      · exact (k3 z h4).grown hg k1
      · simp only [List.mem_singleton] at h4
        subst h4
        exact hy.grown hg k1

end Go.Proofs.YtkooikgplpamlaaDoor
