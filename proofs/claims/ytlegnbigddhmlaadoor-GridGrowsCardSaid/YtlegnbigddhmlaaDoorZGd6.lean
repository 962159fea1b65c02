/- grid: Round. -/
import Derived.Test.YtlegnbigddhmlaaDoorZGd5
import Derived.Test.YtlegnbigddhmlaaDoorZNat4
namespace Go.Proofs.YtlegnbigddhmlaaDoor
open Go.RowKit Go.Slip

/-- A ratio as it came. -/
structure Rin where
  g : Bool
  p : Option Addr
  c : Nat
  xs : List Nat
  q : Option Addr
  d : Nat
  ys : List Nat
  e : Int

/-- As the walks ask for it. -/
structure InR (w : World) (a : Rin) : Prop where
  r1 : Rd w .u32 a.p a.xs
  l1 : a.xs.length ≤ 9223372036854775807
  b1 : ∀ x ∈ a.xs, x < B32
  r2 : Rd w .u32 a.q a.ys
  l2 : a.ys.length ≤ 9223372036854775807
  b2 : ∀ x ∈ a.ys, x < B32

theorem InR.past {w w' : World} {a : Rin} (h : InR w a) (hb : Below w.heap.size w w') : InR w' a := ⟨h.r1.past hb, h.l1, h.b1, h.r2.past hb, h.l2, h.b2⟩

def errRat (a : Rin) : Int := if errNat a.xs ≠ 0 then errNat a.xs else if errNat a.ys ≠ 0 then errNat a.ys else if a.ys.length = 0 ∨ a.e < -20000 ∨ 20000 < a.e then 3 else 0
def errRound (a : Rin) (g : Gd) (way : Int) : Int := if errRat a ≠ 0 then errRat a else if errG g ≠ 0 then errG g else if way < 1 ∨ 5 < way then 6 else 0
def zeroP : Pl := ⟨false, 0, 0, false, false, false⟩
def roundOf (a : Rin) (g : Gd) (way : Int) : Pl := if errRound a g way = 0 then roundP a.g (val B32 a.xs) (val B32 a.ys) a.e g way else zeroP

def GivesPE (w : World) (d : Pl) (er : Int) (en : Ending) (w' : World) : Prop :=
  ∃ p c, en = .returned (.tuple #[.agg #[.bool d.neg, .slice p (dig B32 d.d).length c, .int .i64 d.pow, .bool d.exact, .bool d.over, .bool d.under], .int .i64 er]) ∧ Own w' w.heap.size .u32 46 p c (dig B32 d.d) ∧ Below w.heap.size w w'

theorem givesPE_zero {w wk : World} {b : Nat} {er : Int} {v3 : Bool} {d : Pl} (hd : d = ⟨false, 0, 0, v3, false, false⟩) (hs : Below w.heap.size w wk) (hB : w.heap.size ≤ b) :
    GivesPE w d er (.returned (.tuple #[.agg #[.bool false, .slice none 0 0, .int .i64 0, .bool v3, .bool false, .bool false], .int .i64 er]))
      ((((((wk.setCell ⟨b, 0, none⟩ (.bool false)).setCell ⟨b, 1, none⟩ (.slice none 0 0)).setCell ⟨b, 2, none⟩ (.int .i64 0)).setCell ⟨b, 3, none⟩ (.bool v3)).setCell ⟨b, 4, none⟩ (.bool false)).setCell ⟨b, 5, none⟩ (.bool false)) := by
  subst hd
  exact ⟨none, 0, by rw [dig_zero]; rfl, by simp only [dig_zero]; exact Own.nil _ _ _ _, hs.trans ((only6 wk b _ _ _ _ _ _).below hB)⟩

theorem givesPE_close {w wk : World} {b base : Nat} {er : Int} {d : Pl} {p : Option Addr} {c : Nat} (hs : Below w.heap.size w wk) (ho : Own wk base .u32 46 p c (dig B32 d.d)) (hb : w.heap.size ≤ base) (hB : w.heap.size ≤ b) (hne : p.isSome = true → blk p ≠ b) :
    GivesPE w d er (.returned (.tuple #[.agg #[.bool d.neg, .slice p (dig B32 d.d).length c, .int .i64 d.pow, .bool d.exact, .bool d.over, .bool d.under], .int .i64 er]))
      ((((((wk.setCell ⟨b, 0, none⟩ (.bool d.neg)).setCell ⟨b, 1, none⟩ (.slice p (dig B32 d.d).length c)).setCell ⟨b, 2, none⟩ (.int .i64 d.pow)).setCell ⟨b, 3, none⟩ (.bool d.exact)).setCell ⟨b, 4, none⟩ (.bool d.over)).setCell ⟨b, 5, none⟩ (.bool d.under)) :=
  ⟨p, c, rfl, (ho.only (only6 wk b _ _ _ _ _ _) hne).mono hb, hs.trans ((only6 wk b _ _ _ _ _ _).below hB)⟩


set_option maxHeartbeats 8000000 in
set_option maxRecDepth 100000 in
theorem round_any (a : Rin) (g : Gd) (way : Int) (w : World) (ha : InR w a) :
    Calls Tryd.prog 25 #[.agg #[.bool a.g, .slice a.p a.xs.length a.c, .slice a.q a.ys.length a.d, .int .i64 a.e], .agg #[.int .i64 g.rad, .int .i64 g.digs, .int .i64 g.lo, .int .i64 g.hi, .bool g.grad], .int .i64 way] w (GivesPE w (roundOf a g way) (errRound a g way)) := by
  obtain ⟨er, her⟩ : ∃ er, errRound a g way = er := ⟨_, rfl⟩
  obtain ⟨rv, hrv⟩ : ∃ rv, roundOf a g way = rv := ⟨_, rfl⟩
  rw [her, hrv]
  have HER := Lib.hid her
  have HRV := Lib.hid hrv
  clear her hrv
  have hz0 : er ≠ 0 → rv = zeroP := fun h => by rw [← HRV.out]; unfold roundOf; rw [HER.out, if_neg h]
  have HZ0 := Lib.hid hz0
  clear hz0
  have HCG := fun W => Lib.hid (gridCheck_any g W)
  have HCX := fun W (h : Rd W .u32 a.p a.xs) => Lib.hid (natCheck1_any a.p a.xs.length a.c a.xs W h rfl ha.l1)
  have HCY := fun W (h : Rd W .u32 a.q a.ys) => Lib.hid (natCheck1_any a.q a.ys.length a.d a.ys W h rfl ha.l2)
  obtain ⟨e1, he1⟩ : ∃ e1, errNat a.xs = e1 := ⟨_, rfl⟩
  obtain ⟨e2, he2⟩ : ∃ e2, errNat a.ys = e2 := ⟨_, rfl⟩
  obtain ⟨e3, he3⟩ : ∃ e3, errG g = e3 := ⟨_, rfl⟩
  rw [he1] at HCX
  rw [he2] at HCY
  rw [he3] at HCG
  have HE1 := Lib.hid he1
  have HE2 := Lib.hid he2
  have HE3 := Lib.hid he3
  clear he1 he2 he3
  go_enter Tryd.func25, Tryd.ntmps25
  go_wp2_with fail
  refine wp_lay4 (fun W1 hb1 hz1 Q G R L => ?_)
  replace ha := ha.past hb1
  have hs1 := hb1
  go_loopg [9, 10, 18] 2 (fun gk s9 s10 iv wr => ∃ i : Nat, iv = .int .i64 i ∧ gk + i = 2 ∧ Below W1.heap.size W1 wr ∧ Hid (i = 0 ∨ (i = 1 ∧ e1 = 0) ∨ (i = 2 ∧ e1 = 0 ∧ e2 = 0)))
  case atStart => exact ⟨0, rfl, rfl, Below.refl _ _, .inl rfl⟩
  case round =>
    obtain ⟨i, rfl, hgk, hb, HI⟩ := hrel
    have hs2 := hs1.trans (hb.mono hs1.size)
    replace Q := Q.past hb
    replace G := G.past hb
    replace R := R.past hb
    replace L := L.past hb
    replace ha := ha.past hb
    rcases HI.out with rfl | ⟨rfl, h10⟩ | ⟨rfl, h10, h20⟩
    · clear HI
      obtain ⟨L_0, L_1⟩ := L.e2
      go_wp2_with fail
      clear L_0 L_1
      ((with_reducible refine ((HCX _ ha.r1).out).mono ?_))
      rintro e3 w3 ⟨rfl, hb3⟩
      replace Q := Q.past hb3
      replace G := G.past hb3
      replace R := R.past hb3
      replace L := L.past hb3
      replace ha := ha.past hb3
      have hs3 := hs2.trans (hb3.mono hs2.size)
      by_cases h1 : e1 = 0
      · subst h1
        obtain ⟨L_0, L_1⟩ := L.e2
        go_wp2_with fail
        clear L_0 L_1
        go_roundg 1
        case measure => omega
        case rel => exact ⟨1, by go_num, rfl, hb.trans (hb3.mono hb.size), by unfold Hid; simp⟩
      · have t1 : (e1 == 0) = false := beq_eq_false_iff_ne.2 h1
        have t2 : (e1 != 0) = true := by rw [bne, t1]; rfl
        have H1 := Lib.hid h1
        clear h1
        obtain ⟨R_0, R_1, R_2, R_3, R_4, R_5⟩ := R.e6
        have R_f0 := R.f 0
        have R_f1 := R.f 1
        have R_f2 := R.f 2
        have R_f3 := R.f 3
        have R_f4 := R.f 4
        have R_f5 := R.f 5
        go_wp2_with fail
        clear R_0 R_1 R_2 R_3 R_4 R_5 R_f0 R_f1 R_f2 R_f3 R_f4 R_f5
        obtain ⟨R_0, R_1, R_2, R_3, R_4, R_5⟩ := R.e6
        refine bodyPost_ret (v := .tuple #[.agg #[.bool false, .slice none 0 0, .int .i64 0, .bool false, .bool false, .bool false], .int .i64 e1]) (by simp [results, Tryd.results25, go_sem, R_0, R_1, R_2, R_3, R_4, R_5]) rfl ?_
        have e0 : er = e1 := by rw [← HER.out]; unfold errRound errRat; rw [HE1.out, if_pos H1.out, if_pos H1.out]
        subst e0
        exact givesPE_zero (HZ0.out H1.out) hs3 (by omega)
    · subst h10
      clear HI
      obtain ⟨L_0, L_1⟩ := L.e2
      go_wp2_with fail
      clear L_0 L_1
      ((with_reducible refine ((HCY _ ha.r2).out).mono ?_))
      rintro e3 w3 ⟨rfl, hb3⟩
      replace Q := Q.past hb3
      replace G := G.past hb3
      replace R := R.past hb3
      replace L := L.past hb3
      replace ha := ha.past hb3
      have hs3 := hs2.trans (hb3.mono hs2.size)
      by_cases h1 : e2 = 0
      · subst h1
        obtain ⟨L_0, L_1⟩ := L.e2
        go_wp2_with fail
        clear L_0 L_1
        go_roundg 0
        case measure => omega
        case rel => exact ⟨2, by go_num, rfl, hb.trans (hb3.mono hb.size), by unfold Hid; simp⟩
      · have t1 : (e2 == 0) = false := beq_eq_false_iff_ne.2 h1
        have t2 : (e2 != 0) = true := by rw [bne, t1]; rfl
        have H1 := Lib.hid h1
        clear h1
        obtain ⟨R_0, R_1, R_2, R_3, R_4, R_5⟩ := R.e6
        have R_f0 := R.f 0
        have R_f1 := R.f 1
        have R_f2 := R.f 2
        have R_f3 := R.f 3
        have R_f4 := R.f 4
        have R_f5 := R.f 5
        go_wp2_with fail
        clear R_0 R_1 R_2 R_3 R_4 R_5 R_f0 R_f1 R_f2 R_f3 R_f4 R_f5
        obtain ⟨R_0, R_1, R_2, R_3, R_4, R_5⟩ := R.e6
        refine bodyPost_ret (v := .tuple #[.agg #[.bool false, .slice none 0 0, .int .i64 0, .bool false, .bool false, .bool false], .int .i64 e2]) (by simp [results, Tryd.results25, go_sem, R_0, R_1, R_2, R_3, R_4, R_5]) rfl ?_
        have e00 : errRat a = e2 := by unfold errRat; rw [HE1.out, HE2.out, if_neg (by simp), if_pos H1.out]
        have e0 : er = e2 := by rw [← HER.out]; unfold errRound; rw [e00, if_pos H1.out]
        subst e0
        exact givesPE_zero (HZ0.out H1.out) hs3 (by omega)
    · subst h10 h20
      clear HI
      have HR0 : Hid (errRat a = if a.ys.length = 0 ∨ a.e < -20000 ∨ 20000 < a.e then 3 else 0) := by
        show errRat a = _
        unfold errRat
        rw [HE1.out, HE2.out, if_neg (by simp), if_neg (by simp)]
      by_cases hy : a.ys.length = 0
      · have t1 : ((a.ys.length : Int) == 0) = true := by rw [hy]; rfl
        have e0 : er = 3 := by
          have e00 : errRat a = 3 := HR0.out.trans (if_pos (.inl hy))
          rw [← HER.out]; unfold errRound; rw [e00, if_pos (by omega)]
        subst e0
        clear hy
        obtain ⟨L_0, L_1⟩ := L.e2
        obtain ⟨Q_0, Q_1, Q_2, Q_3⟩ := Q.e4
        go_upto_region 9 with (fail)
        clear L_0 L_1 Q_0 Q_1 Q_2 Q_3
        obtain ⟨R_0, R_1, R_2, R_3, R_4, R_5⟩ := R.e6
        have R_f0 := R.f 0
        have R_f1 := R.f 1
        have R_f2 := R.f 2
        have R_f3 := R.f 3
        have R_f4 := R.f 4
        have R_f5 := R.f 5
        go_wp2_with fail
        clear R_0 R_1 R_2 R_3 R_4 R_5 R_f0 R_f1 R_f2 R_f3 R_f4 R_f5
        obtain ⟨R_0, R_1, R_2, R_3, R_4, R_5⟩ := R.e6
        refine bodyPost_ret (v := .tuple #[.agg #[.bool false, .slice none 0 0, .int .i64 0, .bool false, .bool false, .bool false], .int .i64 3]) (by simp [results, Tryd.results25, go_sem, R_0, R_1, R_2, R_3, R_4, R_5]) rfl ?_
        exact givesPE_zero (HZ0.out (by omega)) hs2 (by omega)
      · have t1 : ((a.ys.length : Int) == 0) = false := beq_eq_false_iff_ne.2 (by omega)
        by_cases hf : a.e < -20000 ∨ 20000 < a.e
        · have t2 := wiB_false hf
          have e0 : er = 3 := by
            have e00 : errRat a = 3 := HR0.out.trans (if_pos (.inr hf))
            rw [← HER.out]; unfold errRound; rw [e00, if_pos (by omega)]
          subst e0
          clear hy hf
          obtain ⟨L_0, L_1⟩ := L.e2
          obtain ⟨Q_0, Q_1, Q_2, Q_3⟩ := Q.e4
          go_wp2_with fail
          clear L_0 L_1 Q_0 Q_1 Q_2 Q_3
          ((with_reducible refine ((within_any _ _ _ (by omega))).mono ?_))
          rintro _ _ ⟨rfl, rfl⟩
          obtain ⟨R_0, R_1, R_2, R_3, R_4, R_5⟩ := R.e6
          have R_f0 := R.f 0
          have R_f1 := R.f 1
          have R_f2 := R.f 2
          have R_f3 := R.f 3
          have R_f4 := R.f 4
          have R_f5 := R.f 5
          go_wp2_with fail
          clear R_0 R_1 R_2 R_3 R_4 R_5 R_f0 R_f1 R_f2 R_f3 R_f4 R_f5
          obtain ⟨R_0, R_1, R_2, R_3, R_4, R_5⟩ := R.e6
          refine bodyPost_ret (v := .tuple #[.agg #[.bool false, .slice none 0 0, .int .i64 0, .bool false, .bool false, .bool false], .int .i64 3]) (by simp [results, Tryd.results25, go_sem, R_0, R_1, R_2, R_3, R_4, R_5]) rfl ?_
          exact givesPE_zero (HZ0.out (by omega)) hs2 (by omega)
        · have t2 := wiB_true (n := a.e) (m := 20000) (by omega) (by omega)
          have HR1 : Hid (errRat a = 0) := HR0.out.trans (if_neg (by omega))
          have he1 : -20000 ≤ a.e := by omega
          have he2 : a.e ≤ 20000 := by omega
          have hy1 : 0 < a.ys.length := by omega
          clear hy hf
          obtain ⟨L_0, L_1⟩ := L.e2
          obtain ⟨Q_0, Q_1, Q_2, Q_3⟩ := Q.e4
          go_wp2_with fail
          clear L_0 L_1 Q_0 Q_1 Q_2 Q_3
          ((with_reducible refine ((within_any _ _ _ (by omega))).mono ?_))
          rintro _ _ ⟨rfl, rfl⟩
          obtain ⟨G_0, G_1, G_2, G_3, G_4⟩ := G.e5
          go_wp2_with fail
          clear G_0 G_1 G_2 G_3 G_4
          ((with_reducible refine ((HCG _).out).mono ?_))
          rintro e4 w4 ⟨rfl, hb4⟩
          replace Q := Q.past hb4
          replace G := G.past hb4
          replace R := R.past hb4
          replace L := L.past hb4
          replace ha := ha.past hb4
          have hs4 := hs2.trans (hb4.mono hs2.size)
          by_cases h3 : e3 = 0
          · subst h3
            by_cases hw : way < 1 ∨ 5 < way
            · have t4 := wayB_false hw
              have e0 : er = 6 := by rw [← HER.out]; unfold errRound; rw [HR1.out, HE3.out, if_neg (by simp), if_neg (by simp), if_pos hw]
              subst e0
              clear hw
              go_wp2_with fail
              ((with_reducible refine (isWay_any way _).mono ?_))
              rintro e5 w5 ⟨rfl, hb5⟩
              replace Q := Q.past hb5
              replace G := G.past hb5
              replace R := R.past hb5
              replace L := L.past hb5
              replace ha := ha.past hb5
              have hs5 := hs4.trans (hb5.mono hs4.size)
              obtain ⟨R_0, R_1, R_2, R_3, R_4, R_5⟩ := R.e6
              have R_f0 := R.f 0
              have R_f1 := R.f 1
              have R_f2 := R.f 2
              have R_f3 := R.f 3
              have R_f4 := R.f 4
              have R_f5 := R.f 5
              go_wp2_with fail
              clear R_0 R_1 R_2 R_3 R_4 R_5 R_f0 R_f1 R_f2 R_f3 R_f4 R_f5
              obtain ⟨R_0, R_1, R_2, R_3, R_4, R_5⟩ := R.e6
              refine bodyPost_ret (v := .tuple #[.agg #[.bool false, .slice none 0 0, .int .i64 0, .bool false, .bool false, .bool false], .int .i64 6]) (by simp [results, Tryd.results25, go_sem, R_0, R_1, R_2, R_3, R_4, R_5]) rfl ?_
              exact givesPE_zero (HZ0.out (by omega)) hs5 (by omega)
            · skip
              have t4 := wayB_true (k := way) (by omega) (by omega)
              have e0 : er = 0 := by rw [← HER.out]; unfold errRound; rw [HR1.out, HE3.out, if_neg (by simp), if_neg (by simp), if_neg hw]
              subst e0
              have hw1 : 1 ≤ way := by omega
              have hw2 : way ≤ 5 := by omega
              clear hw
              go_wp2_with fail
              ((with_reducible refine (isWay_any way _).mono ?_))
              rintro e5 w5 ⟨rfl, hb5⟩
              replace Q := Q.past hb5
              replace G := G.past hb5
              replace R := R.past hb5
              replace L := L.past hb5
              replace ha := ha.past hb5
              have hs5 := hs4.trans (hb5.mono hs4.size)
              obtain ⟨ex, lx⟩ := errNat_ok ha.b1 HE1.out
              obtain ⟨ey, ly⟩ := errNat_ok ha.b2 HE2.out
              have HRV2 : Hid (rv = roundP a.g (val B32 a.xs) (val B32 a.ys) a.e g way) := by
                show rv = _
                rw [← HRV.out]; unfold roundOf; rw [HER.out, if_pos rfl]
              by_cases hx : a.xs.length = 0
              · have t5 : ((a.xs.length : Int) == 0) = true := by rw [hx]; rfl
                have hxs : a.xs = [] := List.eq_nil_of_length_eq_zero hx
                have hrv : rv = ⟨false, 0, 0, true, false, false⟩ := by rw [HRV2.out, hxs]; rfl
                have HRV3 := Lib.hid hrv
                clear hx hxs hrv ex ey
                obtain ⟨Q_0, Q_1, Q_2, Q_3⟩ := Q.e4
                obtain ⟨R_0, R_1, R_2, R_3, R_4, R_5⟩ := R.e6
                have R_f0 := R.f 0
                have R_f1 := R.f 1
                have R_f2 := R.f 2
                have R_f3 := R.f 3
                have R_f4 := R.f 4
                have R_f5 := R.f 5
                go_wp2_with fail
                clear Q_0 Q_1 Q_2 Q_3 R_0 R_1 R_2 R_3 R_4 R_5 R_f0 R_f1 R_f2 R_f3 R_f4 R_f5
                obtain ⟨R_0, R_1, R_2, R_3, R_4, R_5⟩ := R.e6
                refine bodyPost_ret (v := .tuple #[.agg #[.bool false, .slice none 0 0, .int .i64 0, .bool true, .bool false, .bool false], .int .i64 0]) (by simp [results, Tryd.results25, go_sem, R_0, R_1, R_2, R_3, R_4, R_5]) rfl ?_
                exact givesPE_zero HRV3.out hs5 (by omega)
              · have t5 : ((a.xs.length : Int) == 0) = false := beq_eq_false_iff_ne.2 (by omega)
                have hnum : 0 < val B32 a.xs := by
                  rcases Nat.eq_zero_or_pos (val B32 a.xs) with h | h
                  · rw [h, dig_zero] at ex; rw [ex] at hx; simp at hx
                  · exact h
                have hden : 0 < val B32 a.ys := by
                  rcases Nat.eq_zero_or_pos (val B32 a.ys) with h | h
                  · rw [h, dig_zero] at ey; rw [ey] at hy1; simp at hy1
                  · exact h
                generalize val B32 a.xs = num at *
                generalize val B32 a.ys = den at *
                have GG := goodG_of HE3.out
                have wp := wid_pos g
                have hd1 := GG.d1
                have HF := fun W h1 h2 => Lib.hid (fit_any a.g a.p a.q a.c a.d num den a.e g way _ W h1 h2 (by rw [← ex]; omega) (by rw [← ey]; omega) hnum hden ⟨by omega, by omega⟩ GG hw1 hw2 (theK_is hnum hden a.e (by omega) (by omega)))
                have hrv : fitK a.g num den a.e g way (theK num den a.e (wid g) g.digs.toNat) = rv := by rw [HRV2.out]; unfold roundP; rw [if_neg (by omega)]
                rw [hrv, ← ex, ← ey] at HF
                clear hrv ex ey hx GG hd1 wp hnum hden
                obtain ⟨Q_0, Q_1, Q_2, Q_3⟩ := Q.e4
                obtain ⟨G_0, G_1, G_2, G_3, G_4⟩ := G.e5
                go_wp2_with fail
                clear Q_0 Q_1 Q_2 Q_3 G_0 G_1 G_2 G_3 G_4
                ((with_reducible refine ((HF _ ha.r1 ha.r2).out).mono ?_))
                rintro e6 w6 ⟨p6, c6, rfl, ho6, hb6⟩
                replace Q := Q.past hb6
                replace G := G.past hb6
                replace R := R.past hb6
                replace L := L.past hb6
                replace ha := ha.past hb6
                have hs6 := hs5.trans (hb6.mono hs5.size)
                obtain ⟨R_0, R_1, R_2, R_3, R_4, R_5⟩ := R.e6
                have R_f0 := R.f 0
                have R_f1 := R.f 1
                have R_f2 := R.f 2
                have R_f3 := R.f 3
                have R_f4 := R.f 4
                have R_f5 := R.f 5
                go_wp2_with fail
                clear R_0 R_1 R_2 R_3 R_4 R_5 R_f0 R_f1 R_f2 R_f3 R_f4 R_f5
                obtain ⟨R_0, R_1, R_2, R_3, R_4, R_5⟩ := R.e6
                refine bodyPost_ret (v := .tuple #[.agg #[.bool rv.neg, .slice p6 (dig B32 rv.d).length c6, .int .i64 rv.pow, .bool rv.exact, .bool rv.over, .bool rv.under], .int .i64 0]) (by simp [results, Tryd.results25, go_sem, R_0, R_1, R_2, R_3, R_4, R_5]) rfl ?_
                have hz5 := hs5.size
                exact givesPE_close hs6 ho6 hz5 (by omega) (fun h => by have := (ho6.blk_lt h).1; have := hb5.size; have := hb4.size; have := hb.size; omega)
          · have t1 : (e3 == 0) = false := beq_eq_false_iff_ne.2 h3
            have t2 : (e3 != 0) = true := by rw [bne, t1]; rfl
            have H3 := Lib.hid h3
            clear h3
            obtain ⟨R_0, R_1, R_2, R_3, R_4, R_5⟩ := R.e6
            have R_f0 := R.f 0
            have R_f1 := R.f 1
            have R_f2 := R.f 2
            have R_f3 := R.f 3
            have R_f4 := R.f 4
            have R_f5 := R.f 5
            go_wp2_with fail
            clear R_0 R_1 R_2 R_3 R_4 R_5 R_f0 R_f1 R_f2 R_f3 R_f4 R_f5
            obtain ⟨R_0, R_1, R_2, R_3, R_4, R_5⟩ := R.e6
            refine bodyPost_ret (v := .tuple #[.agg #[.bool false, .slice none 0 0, .int .i64 0, .bool false, .bool false, .bool false], .int .i64 e3]) (by simp [results, Tryd.results25, go_sem, R_0, R_1, R_2, R_3, R_4, R_5]) rfl ?_
            have e0 : er = e3 := by rw [← HER.out]; unfold errRound; rw [HR1.out, HE3.out, if_neg (by simp), if_pos H3.out]
            subst e0
            exact givesPE_zero (HZ0.out H3.out) hs4 (by omega)

end Go.Proofs.YtlegnbigddhmlaaDoor
