/- references: InGrid. -/
import Derived.Test.YtlegnbigddhmlaaDoorZV
import Derived.Test.YtlegnbigddhmlaaDoorZR
import Derived.Test.YtlegnbigddhmlaaDoorZA
namespace Go.Proofs.YtlegnbigddhmlaaDoor
open Go.RowKit Go.Slip

theorem wid_two (g : Gd) : wid g = 1 ∨ wid g = 4 := by unfold wid; split <;> simp

theorem far_div8 {x : Int} {wd : Nat} (h : wd = 1 ∨ wd = 4) (hx : -80000 ≤ x) : (x + 80000).tdiv wd = (x + 80000) / wd ∧ (80000 : Int).tdiv wd = 80000 / wd ∧ (x + 80000) / wd - 80000 / wd = x / wd := by
  refine ⟨Int.tdiv_eq_ediv_of_nonneg (by omega), Int.tdiv_eq_ediv_of_nonneg (by omega), ?_⟩
  rcases h with rfl | rfl <;> omega


set_option maxHeartbeats 8000000 in
set_option maxRecDepth 100000 in
theorem refInGrid_any (s : Bool) (p : Option Addr) (n c : Nat) (e : Int) (m : Nat) (g : Gd) (w : World) (hp : Rd w .i64 p (dig B16 m)) (hn : n = (dig B16 m).length) (hl : (dig B16 m).length ≤ 100000) (he : -60000 ≤ e ∧ e ≤ 1000000) (G : GoodG g) :
    Calls Tryd.prog 21 #[.agg #[.bool s, .slice p n c, .int .i64 e], .agg #[.int .i64 g.rad, .int .i64 g.digs, .int .i64 g.lo, .int .i64 g.hi, .bool g.grad]] w fun en w' => en = .returned (.bool (inGridD ⟨s, m, e⟩ g)) ∧ Below w.heap.size w w' := by
  subst hn
  have hz := dig_len_zero B16_two m
  by_cases h0 : m = 0
  · have hk : inGridD ⟨s, m, e⟩ g = true := by unfold inGridD; rw [if_pos h0]
    have t0 : (((dig B16 m).length : Int) == 0) = true := by rw [hz.2 h0]; rfl
    rw [hk]
    clear hk h0 hz
    go_enter Tryd.func21, Tryd.ntmps21
    go_wp2
    go_ret
    exact ⟨rfl, below_lay2 _ _ _⟩
  · have t0 : (((dig B16 m).length : Int) == 0) = false := beq_eq_false_iff_ne.2 (by omega)
    have HWD := fun W => Lib.hid (refWidth_any g W)
    have wp := wid_pos g
    have wt := wid_two g
    obtain ⟨_, gd1, gd2, gl1, gl2, gh1, gh2, gle⟩ := G
    obtain ⟨D, hD⟩ : ∃ D : Nat, g.digs = D := ⟨g.digs.toNat, by omega⟩
    have hDt : g.digs.toNat = D := by omega
    have bm := blen_len16 m
    have b0 := (blen_pos m).2 (by omega)
    have hig : inGridD ⟨s, m, e⟩ g = if e < wid g * g.lo ∨ wid g * (g.hi + D) < e + blen m then false else
        if (e + blen m - 1) / wid g - D + 1 < g.lo then (if g.grad then decide (wid g * g.lo ≤ e) else false) else decide (wid g * ((e + blen m - 1) / wid g - D + 1) ≤ e) := by
      unfold inGridD
      rw [if_neg h0, hDt, hD]
      rfl
    rw [hig]
    obtain ⟨rad, digs, lo, hi, grad⟩ := g
    simp only at *
    subst hD
    obtain ⟨wd, hwd⟩ : ∃ wd, wid ⟨rad, D, lo, hi, grad⟩ = wd := ⟨_, rfl⟩
    rw [hwd] at wp wt HWD ⊢
    have HWT := Lib.hid wt
    obtain ⟨L, hL⟩ : ∃ L, blen m = L := ⟨_, rfl⟩
    have HL := Lib.hid hL
    have hlo := mul_bd (k := lo) wp.2 (B := 17000) ⟨gl1, gl2⟩
    have hhi := mul_bd (k := hi + (D : Int)) wp.2 (B := 17200) ⟨by omega, by omega⟩
    have e0 : IntKind.i64.wrap (e + ((blen m : Nat) : Int)) = e + (L : Int) := by rw [IntWalk.i64_in _ (by omega), hL]
    rw [hL] at bm b0 ⊢
    clear hz h0 hig hDt wt hwd hL
    by_cases h1 : e < wd * lo
    · rw [if_pos (.inl h1)]
      go_enter Tryd.func21, Tryd.ntmps21
      go_wp2_with fail
      refine calls_lay2 (fun W1 hb1 hz1 A B => ?_)
      replace hp := hp.past hb1
      have hs1 := hb1
      ((with_reducible refine ((HWD _).out).mono ?_))
      rintro e2 w2 ⟨rfl, hb2⟩
      replace A := A.past hb2
      replace B := B.past hb2
      replace hp := hp.past hb2
      have hs2 := hs1.trans (hb2.mono hs1.size)
      obtain ⟨A_0, A_1, A_2⟩ := A.e3
      obtain ⟨B_0, B_1, B_2, B_3, B_4⟩ := B.e5
      go_wp2_with fail
      clear A_0 A_1 A_2 B_0 B_1 B_2 B_3 B_4
      obtain ⟨A_0, A_1, A_2⟩ := A.e3
      go_quiet ((go_at_call 43; exact Calls.quiet_of_same ((refLen_any p _ c m _ (hp.drewN _) rfl (by clear e0; omega)).mono fun _ _ h => ⟨h.1, h.2.symm⟩)))
      clear A_0 A_1 A_2
      have hb3 := below_drewN (Below.refl (w2).heap.size (w2)) nq
      replace A := A.past hb3
      replace B := B.past hb3
      replace hp := hp.past hb3
      have hs3 := hs2.trans (hb3.mono hs2.size)
      generalize (w2).drewN nq = w3 at *
      clear e0
      obtain ⟨A_0, A_1, A_2⟩ := A.e3
      go_wp2_with fail
      clear A_0 A_1 A_2
      go_ret
      exact ⟨rfl, hs3⟩
    · by_cases h2 : wd * (hi + D) < e + L
      · rw [if_pos (.inr h2)]
        go_enter Tryd.func21, Tryd.ntmps21
        go_wp2_with fail
        refine calls_lay2 (fun W1 hb1 hz1 A B => ?_)
        replace hp := hp.past hb1
        have hs1 := hb1
        ((with_reducible refine ((HWD _).out).mono ?_))
        rintro e2 w2 ⟨rfl, hb2⟩
        replace A := A.past hb2
        replace B := B.past hb2
        replace hp := hp.past hb2
        have hs2 := hs1.trans (hb2.mono hs1.size)
        obtain ⟨A_0, A_1, A_2⟩ := A.e3
        obtain ⟨B_0, B_1, B_2, B_3, B_4⟩ := B.e5
        go_wp2_with fail
        clear A_0 A_1 A_2 B_0 B_1 B_2 B_3 B_4
        obtain ⟨A_0, A_1, A_2⟩ := A.e3
        go_quiet ((go_at_call 43; exact Calls.quiet_of_same ((refLen_any p _ c m _ (hp.drewN _) rfl (by clear e0; omega)).mono fun _ _ h => ⟨h.1, h.2.symm⟩)))
        clear A_0 A_1 A_2
        have hb3 := below_drewN (Below.refl (w2).heap.size (w2)) nq
        replace A := A.past hb3
        replace B := B.past hb3
        replace hp := hp.past hb3
        have hs3 := hs2.trans (hb3.mono hs2.size)
        generalize (w2).drewN nq = w3 at *
        clear e0
        obtain ⟨A_0, A_1, A_2⟩ := A.e3
        go_wp2_with fail
        clear A_0 A_1 A_2
        go_ret
        exact ⟨rfl, hs3⟩
      · rw [if_neg (by omega)]
        have hxb : -80000 ≤ e + (L : Int) - 1 ∧ e + (L : Int) - 1 ≤ 3000000 := by omega
        obtain ⟨f1, f2, f3⟩ := far_div8 HWT.out hxb.1
        have q1 := ediv_abs (wd := wd) (x := e + (L : Int) - 1 + 80000) (B := 4000000) wp.1 (by omega)
        have q2 := ediv_abs (wd := wd) (x := 80000) (B := 80000) wp.1 (by omega)
        have q3 := ediv_abs (wd := wd) (x := e + (L : Int) - 1) (B := 4000000) wp.1 (by omega)
        have hb := ediv_bd (e + (L : Int) - 1) wd wp.1
        have y0 : IntKind.i64.wrap (e + (L : Int) - 1) = e + (L : Int) - 1 := IntWalk.i64_in _ (by omega)
        have y1 : IntKind.i64.wrap (e + (L : Int) - 1 + 80000) = e + (L : Int) - 1 + 80000 := IntWalk.i64_in _ (by omega)
        have y2 : IntKind.i64.wrap ((e + (L : Int) - 1 + 80000).tdiv (wd : Int)) = (e + (L : Int) - 1 + 80000) / (wd : Int) := by rw [f1, IntWalk.i64_in _ (by omega)]
        have y3 : IntKind.i64.wrap ((80000 : Int).tdiv (wd : Int)) = 80000 / (wd : Int) := by rw [f2, IntWalk.i64_in _ (by omega)]
        have y4 : IntKind.i64.wrap ((e + (L : Int) - 1 + 80000) / (wd : Int) - 80000 / (wd : Int)) = (e + (L : Int) - 1) / (wd : Int) := by rw [f3, IntWalk.i64_in _ (by omega)]
        have y5 : IntKind.i64.wrap ((e + (L : Int) - 1) / (wd : Int) - (D : Int)) = (e + (L : Int) - 1) / (wd : Int) - D := IntWalk.i64_in _ (by omega)
        obtain ⟨K, hK⟩ : ∃ K, (e + (L : Int) - 1) / (wd : Int) - D + 1 = K := ⟨_, rfl⟩
        have y6 : IntKind.i64.wrap ((e + (L : Int) - 1) / (wd : Int) - (D : Int) + 1) = K := by rw [IntWalk.i64_in _ (by omega), hK]
        have t1 : ((wd : Int) == 0) = false := beq_eq_false_iff_ne.2 (by omega)
        have hKm : -20000000 ≤ (wd : Int) * K ∧ (wd : Int) * K ≤ 20000000 := mul_bd (k := K) wp.2 (B := 5000000) ⟨by omega, by omega⟩
        rw [hK]
        have Y0 := Lib.hid y0
        have Y1 := Lib.hid y1
        have Y2 := Lib.hid y2
        have Y3 := Lib.hid y3
        have Y4 := Lib.hid y4
        have Y5 := Lib.hid y5
        have Y6 := Lib.hid y6
        have T1 := Lib.hid t1
        clear f1 f2 f3 hK y0 y1 y2 y3 y4 y5 y6 t1
        go_enter Tryd.func21, Tryd.ntmps21
        go_wp2_with fail
        refine calls_lay2 (fun W1 hb1 hz1 A B => ?_)
        replace hp := hp.past hb1
        have hs1 := hb1
        ((with_reducible refine ((HWD _).out).mono ?_))
        rintro e2 w2 ⟨rfl, hb2⟩
        replace A := A.past hb2
        replace B := B.past hb2
        replace hp := hp.past hb2
        have hs2 := hs1.trans (hb2.mono hs1.size)
        obtain ⟨A_0, A_1, A_2⟩ := A.e3
        obtain ⟨B_0, B_1, B_2, B_3, B_4⟩ := B.e5
        go_wp2_with fail
        clear A_0 A_1 A_2 B_0 B_1 B_2 B_3 B_4
        obtain ⟨A_0, A_1, A_2⟩ := A.e3
        go_quiet ((go_at_call 43; exact Calls.quiet_of_same ((refLen_any p _ c m _ (hp.drewN _) rfl (by clear e0; omega)).mono fun _ _ h => ⟨h.1, h.2.symm⟩)))
        clear A_0 A_1 A_2
        have hb3 := below_drewN (Below.refl (w2).heap.size (w2)) nq
        replace A := A.past hb3
        replace B := B.past hb3
        replace hp := hp.past hb3
        have hs3 := hs2.trans (hb3.mono hs2.size)
        generalize (w2).drewN nq = w3 at *
        clear e0
        obtain ⟨A_0, A_1, A_2⟩ := A.e3
        obtain ⟨B_0, B_1, B_2, B_3, B_4⟩ := B.e5
        go_wp2_with fail
        clear A_0 A_1 A_2 B_0 B_1 B_2 B_3 B_4
        have y0 := Y0.out
        have y1 := Y1.out
        have y2 := Y2.out
        have y3 := Y3.out
        have y4 := Y4.out
        have y5 := Y5.out
        have y6 := Y6.out
        have t1 := T1.out
        obtain ⟨B_0, B_1, B_2, B_3, B_4⟩ := B.e5
        go_quiet (fail)
        clear B_0 B_1 B_2 B_3 B_4
        have hb4 := below_drewN (Below.refl (w3).heap.size (w3)) nq
        replace A := A.past hb4
        replace B := B.past hb4
        replace hp := hp.past hb4
        have hs4 := hs3.trans (hb4.mono hs3.size)
        generalize (w3).drewN nq = w4 at *
        clear y0 y1 y2 y3 y4 y5 y6 t1
        by_cases h3 : K < lo
        · cases grad
          · have t5 := True.intro
            obtain ⟨A_0, A_1, A_2⟩ := A.e3
            obtain ⟨B_0, B_1, B_2, B_3, B_4⟩ := B.e5
            go_wp2_with fail
            clear A_0 A_1 A_2 B_0 B_1 B_2 B_3 B_4
            go_ret
            exact ⟨by simp [h3], hs4⟩
          · by_cases h4 : wd * lo ≤ e
            · have t5 := True.intro
              obtain ⟨A_0, A_1, A_2⟩ := A.e3
              obtain ⟨B_0, B_1, B_2, B_3, B_4⟩ := B.e5
              go_wp2_with fail
              clear A_0 A_1 A_2 B_0 B_1 B_2 B_3 B_4
              go_ret
              exact ⟨by simp [h3, h4], hs4⟩
            · exact absurd (by omega) h4
        · by_cases h4 : wd * K ≤ e
          · have t5 := True.intro
            obtain ⟨A_0, A_1, A_2⟩ := A.e3
            obtain ⟨B_0, B_1, B_2, B_3, B_4⟩ := B.e5
            go_wp2_with fail
            clear A_0 A_1 A_2 B_0 B_1 B_2 B_3 B_4
            go_ret
            exact ⟨by simp [h3, h4], hs4⟩
          · have t5 := True.intro
            obtain ⟨A_0, A_1, A_2⟩ := A.e3
            obtain ⟨B_0, B_1, B_2, B_3, B_4⟩ := B.e5
            go_wp2_with fail
            clear A_0 A_1 A_2 B_0 B_1 B_2 B_3 B_4
            go_ret
            exact ⟨by simp [h3, h4], hs4⟩

end Go.Proofs.YtlegnbigddhmlaaDoor
