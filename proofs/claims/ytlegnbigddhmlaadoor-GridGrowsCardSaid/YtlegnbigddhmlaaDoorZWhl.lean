/- dyad.Whole, Opposite. -/
import Derived.Test.YtlegnbigddhmlaaDoorZE
import Derived.Test.YtlegnbigddhmlaaDoorZB
namespace Go.Proofs.YtlegnbigddhmlaaDoor
open Go.RowKit Go.Slip

theorem _root_.Go.Slip.Bx.bb3 {w : World} {b : Nat} {v0 v1 v2 : Value} (h : Bx w b #[v0, v1, v2]) : Box3 w b v0 v1 v2 :=
  ⟨h.e3.1, h.e3.2.1, h.e3.2.2, h.f 0, h.f 1, h.f 2, h.lt⟩

set_option maxHeartbeats 1000000 in
theorem whole_any (p : Option Addr) (n c : Nat) (e : Int) (m : Nat) (w : World) (hp : Rd w .u32 p (dig B32 m)) (hn : n = (dig B32 m).length) (hc : n ≤ c) (hl : (dig B32 m).length ≤ 10000000)
    (he : -1000000000 ≤ e ∧ e ≤ 1000000000) (hT : TabW w) :
    Calls Tryd.prog 50 #[.slice p n c, .int .i64 e] w (GivesD w w.heap.size (bare ⟨false, m, e⟩)) := by
  subst hn
  go_enter Tryd.func50, Tryd.ntmps50
  go_wp2_with fail
  refine calls_lay1 (fun W1 hb1 hz1 R => ?_)
  replace hp := hp.past hb1
  replace hT := hT.past hb1
  have hs1 := hb1
  ((with_reducible refine (bareRaw_any false p _ c e m _ hp rfl hc hl he hT).mono ?_))
  generalize bare ⟨false, m, e⟩ = r at *
  rintro e2 w2 ⟨p2, c2, rfl, ho2, hb2⟩
  replace R := R.past hb2
  obtain ⟨R_0, R_1, R_2⟩ := R.e3
  have R_f0 := R.f 0
  have R_f1 := R.f 1
  have R_f2 := R.f 2
  go_wp2_with fail
  clear R_0 R_1 R_2 R_f0 R_f1 R_f2
  obtain ⟨R_0, R_1, R_2⟩ := R.e3
  refine bodyPost_ret (v := .agg #[.bool r.neg, .slice p2 (dig B32 r.m).length c2, .int .i64 r.e]) (by simp [results, Tryd.results50, go_sem, R_0, R_1, R_2]) rfl ?_
  have hz := hs1.size
  exact givesD_close (hs1.trans (hb2.mono hs1.size)) ho2 hz (Nat.le_refl _) (fun h => by have := (ho2.blk_lt h).1; omega)


set_option maxHeartbeats 1000000 in
theorem opp_any (g : Bool) (p : Option Addr) (n c : Nat) (e : Int) (m : Nat) (w : World) (hn : n = (dig B32 m).length) :
    Calls Tryd.prog 38 #[.agg #[.bool g, .slice p n c, .int .i64 e]] w fun en w' => en = .returned (.agg #[.bool (dMinus ⟨g, m, e⟩).neg, .slice p (dig B32 m).length c, .int .i64 e]) ∧ Below w.heap.size w w' := by
  subst hn
  have hz := dig_len_zero B32_two m
  have A := (bx_new w #[.bool g, .slice p (dig B32 m).length c, .int .i64 e] 72).bb3
  cases g
  · by_cases h0 : 0 < (dig B32 m).length
    · have t1 : decide ((0 : Int) < ((dig B32 m).length : Int)) = true := decide_eq_true (by omega)
      have hd : (dMinus ⟨false, m, e⟩).neg = true := by unfold dMinus; simp; (try omega)
      rw [hd]
      clear hd hz
      obtain ⟨A_0, A_1, A_2, A_f0, A_f1, A_f2, A_lt⟩ := A
      go_enter Tryd.func38, Tryd.ntmps38
      go_wp2_with fail
      refine bodyPost_ret (v := .agg #[.bool true, .slice p (dig B32 m).length c, .int .i64 e]) (by simp [results, Tryd.results38, go_sem]) rfl ?_
      exact ⟨rfl, below_lay2 _ _ _⟩
    · have t1 : decide ((0 : Int) < ((dig B32 m).length : Int)) = false := decide_eq_false (by omega)
      have hd : (dMinus ⟨false, m, e⟩).neg = false := by unfold dMinus; simp; (try omega)
      rw [hd]
      clear hd hz
      obtain ⟨A_0, A_1, A_2, A_f0, A_f1, A_f2, A_lt⟩ := A
      go_enter Tryd.func38, Tryd.ntmps38
      go_wp2_with fail
      refine bodyPost_ret (v := .agg #[.bool false, .slice p (dig B32 m).length c, .int .i64 e]) (by simp [results, Tryd.results38, go_sem]) rfl ?_
      exact ⟨rfl, below_lay2 _ _ _⟩
  · have t1 := True.intro
    have hd : (dMinus ⟨true, m, e⟩).neg = false := by unfold dMinus; simp; (try omega)
    rw [hd]
    clear hd hz
    obtain ⟨A_0, A_1, A_2, A_f0, A_f1, A_f2, A_lt⟩ := A
    go_enter Tryd.func38, Tryd.ntmps38
    go_wp2_with fail
    refine bodyPost_ret (v := .agg #[.bool false, .slice p (dig B32 m).length c, .int .i64 e]) (by simp [results, Tryd.results38, go_sem]) rfl ?_
    exact ⟨rfl, below_lay2 _ _ _⟩

end Go.Proofs.YtlegnbigddhmlaaDoor
