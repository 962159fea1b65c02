/- The references' powers of 2 and shifts. -/
import Derived.Test.YtcbjidcpcompoaaDoorRef2
import Derived.Test.YtcbjidcpcompoaaDoorNum4
import Derived.Test.YtcbjidcpcompoaaDoorBase2
import Derived.Deep.LoopGhost
namespace Go.Proofs.YtcbjidcpcompoaaDoor
open Go.RowKit Go.Slip

set_option maxHeartbeats 1000000 in
theorem refPow2_any (N : Nat) (w : World) (hN : N ≤ 1000000000) :
    Calls Tryd.prog 61 #[.int .i64 N] w (GivesR w .i64 (dig B16 (2 ^ N))) := by
  have hs : N % 16 < 16 := Nat.mod_lt _ (by omega)
  have HD := Lib.hid (pow2_dig (B := B16) (w := 16) (by decide) (by omega) N)
  go_enter Tryd.func61, Tryd.ntmps61
  go_wp2_with (refine wpl_make rfl _ _ _ rfl tyN .i64 .i64 (N / 16 + 1) _ _ rfl rfl ?_ ?_ ?_ ?_; omega; omega; omega; intro p1 c1 w1 ho1 hb1 hz1)
  go_loop [4, 5] (fun dv iv => ∃ (i t : Nat), iv = .int .i64 i ∧ dv = .int .i64 t ∧ i ≤ N % 16 ∧ t ≤ 65536 ∧ Hid (t = 2 ^ i)) (fun _ iv => N % 16 - (intOf iv).toNat)
  case atStart => exact ⟨0, 1, rfl, rfl, Nat.zero_le _, by omega, rfl⟩
  case round =>
    obtain ⟨i, t, rfl, rfl, hi, ht, HT⟩ := hrel
    by_cases h1 : i < N % 16
    · have HS : Hid (2 * t = 2 ^ (i + 1)) := by show 2 * t = 2 ^ (i + 1); rw [HT.out, Nat.pow_succ]; omega
      have hb : 2 * t ≤ 65536 := by
        rw [HS.out]; exact Nat.pow_le_pow_right (show 0 < 2 by omega) (show i + 1 ≤ 16 by omega)
      go_wp2
      go_round
      case rel => exact ⟨i + 1, 2 * t, by go_num, by go_num, by omega, hb, HS⟩
      case measure => simp [intOf]; omega
    · obtain rfl : i = N % 16 := by omega
      have hso := ho1.solid
      rw [List.length_replicate] at hso
      have hsm := hso
      go_wp2_with (refine wpl_store rfl _ _ _ rfl 3 tyN _ _ _ _ ho1 (N / 16) (by simp) _ ?_ rfl rfl ?_; omega; intro w3 ho3 hg3 hb3)
      go_ret
      rw [Int.toNat_natCast, HT.out, HD.out] at ho3
      refine ⟨p1, c1, ?_, ho3.rd, ho3.le_cap, own_blk ho3, hb1.trans hb3⟩
      rw [← HD.out]; simp


theorem dig_len_pow2 (N : Nat) : (dig B16 (2 ^ N)).length = N / 16 + 1 := by
  rw [← pow2_dig (B := B16) (w := 16) (by decide) (by omega) N]; simp

set_option maxHeartbeats 1000000 in
theorem refUp_any (p : Option Addr) (n c : Nat) (a N : Nat) (w : World) (hp : Rd w .i64 p (dig B16 a)) (hn : n = (dig B16 a).length) (hl : (dig B16 a).length ≤ 100000000) (hN : N ≤ 1000000000) :
    Calls Tryd.prog 37 #[.slice p n c, .int .i64 N] w (GivesR w .i64 (dig B16 (a * 2 ^ N))) := by
  subst hn
  by_cases h0 : (dig B16 a).length = 0
  · have : a = 0 := (dig_len_zero B16_two a).1 h0
    subst this
    rw [Nat.zero_mul]
    rw [dig_zero] at *
    go_enter Tryd.func37, Tryd.ntmps37
    go_wp2
    go_ret
    exact ⟨none, 0, rfl, Rd.nil _ _ _, by simp, by simp, Below.refl _ _⟩
  · have hlp := Nat.le_of_eq (dig_len_pow2 N)
    have h1 : 1 ≤ (dig B16 a).length := by omega
    clear h0
    go_enter Tryd.func37, Tryd.ntmps37
    go_wp2_with fail
    refine (refPow2_any N _ hN).mono ?_
    rintro e w1 ⟨p1, c1, rfl, ho1, -, -, hb1⟩
    go_wp2_with fail
    refine (refTimes_any p p1 _ _ c c1 a (2 ^ N) _ (hp.past hb1) ho1 rfl rfl (by omega)).mono ?_
    rintro e w2 ⟨p2, c2, rfl, ho2, hc2, hn2, hb2⟩
    go_wp2_with fail
    go_ret
    exact ⟨p2, c2, rfl, ho2, hc2, fun h => Nat.le_trans hb1.size (hn2 h), hb1.trans (hb2.mono hb1.size)⟩

theorem down_done {O Y : List Nat} {N a : Nat} (h : DownRel B16 (2 ^ (N % 16)) O Y Y.length) (hY : val B16 Y = a / B16 ^ (N / 16)) : val B16 O = a / 2 ^ N := by
  rw [h.done, hY, shift_split (B := B16) (w := 16) (by decide)]


set_option maxHeartbeats 1000000 in
set_option maxRecDepth 100000 in
theorem refDown_any (p : Option Addr) (n c : Nat) (a N : Nat) (w : World) (hp : Rd w .i64 p (dig B16 a)) (hn : n = (dig B16 a).length) (hl : (dig B16 a).length ≤ 1000000000) (hN : N ≤ 9223372036854775807) :
    Calls Tryd.prog 51 #[.slice p n c, .int .i64 N] w (GivesR w .i64 (dig B16 (a / 2 ^ N))) := by
  subst hn
  by_cases h0 : (dig B16 a).length ≤ N / 16
  · rw [div_of_big (w := 16) (by decide) B16_two a N h0]
    rw [dig_zero]
    go_enter Tryd.func51, Tryd.ntmps51
    go_wp2
    go_ret
    exact ⟨none, 0, rfl, Rd.nil _ _ _, by simp, by simp, Below.refl _ _⟩
  · have HXL := Lib.hid (dig_lt B16_two a)
    have HV := Lib.hid (val_drop_div (B := B16) B16_pos _ (dig_lt B16_two a) (N / 16))
    rw [val_dig B16_two] at HV
    generalize dig B16 a = xs at *
    have hsx := hp.solid
    have hk : N / 16 < xs.length := by omega
    have HY := Lib.hid (show ∀ x ∈ xs.drop (N / 16), x < B16 from fun x h => HXL.out x (List.mem_of_mem_drop h))
    have hyl : (xs.drop (N / 16)).length = xs.length - N / 16 := List.length_drop
    have hylp : (xs.drop (N / 16)).length + N / 16 ≤ xs.length := by omega
    have hylq : xs.length ≤ (xs.drop (N / 16)).length + N / 16 := by omega
    have HG := Lib.hid (show ∀ j, dg (xs.drop (N / 16)) j = dg xs (N / 16 + j) from fun j => dg_drop)
    clear h0 hyl
    have hs : N % 16 < 16 := Nat.mod_lt _ (by omega)
    generalize xs.drop (N / 16) = ys at *
    have H0 := Lib.hid (DownRel.start B16 (2 ^ (N % 16)) ys)
    have hpm : B16 % 2 ^ (N % 16) = 0 := pow_mod_zero (w := 16) (by omega)
    have hpm := Lib.hid hpm
    go_enter Tryd.func51, Tryd.ntmps51
    go_wp2
    go_loop [5, 6] (fun dv iv => ∃ (i t : Nat), iv = .int .i64 i ∧ dv = .int .i64 t ∧ i ≤ N % 16 ∧ t ≤ 65536 ∧ Hid (t = 2 ^ i)) (fun _ iv => N % 16 - (intOf iv).toNat)
    case atStart => exact ⟨0, 1, rfl, rfl, Nat.zero_le _, by omega, rfl⟩
    case round =>
      obtain ⟨i, t, rfl, rfl, hi, ht, HT⟩ := hrel
      by_cases h1 : i < N % 16
      · have HS : Hid (2 * t = 2 ^ (i + 1)) := by show 2 * t = 2 ^ (i + 1); rw [HT.out, Nat.pow_succ]; omega
        have hb : 2 * t ≤ 65536 := by
          rw [HS.out]; exact Nat.pow_le_pow_right (show 0 < 2 by omega) (show i + 1 ≤ 16 by omega)
        go_wp2
        go_round
        case rel => exact ⟨i + 1, 2 * t, by go_num, by go_num, by omega, hb, HS⟩
        case measure => simp [intOf]; omega
      · obtain rfl : i = N % 16 := by omega
        have htp : 1 ≤ t := by rw [HT.out]; exact Nat.pow_pos (by omega)
        go_wp2
        rw [← HT.out] at H0 hpm
        go_loopg [7, 8] (ys.length) (fun g ov iv wr => ∃ (i : Nat) (q : Option Addr) (e : Nat) (O : List Nat), iv = .int .i64 ((N / 16 + i : Nat) : Int) ∧ ov = .slice q O.length e ∧ g + i = ys.length ∧ i ≤ ys.length ∧ Hid (O.length = i) ∧
            Own wr w.heap.size .i64 3 q e O ∧ Below w.heap.size w wr ∧ Hid (DownRel B16 t O ys i))
        case atStart => exact ⟨0, none, 0, [], by go_num, rfl, by omega, by omega, rfl, Own.nil _ _ _ _, Below.refl _ _, H0⟩
        case round =>
          obtain ⟨i, q, e, O, rfl, rfl, hg, hi, hO, hoq, hb, HR⟩ := hrel
          have hpL := hp.past hb
          have hyd := getD_lt (B := 65536) (by omega) ys HY.out i
          have hyd2 := getD_lt (B := 65536) (by omega) ys HY.out (i + 1)
          by_cases hlt : i < ys.length
          · have hc1 := hpL.cells (N / 16 + i) (by omega)
            rw [← HG.out] at hc1
            obtain ⟨v, hv⟩ : ∃ v, v = dg ys i / t := ⟨_, rfl⟩
            have ev : ((dg ys i : Nat) : Int) / (t : Int) = (v : Nat) := by rw [hv]; rfl
            have hvd : v < 65536 := by rw [hv]; exact Nat.lt_of_le_of_lt (Nat.div_le_self _ _) hyd
            by_cases h2 : i + 1 < ys.length
            · have hc2 := hpL.cells (N / 16 + (i + 1)) (by omega)
              rw [← HG.out] at hc2
              obtain ⟨m, hm⟩ : ∃ m, m = dg ys (i + 1) % t := ⟨_, rfl⟩
              obtain ⟨k, hk2⟩ : ∃ k, k = 65536 / t := ⟨_, rfl⟩
              obtain ⟨r, hr⟩ : ∃ r, r = m * k := ⟨_, rfl⟩
              obtain ⟨u, hu⟩ : ∃ u, u = v + r := ⟨_, rfl⟩
              have hue : u = dg ys i / t + dg ys (i + 1) % t * (B16 / t) := by rw [hu, hr, hm, hk2, hv]; rfl
              have hub : u < 65536 := by rw [hue]; exact shr_lt htp hpm.out hyd
              have HS := Lib.hid (HR.out.step htp hpm.out HY.out hlt u hue)
              have hkb : k ≤ 65536 := by rw [hk2]; exact Nat.div_le_self _ _
              have i0 : (0 : Int) ≤ (N : Int) / 16 + i + 1 := by omega
              have i1 : (N : Int) / 16 + i + 1 < (xs.length : Int) := by omega
              have e1 : IntKind.i64.wrap ((N : Int) / 16 + i + 1) = (N : Int) / 16 + i + 1 := IntWalk.i64_in _ (by omega)
              have e2 : ((dg ys (i + 1) : Nat) : Int).tmod (t : Int) = (m : Nat) := by rw [Int.tmod_eq_emod_of_nonneg (by omega), hm]; rfl
              have e3 : IntKind.i64.wrap ((65536 : Int) / (t : Int)) = (k : Nat) := by rw [hk2]; exact IntWalk.i64_in _ (by have : ((65536 / t : Nat) : Int) = 65536 / (t : Int) := rfl; omega)
              have e4 : IntKind.i64.wrap ((m : Int) * (k : Int)) = (r : Nat) := by
                have : (m : Int) * (k : Int) = (r : Nat) := by rw [hr]; simp
                rw [this]; exact IntWalk.i64_in _ (by omega)
              have e5 : IntKind.i64.wrap ((v : Int) + (r : Int)) = (u : Nat) := by rw [hu]; exact IntWalk.i64_in _ (by omega)
              have e6 : ((N : Int) / 16 + i + 1).toNat = N / 16 + (i + 1) := by omega
              have e7 : ¬ t = 0 := by omega
              have e8 : (65536 : Int).tdiv (t : Int) = (65536 : Int) / (t : Int) := Int.tdiv_eq_ediv_of_nonneg (by omega)
              clear hu hr hm hk2 hv hue
              go_wp2_with fail
              go_quiet (fail)
              have hoq := hoq.drewN nq
              have hb := hb.trans (below_drewN (Below.refl _ wr) nq)
              clear e1 e2 e3 e4 e5 e6 e7 e8 i0 i1 hc1 hc2 hpL
              go_wp2_with (first
                | (refine wpl_build1 rfl _ _ rfl tyN _ ?_ rfl ?_; omega; intro p2 w2 ho2 hb2 hz2 hp2)
                | (at_builtin; refine wpl_append rfl _ _ _ rfl tyN _ _ _ _ _ (hoq.past hb2) rfl _ _ _ _ ho2.rd rfl rfl rfl ?_ ?_ ?_; (have := hO.out; simp; omega); (have := hb2.size; have := hb.size; omega); intro p3 c3 w3 ho3 hg3 hb3 hn3))
              have hb4 := hb.trans ((hb2.mono hb.size).trans hb3)
              rw [Int.toNat_natCast] at ho3
              go_roundg (ys.length - 1 - i)
              case measure => omega
              case rel => exact ⟨i + 1, p3, c3, _, by go_num, by simp, by omega, by omega, (by show (O ++ _).length = _; have := hO.out; rw [List.length_append, List.length_singleton]; omega), ho3, hb4, HS⟩
            · have HS := Lib.hid (HR.out.step htp hpm.out HY.out hlt v (by rw [hv, dg_of_ge (show ys.length ≤ i + 1 by omega), Nat.zero_mod, Nat.zero_mul]; rfl))
              clear hv
              go_wp2_with (first
                | (refine wpl_build1 rfl _ _ rfl tyN _ ?_ rfl ?_; omega; intro p2 w2 ho2 hb2 hz2 hp2)
                | (at_builtin; refine wpl_append rfl _ _ _ rfl tyN _ _ _ _ _ (hoq.past hb2) rfl _ _ _ _ ho2.rd rfl rfl rfl ?_ ?_ ?_; (have := hO.out; simp; omega); (have := hb2.size; have := hb.size; omega); intro p3 c3 w3 ho3 hg3 hb3 hn3))
              have hb4 := hb.trans ((hb2.mono hb.size).trans hb3)
              rw [Int.toNat_natCast] at ho3
              go_roundg (ys.length - 1 - i)
              case measure => omega
              case rel => exact ⟨i + 1, p3, c3, _, by go_num, by simp, by omega, by omega, (by show (O ++ _).length = _; have := hO.out; rw [List.length_append, List.length_singleton]; omega), ho3, hb4, HS⟩
          · obtain rfl : i = ys.length := by omega
            have HD := Lib.hid (down_done (by rw [← HT.out]; exact HR.out) HV.out)
            have HX := Lib.hid HR.out.1
            go_wp2_with (go_at_call 68; refine (refTrim_any _ _ _ O _ hoq.rd rfl hoq.le_cap HX.out (by rw [hO.out]; omega)).mono ?_; rintro e w3 ⟨rfl, rfl⟩)
            go_ret
            have ht := take_dig_len B16_two O HX.out
            have ho2 := hoq.take (dig B16 (val B16 O)).length
            rw [ht, HD.out] at ho2
            rw [HD.out]
            exact ⟨q, _, rfl, ho2.rd, Nat.le_refl _, own_blk ho2, hb⟩

end Go.Proofs.YtcbjidcpcompoaaDoor
