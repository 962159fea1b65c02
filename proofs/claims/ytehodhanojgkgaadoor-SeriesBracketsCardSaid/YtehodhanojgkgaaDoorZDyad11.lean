/- dyad: Cut. -/
import Derived.Test.YtehodhanojgkgaaDoorZF
import Derived.Test.YtehodhanojgkgaaDoorZC
import Derived.Test.YtehodhanojgkgaaDoorZLimb6
namespace Go.Proofs.YtehodhanojgkgaaDoor
open Go.RowKit Go.Slip

theorem of_one (w : World) : Calls Tryd.prog 75 #[.int .i64 1] w (Gives w .u32 58 (dig B32 1)) := of_any 1 w (by omega)

theorem pCut_small {g : Bool} {m : Nat} {e : Int} {b : Nat} (up : Bool) (h : blen m ≤ b) : pCut ⟨g, m, e⟩ b up = ⟨g, m, e⟩ := by unfold pCut; rw [if_pos h]
theorem pCut_same {g : Bool} {m : Nat} {e : Int} {b N : Nat} (h : blen m = b + N) (h0 : 0 < N) : pCut ⟨g, m, e⟩ b g = bare ⟨g, m / 2 ^ N, e + N⟩ := by
  unfold pCut
  rw [if_neg (by simp only; omega)]
  simp [h]
theorem pCut_more {g up : Bool} {m : Nat} {e : Int} {b N : Nat} (h : blen m = b + N) (h0 : 0 < N) (hu : up ≠ g) : pCut ⟨g, m, e⟩ b up = bare ⟨g, m / 2 ^ N + 1, e + N⟩ := by
  unfold pCut
  rw [if_neg (by simp only; omega)]
  simp [h, hu]

set_option maxHeartbeats 4000000 in
theorem cutD_any (g : Bool) (p : Option Addr) (n c base : Nat) (e : Int) (m b : Nat) (up : Bool) (w : World) (ho : Own w base .u32 58 p c (dig B32 m)) (hn : n = (dig B32 m).length) (hl : (dig B32 m).length ≤ 1000000)
    (he : -1000000 ≤ e ∧ e ≤ 1000000) (hb : b ≤ 1000000) (hT : TabW w) (hbase : base ≤ w.heap.size) :
    Calls Tryd.prog 53 #[.agg #[.bool g, .slice p n c, .int .i64 e], .int .i64 b, .bool up] w (GivesD w base (pCut ⟨g, m, e⟩ b up)) := by
  subst hn
  obtain ⟨W1, hW1, hs1, A1, R1, hz1⟩ := box2s w (.bool g) (.slice p (dig B32 m).length c) (.int .i64 e) (.bool false) (.slice none 0 0) (.int .i64 0) 62 62
  have ho1 := ho.past hs1
  have hT1 := hT.past hs1
  have hbl := blen_len32 m
  have hp0 : p.isSome = true → blk p < w.heap.size := fun h => (ho.blk_lt h).2
  have HW1 := Lib.hid hW1
  clear hW1
  have a0 := A1.c0
  have a1 := A1.c1
  have a2 := A1.c2
  by_cases h : blen m ≤ b
  · rw [pCut_small up h]
    obtain ⟨L, hL⟩ : ∃ L, blen m = L := ⟨_, rfl⟩
    have HL := Lib.hid hL
    rw [hL] at h hbl
    clear hL
    obtain ⟨d0, d1, d2, f0, f1, f2, dlt⟩ := R1
    go_enter Tryd.func53, Tryd.ntmps53
    go_wp2_with fail
    rw [← HW1.out]
    ((with_reducible refine (len_any p _ c m _ ho1.rd rfl (by omega)).mono ?_))
    rintro e2 w2 ⟨rfl, rfl⟩
    rw [HL.out]
    clear HW1
    go_wp2_with fail
    refine bodyPost_ret (v := .agg #[.bool g, .slice p (dig B32 m).length c, .int .i64 e]) (by simp [results, Tryd.results53, go_sem, d0, d1, d2]) rfl ?_
    exact givesD_close (d := ⟨g, m, e⟩) hs1 ho1 (Nat.le_refl _) (by omega) (fun h => by have := hp0 h; omega)
  · obtain ⟨N, hN⟩ : ∃ N, blen m = b + N := ⟨blen m - b, by omega⟩
    have hN0 : 0 < N := by omega
    obtain ⟨L, hL⟩ : ∃ L, blen m = L := ⟨_, rfl⟩
    have HL := Lib.hid hL
    have e1 : (L : Int) - (b : Int) = (N : Int) := by omega
    have hLb : L ≤ 32000000 := by omega
    have hLN : N ≤ L := by omega
    have lm : (dig B32 (m / 2 ^ N)).length ≤ (dig B32 m).length := dig_len_mono B32_two (Nat.div_le_self _ _)
    by_cases hu : up = g
    · subst hu
      have HC := Lib.hid (pCut_same (g := up) (e := e) hN hN0)
      have t1 : (up != up) = false := by simp
      clear h hL hN hbl
      go_enter Tryd.func53, Tryd.ntmps53
      go_wp2_with fail
      rw [← HW1.out]
      clear HW1
      ((with_reducible refine (len_any p _ c m _ ho1.rd rfl (by omega)).mono ?_))
      rintro e2 w2 ⟨rfl, rfl⟩
      rw [HL.out]
      go_wp2_with fail
      clear e1
      ((with_reducible refine (shr_any p _ c m N _ ho1.rd rfl ho1.le_cap (by omega) (by omega)).mono ?_))
      rintro e4 w4 ⟨p4, c4, rfl, ho4, hb4⟩
      have hs4 := hs1.trans (hb4.mono hs1.size)
      replace A1 := A1.past hb4
      replace R1 := R1.past hb4
      replace hT1 := hT1.past hb4
      clear a0 a1 a2
      obtain ⟨a0, a1, a2, _, _, _, _⟩ := A1
      go_wp2_with fail
      ((with_reducible refine (bareRaw_any up p4 _ c4 (e + N) (m / 2 ^ N) _ ho4.rd rfl ho4.le_cap (by omega) (by omega) hT1).mono ?_))
      rw [← HC.out]
      generalize pCut ⟨up, m, e⟩ b up = rr at *
      rintro e5 w5 ⟨p5, c5, rfl, ho5, hb5⟩
      obtain ⟨d0, d1, d2, f0, f1, f2, dlt⟩ := R1.past hb5
      go_wp2_with fail
      refine bodyPost_ret (v := .agg #[.bool rr.neg, .slice p5 (dig B32 rr.m).length c5, .int .i64 rr.e]) (by simp [results, Tryd.results53, go_sem, d0, d1, d2]) rfl ?_
      have hzR := R1.lt
      exact givesD_close (hs4.trans (hb5.mono hs4.size)) ho5 (Nat.le_trans hbase hs4.size) (by omega) (fun h => by have := (ho5.blk_lt h).1; omega)
    · have HC := Lib.hid (pCut_more (g := g) (e := e) hN hN0 hu)
      have t0 : (up == g) = false := by simpa using hu
      have t1 : (up != g) = true := by rw [bne, t0]; rfl
      have l1 : (dig B32 1).length ≤ 1 := by rw [dig_len_le B32_two]; unfold B32; omega
      have lm2 : (dig B32 (m / 2 ^ N + 1)).length ≤ (dig B32 (m / 2 ^ N)).length + (dig B32 1).length + 1 := dig_len_add B32_two _ _
      clear h hL hN hbl hu
      go_enter Tryd.func53, Tryd.ntmps53
      go_wp2_with fail
      rw [← HW1.out]
      clear HW1
      ((with_reducible refine (len_any p _ c m _ ho1.rd rfl (by omega)).mono ?_))
      rintro e2 w2 ⟨rfl, rfl⟩
      rw [HL.out]
      go_wp2_with fail
      clear e1
      ((with_reducible refine (shr_any p _ c m N _ ho1.rd rfl ho1.le_cap (by omega) (by omega)).mono ?_))
      rintro e4 w4 ⟨p4, c4, rfl, ho4, hb4⟩
      have hs4 := hs1.trans (hb4.mono hs1.size)
      replace A1 := A1.past hb4
      replace R1 := R1.past hb4
      replace hT1 := hT1.past hb4
      clear a0 a1 a2
      have a0 := A1.c0
      go_wp2_with fail
      clear a0
      ((with_reducible refine (of_one _).mono ?_))
      rintro e6 w6 ⟨p6, c6, rfl, ho6, hb6⟩
      have hs6 := hs4.trans (hb6.mono hs4.size)
      replace A1 := A1.past hb6
      replace R1 := R1.past hb6
      replace hT1 := hT1.past hb6
      replace ho4 := ho4.past hb6
      go_wp2_with fail
      ((with_reducible refine (add_any p4 p6 _ _ c4 c6 (m / 2 ^ N) 1 _ ho4.rd ho6.rd rfl rfl (by omega) (by omega)).mono ?_))
      rintro e7 w7 ⟨p7, c7, rfl, ho7, hb7⟩
      have hs7 := hs6.trans (hb7.mono hs6.size)
      replace A1 := A1.past hb7
      replace R1 := R1.past hb7
      replace hT1 := hT1.past hb7
      obtain ⟨a0, a1, a2, _, _, _, _⟩ := A1
      go_wp2_with fail
      ((with_reducible refine (bareRaw_any g p7 _ c7 (e + N) (m / 2 ^ N + 1) _ ho7.rd rfl ho7.le_cap (by omega) (by omega) hT1).mono ?_))
      rw [← HC.out]
      generalize pCut ⟨g, m, e⟩ b up = rr at *
      rintro e5 w5 ⟨p5, c5, rfl, ho5, hb5⟩
      obtain ⟨d0, d1, d2, f0, f1, f2, dlt⟩ := R1.past hb5
      go_wp2_with fail
      refine bodyPost_ret (v := .agg #[.bool rr.neg, .slice p5 (dig B32 rr.m).length c5, .int .i64 rr.e]) (by simp [results, Tryd.results53, go_sem, d0, d1, d2]) rfl ?_
      have hzR := R1.lt
      exact givesD_close (hs7.trans (hb5.mono hs7.size)) ho5 (Nat.le_trans hbase hs7.size) (by omega) (fun h => by have := (ho5.blk_lt h).1; omega)

end Go.Proofs.YtehodhanojgkgaaDoor
