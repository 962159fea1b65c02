/- The references' DCut. -/
import Derived.Test.YtehodhanojgkgaaDoorZRDy5
import Derived.Test.YtehodhanojgkgaaDoorZE
import Derived.Test.YtehodhanojgkgaaDoorZRef10
namespace Go.Proofs.YtehodhanojgkgaaDoor
open Go.RowKit Go.Slip

theorem rCut_small {g : Bool} {m : Nat} {e : Int} {b : Nat} (up : Bool) (h : blen m ≤ b) : rCut ⟨g, m, e⟩ b up = ⟨g, m, e⟩ := by unfold rCut; rw [if_pos h]
theorem rCut_same {g up : Bool} {m : Nat} {e : Int} {b N : Nat} (h : blen m = b + N) (h0 : 0 < N) (hu : ¬ (m % 2 ^ N ≠ 0 ∧ up ≠ g)) : rCut ⟨g, m, e⟩ b up = bare ⟨g, m / 2 ^ N, e + N⟩ := by
  unfold rCut
  rw [if_neg (by simp only; omega)]
  have h1 : blen m - b = N := by omega
  simp only [h1]
  rw [if_neg hu]
  rfl
theorem rCut_more {g up : Bool} {m : Nat} {e : Int} {b N : Nat} (h : blen m = b + N) (h0 : 0 < N) (hu : m % 2 ^ N ≠ 0 ∧ up ≠ g) : rCut ⟨g, m, e⟩ b up = bare ⟨g, m / 2 ^ N + 1, e + N⟩ := by
  unfold rCut
  rw [if_neg (by simp only; omega)]
  have h1 : blen m - b = N := by omega
  simp only [h1]
  rw [if_pos hu]

set_option maxHeartbeats 4000000 in
set_option maxRecDepth 100000 in
theorem refDCut_any (P : Nat → Prop) (g : Bool) (p : Option Addr) (n c : Nat) (e : Int) (m b : Nat) (up : Bool) (w : World) (hp : Rd w .i64 p (dig B16 m)) (hn : n = (dig B16 m).length) (hc : n ≤ c) (hP : 0 < (dig B16 m).length → P (blk p)) (hl : (dig B16 m).length ≤ 1000000)
    (he : -1000000 ≤ e ∧ e ≤ 1000000) (hb : b ≤ 1000000) :
    Calls Tryd.prog 27 #[.agg #[.bool g, .slice p n c, .int .i64 e], .int .i64 b, .bool up] w (GivesF w P (rCut ⟨g, m, e⟩ b up)) := by
  subst hn
  obtain ⟨W1, hW1, hs1, A1, R1, hz1⟩ := box2s w (.bool g) (.slice p (dig B16 m).length c) (.int .i64 e) (.bool false) (.slice none 0 0) (.int .i64 0) 36 36
  have hp1 := hp.past hs1
  have hbl := blen_len16 m
  have hp0 : 0 < (dig B16 m).length → blk p < w.heap.size := fun h => hp.lt h
  have HW1 := Lib.hid hW1
  clear hW1
  have a0 := A1.c0
  have a1 := A1.c1
  have a2 := A1.c2
  by_cases h : blen m ≤ b
  · rw [rCut_small up h]
    obtain ⟨L, hL⟩ : ∃ L, blen m = L := ⟨_, rfl⟩
    have HL := Lib.hid hL
    rw [hL] at h hbl
    clear hL
    obtain ⟨d0, d1, d2, f0, f1, f2, dlt⟩ := R1
    go_enter Tryd.func27, Tryd.ntmps27
    go_wp2_with fail
    rw [← HW1.out]
    ((with_reducible refine (refLen_any p _ c m _ hp1 rfl (by omega)).mono ?_))
    rintro e2 w2 ⟨rfl, rfl⟩
    rw [HL.out]
    clear HW1
    go_wp2_with fail
    refine bodyPost_ret (v := .agg #[.bool g, .slice p (dig B16 m).length c, .int .i64 e]) (by simp [results, Tryd.results27, go_sem, d0, d1, d2]) rfl ?_
    exact givesF_close (d := ⟨g, m, e⟩) hs1 hp1 hc (fun h => .inl (hP h)) (by omega) (fun h => by have := hp0 h; omega)
  · obtain ⟨N, hN⟩ : ∃ N, blen m = b + N := ⟨blen m - b, by omega⟩
    have hN0 : 0 < N := by omega
    obtain ⟨L, hL⟩ : ∃ L, blen m = L := ⟨_, rfl⟩
    have HL := Lib.hid hL
    have e1 : (L : Int) - (b : Int) = (N : Int) := by omega
    have hLb : L ≤ 32000000 := by omega
    have hLN : N ≤ L := by omega
    have lm : (dig B16 (m / 2 ^ N)).length ≤ (dig B16 m).length := dig_len_mono B16_two (Nat.div_le_self _ _)
    have lp2 : (dig B16 (2 ^ N)).length ≤ 100000000 := by
      have : (dig B16 (2 ^ N)).length = N / 16 + 1 := by rw [← pow2_dig (B := B16) (w := 16) (by decide) (by omega) N]; simp
      omega
    have h2N : 0 < 2 ^ N := Nat.pow_pos (by omega)
    have HN := Lib.hid hN
    clear h hL hN hbl
    go_enter Tryd.func27, Tryd.ntmps27
    go_wp2_with fail
    rw [← HW1.out]
    clear HW1
    ((with_reducible refine (refLen_any p _ c m _ hp1 rfl (by omega)).mono ?_))
    rintro e2 w2 ⟨rfl, rfl⟩
    rw [HL.out]
    go_wp2_with fail
    clear e1
    go_cut [8, 9] (fun s8 s9 wx => ∃ (pq : Option Addr) (cq : Nat) (pr : Option Addr) (cr : Nat), s8 = .slice pq (dig B16 (m / 2 ^ N)).length cq ∧ s9 = .slice pr (dig B16 (m % 2 ^ N)).length cr ∧
      Rd wx .i64 pq (dig B16 (m / 2 ^ N)) ∧ Below W1.heap.size W1 wx)
    case first =>
      clear a0 a1 a2
      go_region_held3 (fun w' => w'.cell? ⟨w.heap.size, 0, none⟩ = some (.bool g) ∧ w'.cell? ⟨w.heap.size, 1, none⟩ = some (.slice p (dig B16 m).length c) ∧ w'.cell? ⟨w.heap.size, 2, none⟩ = some (.int .i64 e))
        (first
           | exact ⟨((A1.drew.past hb2).past hb3).c0, ((A1.drew.past hb2).past hb3).c1, ((A1.drew.past hb2).past hb3).c2⟩
           | exact ⟨(A1.drew.past hb2).c0, (A1.drew.past hb2).c1, (A1.drew.past hb2).c2⟩
           | exact ⟨A1.drew.c0, A1.drew.c1, A1.drew.c2⟩
           | exact ⟨A1.c0, A1.c1, A1.c2⟩)
        (first
          | (go_at_call 47; refine (refPow2_any N _ (by omega)).mono ?_; rintro e2 w2 ⟨p2, c2, rfl, hr2, hc2, hf2, hb2⟩)
          | (go_at_call 46; refine (refInto_all p p2 _ _ c c2 m (2 ^ N) _ (hp1.drew.past hb2) hr2 rfl rfl (by omega) lp2 h2N).mono ?_; rintro e3 w3 ⟨p3, c3, p4, c4, rfl, hr3, _, _, _, _, _, hb3⟩))
      all_goals (go_wp2_with fail)
      all_goals go_meet
      all_goals exact ⟨p3, c3, p4, c4, rfl, rfl, hr3, ((Below.refl _ _).drew.trans hb2).trans (hb3.mono hb2.size)⟩
    case rest =>
      obtain ⟨pq, cq, pr, cr, rfl, rfl, hrq, hb3⟩ := hcut
      have hs3 := hs1.trans (hb3.mono hs1.size)
      have hz3 := hb3.size
      replace A1 := A1.past hb3
      replace R1 := R1.past hb3
      clear a0 a1 a2
      have a0 := A1.c0
      have a1 := A1.c1
      have a2 := A1.c2
      obtain ⟨lr, hlr⟩ : ∃ lr, (dig B16 (m % 2 ^ N)).length = lr := ⟨_, rfl⟩
      have hl0 : lr = 0 ↔ m % 2 ^ N = 0 := by rw [← hlr]; exact dig_len_zero B16_two _
      rw [hlr]
      clear hlr
      by_cases hu : m % 2 ^ N ≠ 0 ∧ up ≠ g
      · have HC := Lib.hid (rCut_more (e := e) HN.out hN0 hu)
        have t0 : (up == g) = false := by simpa using hu.2
        have t1 : (up != g) = true := by rw [bne, t0]; rfl
        have t2 : (0 : Int) < (lr : Int) := by
          have : lr ≠ 0 := fun h => hu.1 (hl0.1 h)
          omega
        have l1 : (dig B16 1) = [1] := by rw [dig_pos B16_two (by omega)]; simp [B16, dig_zero]
        have lm2 : (dig B16 (m / 2 ^ N + 1)).length ≤ (dig B16 (m / 2 ^ N)).length + (dig B16 1).length + 1 := dig_len_add B16_two _ _
        have HL1 := Lib.hid l1
        rw [l1] at lm2
        simp only [List.length_cons, List.length_nil] at lm2
        clear hu hl0 l1
        have hb4 : Below wc.heap.size wc (wc.alloc (.cells #[.int .i64 1] 3)) := (Below.refl _ _).alloc (Nat.le_refl _) _
        have hlit := (own_one wc .i64 3 1 (by omega)).rd
        rw [show Int.toNat 1 = 1 from rfl] at hlit
        go_wp2_with fail
        ((with_reducible refine (refPlus_any pq (some ⟨wc.heap.size, 0, none⟩) _ _ cq 1 (m / 2 ^ N) 1 _ (hrq.past hb4) (by rw [HL1.out]; exact hlit) rfl (by rw [HL1.out]; simp) (by rw [HL1.out]; simp; omega)).mono ?_))
        rintro e5 w5 ⟨p5, c5, rfl, hr5, hc5, hf5, hb5⟩
        have hs4 := hs3.trans (hb4.mono hs3.size)
        have hs5 := hs4.trans (hb5.mono hs4.size)
        have hz5 := hb5.size
        clear a0 a1 a2
        replace A1 := A1.past hb4
        replace R1 := R1.past hb4
        replace A1 := A1.past hb5
        replace R1 := R1.past hb5
        obtain ⟨a0, a1, a2, _, _, _, _⟩ := A1
        go_wp2_with fail
        ((with_reducible refine (refBared_any g p5 _ c5 (e + N) (m / 2 ^ N + 1) _ hr5 rfl (by omega) (by omega)).mono ?_))
        rw [← HC.out]
        generalize rCut ⟨g, m, e⟩ b up = rr at *
        rintro e6 w6 ⟨p6, c6, rfl, hr6, hc6, hf6, hb6⟩
        obtain ⟨d0, d1, d2, f0, f1, f2, dlt⟩ := R1.past hb6
        have hzR := R1.lt
        have hzS := hs5.size
        go_wp2_with fail
        refine bodyPost_ret (v := .agg #[.bool rr.neg, .slice p6 (dig B16 rr.m).length c6, .int .i64 rr.e]) (by simp [results, Tryd.results27, go_sem, d0, d1, d2]) rfl ?_
        have hf : 0 < (dig B16 rr.m).length → w5.heap.size ≤ blk p6 := fun h => by rcases hf6 h with h | h; exact h.elim; exact h
        exact givesF_close (hs5.trans (hb6.mono hs5.size)) hr6 hc6 (fun h => .inr (by have := hf h; omega)) (by omega) (fun h => by have := hf h; omega)
      · have HC := Lib.hid (rCut_same (e := e) HN.out hN0 hu)
        by_cases hr : m % 2 ^ N = 0
        · obtain rfl := hl0.2 hr
          clear hu hr hl0
          go_wp2_with fail
          ((with_reducible refine (refBared_any _ pq _ cq (e + N) (m / 2 ^ N) _ hrq rfl (by omega) (by omega)).mono ?_))
          rw [← HC.out]
          generalize rCut ⟨_, m, e⟩ b up = rr at *
          rintro e6 w6 ⟨p6, c6, rfl, hr6, hc6, hf6, hb6⟩
          obtain ⟨d0, d1, d2, f0, f1, f2, dlt⟩ := R1.past hb6
          have hzR := R1.lt
          have hzS := hs3.size
          go_wp2_with fail
          refine bodyPost_ret (v := .agg #[.bool rr.neg, .slice p6 (dig B16 rr.m).length c6, .int .i64 rr.e]) (by simp [results, Tryd.results27, go_sem, d0, d1, d2]) rfl ?_
          have hf : 0 < (dig B16 rr.m).length → wc.heap.size ≤ blk p6 := fun h => by rcases hf6 h with h | h; exact h.elim; exact h
          exact givesF_close (hs3.trans (hb6.mono hs3.size)) hr6 hc6 (fun h => .inr (by have := hf h; omega)) (by omega) (fun h => by have := hf h; omega)
        · have hug : up = g := by
            apply Classical.byContradiction
            intro h
            exact hu ⟨hr, h⟩
          subst hug
          have t1 : (up != up) = false := by simp
          have t2 : (0 : Int) < (lr : Int) := by
            have : lr ≠ 0 := fun h => hr (hl0.1 h)
            omega
          clear hu hr hl0
          go_wp2_with fail
          ((with_reducible refine (refBared_any _ pq _ cq (e + N) (m / 2 ^ N) _ hrq rfl (by omega) (by omega)).mono ?_))
          rw [← HC.out]
          generalize rCut ⟨_, m, e⟩ b up = rr at *
          rintro e6 w6 ⟨p6, c6, rfl, hr6, hc6, hf6, hb6⟩
          obtain ⟨d0, d1, d2, f0, f1, f2, dlt⟩ := R1.past hb6
          have hzR := R1.lt
          have hzS := hs3.size
          go_wp2_with fail
          refine bodyPost_ret (v := .agg #[.bool rr.neg, .slice p6 (dig B16 rr.m).length c6, .int .i64 rr.e]) (by simp [results, Tryd.results27, go_sem, d0, d1, d2]) rfl ?_
          have hf : 0 < (dig B16 rr.m).length → wc.heap.size ≤ blk p6 := fun h => by rcases hf6 h with h | h; exact h.elim; exact h
          exact givesF_close (hs3.trans (hb6.mono hs3.size)) hr6 hc6 (fun h => .inr (by have := hf h; omega)) (by omega) (fun h => by have := hf h; omega)

end Go.Proofs.YtehodhanojgkgaaDoor
