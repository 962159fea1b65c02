/- references: CheckGrid, Width, Away, IsWay, CheckRatio. -/
import Derived.Test.YtpdmajoofllhdaaZGd6
namespace Go.Proofs.Ytpdmajoofllhdaa
open Go.RowKit Go.Slip

def farB (g : Gd) (n : Int) : Bool := decide (farG g n)
theorem farB_true {g : Gd} {n : Int} (h : farG g n) : farB g n = true := by unfold farB; exact decide_eq_true h
theorem farB_false {g : Gd} {n : Int} (h : ¬ farG g n) : farB g n = false := by unfold farB; exact decide_eq_false h

set_option maxHeartbeats 2000000 in
theorem refFar_any (g : Gd) (n : Int) (b : Nat) (w : World) (hB : Bx w b #[.int .i64 g.rad, .int .i64 g.digs, .int .i64 g.lo, .int .i64 g.hi, .bool g.grad]) :
    Calls Try.prog 16 #[.int .i64 n, .pointer (some ⟨b, 0, none⟩)] w fun e w' => e = .returned (.bool (farB g n)) ∧ w = w' := by
  obtain ⟨B_0, -, -, -, -⟩ := hB.e5
  obtain ⟨rad, digs, lo, hi, grad⟩ := g
  simp only at B_0
  clear hB
  by_cases h1 : n < -17000
  · rw [farB_true (by unfold farG most; simp only; split <;> omega)]
    go_enter Try.func16, Try.ntmps16
    go_wp2
    go_ret
    exact ⟨rfl, rfl⟩
  · by_cases h2 : 17000 < n
    · rw [farB_true (by unfold farG most; simp only; split <;> omega)]
      go_enter Try.func16, Try.ntmps16
      go_wp2
      go_ret
      exact ⟨rfl, rfl⟩
    · by_cases hr : rad = 16
      · subst hr
        by_cases h3 : n < -4000
        · rw [farB_true (by unfold farG most; simp; omega)]
          go_enter Try.func16, Try.ntmps16
          go_wp2
          go_ret
          exact ⟨rfl, rfl⟩
        · by_cases h4 : 4000 < n
          · rw [farB_true (by unfold farG most; simp; omega)]
            go_enter Try.func16, Try.ntmps16
            go_wp2
            go_ret
            exact ⟨rfl, rfl⟩
          · rw [farB_false (by unfold farG most; simp; omega)]
            go_enter Try.func16, Try.ntmps16
            go_wp2
            go_ret
            exact ⟨rfl, rfl⟩
      · have t1 : (rad == 16) = false := beq_eq_false_iff_ne.2 hr
        rw [farB_false (by unfold farG most; simp [hr]; omega)]
        clear hr
        go_enter Try.func16, Try.ntmps16
        go_wp2
        go_ret
        exact ⟨rfl, rfl⟩



set_option maxHeartbeats 4000000 in
set_option maxRecDepth 100000 in
theorem refCheckGrid_any (g : Gd) (w : World) :
    Calls Try.prog 7 #[.agg #[.int .i64 g.rad, .int .i64 g.digs, .int .i64 g.lo, .int .i64 g.hi, .bool g.grad]] w fun e w' => e = .returned (.int .i64 (errG g)) ∧ Below w.heap.size w w' := by
  obtain ⟨rad, digs, lo, hi, grad⟩ := g
  unfold errG
  simp only
  have hb : Below w.heap.size w (w.alloc (.cells #[.int .i64 rad, .int .i64 digs, .int .i64 lo, .int .i64 hi, .bool grad] 23)) := below_lay1 _ _
  by_cases hr2 : rad = 2
  · subst hr2
    rw [if_neg (by omega)]
    by_cases h1 : digs < 1
    · rw [if_pos (.inl h1)]
      go_enter Try.func7, Try.ntmps7
      go_wp2
      go_ret
      exact ⟨rfl, hb⟩
    · by_cases h2 : 120 < digs
      · rw [if_pos (.inr (.inl h2))]
        go_enter Try.func7, Try.ntmps7
        go_wp2
        go_ret
        exact ⟨rfl, hb⟩
      · by_cases h3 : farG ⟨2, digs, lo, hi, grad⟩ lo
        · rw [if_pos (.inr (.inr (.inl h3)))]
          have t3 := farB_true h3
          clear h3
          go_enter Try.func7, Try.ntmps7
          go_wp2_with (go_at_call 16; refine (refFar_any ⟨2, digs, lo, hi, grad⟩ _ _ _ (bx_new _ _ _)).mono ?_; rintro _ _ ⟨rfl, rfl⟩)
          go_ret
          exact ⟨rfl, hb⟩
        · have t3 := farB_false h3
          by_cases h4 : farG ⟨2, digs, lo, hi, grad⟩ hi
          · rw [if_pos (.inr (.inr (.inr (.inl h4))))]
            have t4 := farB_true h4
            clear h3 h4
            go_enter Try.func7, Try.ntmps7
            go_wp2_with (go_at_call 16; refine (refFar_any ⟨2, digs, lo, hi, grad⟩ _ _ _ (bx_new _ _ _)).mono ?_; rintro _ _ ⟨rfl, rfl⟩)
            go_ret
            exact ⟨rfl, hb⟩
          · have t4 := farB_false h4
            by_cases h5 : hi < lo
            · rw [if_pos (.inr (.inr (.inr (.inr h5))))]
              clear h3 h4
              go_enter Try.func7, Try.ntmps7
              go_wp2_with (go_at_call 16; refine (refFar_any ⟨2, digs, lo, hi, grad⟩ _ _ _ (bx_new _ _ _)).mono ?_; rintro _ _ ⟨rfl, rfl⟩)
              go_ret
              exact ⟨rfl, hb⟩
            · rw [if_neg (by rintro (h | h | h | h | h); exact h1 h; exact h2 h; exact h3 h; exact h4 h; exact h5 h)]
              clear h3 h4
              go_enter Try.func7, Try.ntmps7
              go_wp2_with (go_at_call 16; refine (refFar_any ⟨2, digs, lo, hi, grad⟩ _ _ _ (bx_new _ _ _)).mono ?_; rintro _ _ ⟨rfl, rfl⟩)
              go_ret
              exact ⟨rfl, hb⟩
  · have u2 : (rad == 2) = false := beq_eq_false_iff_ne.2 hr2
    have u2' : (rad != 2) = true := by rw [bne, u2]; rfl
    by_cases hr16 : rad = 16
    · subst hr16
      rw [if_neg (by omega)]
      by_cases h1 : digs < 1
      · rw [if_pos (.inl h1)]
        go_enter Try.func7, Try.ntmps7
        go_wp2
        go_ret
        exact ⟨rfl, hb⟩
      · by_cases h2 : 120 < digs
        · rw [if_pos (.inr (.inl h2))]
          go_enter Try.func7, Try.ntmps7
          go_wp2
          go_ret
          exact ⟨rfl, hb⟩
        · by_cases h3 : farG ⟨16, digs, lo, hi, grad⟩ lo
          · rw [if_pos (.inr (.inr (.inl h3)))]
            have t3 := farB_true h3
            clear h3
            go_enter Try.func7, Try.ntmps7
            go_wp2_with (go_at_call 16; refine (refFar_any ⟨16, digs, lo, hi, grad⟩ _ _ _ (bx_new _ _ _)).mono ?_; rintro _ _ ⟨rfl, rfl⟩)
            go_ret
            exact ⟨rfl, hb⟩
          · have t3 := farB_false h3
            by_cases h4 : farG ⟨16, digs, lo, hi, grad⟩ hi
            · rw [if_pos (.inr (.inr (.inr (.inl h4))))]
              have t4 := farB_true h4
              clear h3 h4
              go_enter Try.func7, Try.ntmps7
              go_wp2_with (go_at_call 16; refine (refFar_any ⟨16, digs, lo, hi, grad⟩ _ _ _ (bx_new _ _ _)).mono ?_; rintro _ _ ⟨rfl, rfl⟩)
              go_ret
              exact ⟨rfl, hb⟩
            · have t4 := farB_false h4
              by_cases h5 : hi < lo
              · rw [if_pos (.inr (.inr (.inr (.inr h5))))]
                clear h3 h4
                go_enter Try.func7, Try.ntmps7
                go_wp2_with (go_at_call 16; refine (refFar_any ⟨16, digs, lo, hi, grad⟩ _ _ _ (bx_new _ _ _)).mono ?_; rintro _ _ ⟨rfl, rfl⟩)
                go_ret
                exact ⟨rfl, hb⟩
              · rw [if_neg (by rintro (h | h | h | h | h); exact h1 h; exact h2 h; exact h3 h; exact h4 h; exact h5 h)]
                clear h3 h4
                go_enter Try.func7, Try.ntmps7
                go_wp2_with (go_at_call 16; refine (refFar_any ⟨16, digs, lo, hi, grad⟩ _ _ _ (bx_new _ _ _)).mono ?_; rintro _ _ ⟨rfl, rfl⟩)
                go_ret
                exact ⟨rfl, hb⟩
    · have u16 : (rad == 16) = false := beq_eq_false_iff_ne.2 hr16
      have u16' : (rad != 16) = true := by rw [bne, u16]; rfl
      rw [if_pos ⟨hr2, hr16⟩]
      clear hr2 hr16
      go_enter Try.func7, Try.ntmps7
      go_wp2
      go_ret
      exact ⟨rfl, hb⟩

set_option maxHeartbeats 1000000 in
theorem refWidth_any (g : Gd) (w : World) :
    Calls Try.prog 21 #[.agg #[.int .i64 g.rad, .int .i64 g.digs, .int .i64 g.lo, .int .i64 g.hi, .bool g.grad]] w fun e w' => e = .returned (.int .i64 (wid g : Nat)) ∧ Below w.heap.size w w' := by
  obtain ⟨rad, digs, lo, hi, grad⟩ := g
  simp only
  unfold wid
  simp only
  have hb : Below w.heap.size w (w.alloc (.cells #[.int .i64 rad, .int .i64 digs, .int .i64 lo, .int .i64 hi, .bool grad] 23)) := below_lay1 _ _
  by_cases h : rad = 16
  · subst h
    go_enter Try.func21, Try.ntmps21
    go_wp2
    go_ret
    exact ⟨by simp, hb⟩
  · have h1 : (rad == 16) = false := beq_eq_false_iff_ne.2 h
    rw [if_neg h]
    clear h
    go_enter Try.func21, Try.ntmps21
    go_wp2
    go_ret
    exact ⟨rfl, hb⟩

set_option maxHeartbeats 2000000 in
theorem refAway_any (way : Int) (neg odd : Bool) (half : Int) (w : World) (h1 : 1 ≤ way) (h2 : way ≤ 5) :
    Calls Try.prog 24 #[.int .i64 way, .bool neg, .bool odd, .int .i64 half] w fun e w' => e = .returned (.bool (awayP way neg odd half)) ∧ w = w' := by
  obtain rfl | rfl | rfl | rfl | rfl : way = 1 ∨ way = 2 ∨ way = 3 ∨ way = 4 ∨ way = 5 := by omega
  · clear h1 h2
    unfold awayP
    simp only [if_true]
    by_cases h : 0 < half
    · go_enter Try.func24, Try.ntmps24
      go_wp2
      go_ret
      exact ⟨by simp [h], rfl⟩
    · by_cases h0 : half = 0
      · subst h0
        cases odd
        · go_enter Try.func24, Try.ntmps24
          go_wp2
          go_ret
          exact ⟨rfl, rfl⟩
        · go_enter Try.func24, Try.ntmps24
          go_wp2
          go_ret
          exact ⟨rfl, rfl⟩
      · have t0 : (half == 0) = false := beq_eq_false_iff_ne.2 h0
        have H := Lib.hid h0
        clear h0
        go_enter Try.func24, Try.ntmps24
        go_wp2
        go_ret
        exact ⟨by simp [H.out, show ¬ 0 < half from by omega], rfl⟩
  · clear h1 h2
    have e : awayP 2 neg odd half = decide (0 ≤ half) := rfl
    rw [e]
    clear e
    by_cases h : 0 ≤ half
    · go_enter Try.func24, Try.ntmps24
      go_wp2
      go_ret
      exact ⟨by simp [h], rfl⟩
    · go_enter Try.func24, Try.ntmps24
      go_wp2
      go_ret
      exact ⟨by simp; omega, rfl⟩
  · clear h1 h2
    have e : awayP 3 neg odd half = false := rfl
    rw [e]
    clear e
    go_enter Try.func24, Try.ntmps24
    go_wp2
    go_ret
    exact ⟨rfl, rfl⟩
  · clear h1 h2
    have e : awayP 4 neg odd half = !neg := rfl
    rw [e]
    clear e
    go_enter Try.func24, Try.ntmps24
    go_wp2
    go_ret
    exact ⟨rfl, rfl⟩
  · clear h1 h2
    have e : awayP 5 neg odd half = neg := rfl
    rw [e]
    clear e
    go_enter Try.func24, Try.ntmps24
    go_wp2
    go_ret
    exact ⟨rfl, rfl⟩

set_option maxHeartbeats 1000000 in
theorem refIsWay_any (k : Int) (w : World) :
    Calls Try.prog 10 #[.int .i64 k] w fun e w' => e = .returned (.bool (wayB k)) ∧ w = w' := by
  by_cases h1 : 1 ≤ k
  · by_cases h2 : k ≤ 5
    · rw [wayB_true h1 h2]
      go_enter Try.func10, Try.ntmps10
      go_wp2
      go_ret
      exact ⟨rfl, rfl⟩
    · rw [wayB_false (by omega)]
      go_enter Try.func10, Try.ntmps10
      go_wp2
      go_ret
      exact ⟨rfl, rfl⟩
  · rw [wayB_false (by omega)]
    go_enter Try.func10, Try.ntmps10
    go_wp2
    go_ret
    exact ⟨rfl, rfl⟩

set_option maxHeartbeats 2000000 in
theorem refCheckRatio_any (a : Rin) (w : World) (ha : InR w a) :
    Calls Try.prog 9 #[.agg #[.bool a.g, .slice a.p a.xs.length a.c, .slice a.q a.ys.length a.d, .int .i64 a.e]] w fun e w' => e = .returned (.int .i64 (errRat a)) ∧ Below w.heap.size w w' := by
  have hb : Below w.heap.size w (w.alloc (.cells #[.bool a.g, .slice a.p a.xs.length a.c, .slice a.q a.ys.length a.d, .int .i64 a.e] 31)) := below_lay1 _ _
  have HT := fun W h1 h2 => Lib.hid (refTwoNats_any a.p a.q _ a.c _ a.d a.xs a.ys W h1 h2 rfl rfl ha.l1 ha.l2)
  have e0 : errRat a = if err2 a.xs a.ys ≠ 0 then err2 a.xs a.ys else if a.ys.length = 0 ∨ a.e < -20000 ∨ 20000 < a.e then 3 else 0 := by
    unfold errRat err2
    by_cases h1 : errNat a.xs = 0
    · simp only [h1, ne_eq, not_true_eq_false, if_false, if_true]
    · simp only [h1, ne_eq, not_false_eq_true, if_true, if_false]
  rw [e0]
  obtain ⟨e2, he2⟩ : ∃ e2, err2 a.xs a.ys = e2 := ⟨_, rfl⟩
  simp only [he2] at HT
  rw [he2]
  clear e0 he2
  by_cases h0 : e2 = 0
  · subst h0
    rw [if_neg (by simp)]
    by_cases hy : a.ys.length = 0
    · have t1 : ((a.ys.length : Int) == 0) = true := by rw [hy]; rfl
      rw [if_pos (.inl hy)]
      clear hy
      go_enter Try.func9, Try.ntmps9
      go_wp2_with fail
      ((with_reducible refine (HT _ (ha.r1.laid _) (ha.r2.laid _)).out.mono ?_))
      rintro _ _ ⟨rfl, rfl⟩
      go_wp2
      go_ret
      exact ⟨rfl, hb⟩
    · have t1 : ((a.ys.length : Int) == 0) = false := beq_eq_false_iff_ne.2 (by omega)
      by_cases hl : a.e < -20000
      · rw [if_pos (.inr (.inl hl))]
        clear hy
        go_enter Try.func9, Try.ntmps9
        go_wp2_with fail
        ((with_reducible refine (HT _ (ha.r1.laid _) (ha.r2.laid _)).out.mono ?_))
        rintro _ _ ⟨rfl, rfl⟩
        go_wp2
        go_ret
        exact ⟨rfl, hb⟩
      · by_cases hh : 20000 < a.e
        · rw [if_pos (.inr (.inr hh))]
          clear hy
          go_enter Try.func9, Try.ntmps9
          go_wp2_with fail
          ((with_reducible refine (HT _ (ha.r1.laid _) (ha.r2.laid _)).out.mono ?_))
          rintro _ _ ⟨rfl, rfl⟩
          go_wp2
          go_ret
          exact ⟨rfl, hb⟩
        · rw [if_neg (by omega)]
          clear hy
          go_enter Try.func9, Try.ntmps9
          go_wp2_with fail
          ((with_reducible refine (HT _ (ha.r1.laid _) (ha.r2.laid _)).out.mono ?_))
          rintro _ _ ⟨rfl, rfl⟩
          go_wp2
          go_ret
          exact ⟨rfl, hb⟩
  · have t1 : (e2 == 0) = false := beq_eq_false_iff_ne.2 h0
    rw [if_pos h0]
    clear h0
    go_enter Try.func9, Try.ntmps9
    go_wp2_with fail
    ((with_reducible refine (HT _ (ha.r1.laid _) (ha.r2.laid _)).out.mono ?_))
    rintro _ _ ⟨rfl, rfl⟩
    go_wp2
    go_ret
    exact ⟨rfl, hb⟩

end Go.Proofs.Ytpdmajoofllhdaa
