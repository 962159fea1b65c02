/- The references' DTimes, Minus, DCmp, FloorOf. -/
import Derived.Test.YtkooikgplpamlaaDoorZRDy4
namespace Go.Proofs.YtkooikgplpamlaaDoor
open Go.RowKit Go.Slip

set_option maxHeartbeats 2000000 in
set_option maxRecDepth 100000 in
theorem refDTimes_any (g h : Bool) (p q : Option Addr) (n c m d : Nat) (e f : Int) (a b : Nat) (w : World) (hp : Rd w .i64 p (dig B16 a)) (hq : Rd w .i64 q (dig B16 b)) (hn : n = (dig B16 a).length) (hm : m = (dig B16 b).length)
    (hl : (dig B16 a).length ≤ 1000000) (hl2 : (dig B16 b).length ≤ 1000000) (he : -1000000 ≤ e ∧ e ≤ 1000000) (hf : -1000000 ≤ f ∧ f ≤ 1000000) :
    Calls Tryd.prog 30 #[.agg #[.bool g, .slice p n c, .int .i64 e], .agg #[.bool h, .slice q m d, .int .i64 f]] w (GivesF w (fun _ => False) (dTimes ⟨g, a, e⟩ ⟨h, b, f⟩)) := by
  subst hn hm
  obtain ⟨W1, hW1, hs1, A1, B1, R1, hz1⟩ := box3s w (.bool g) (.slice p (dig B16 a).length c) (.int .i64 e) (.bool h) (.slice q (dig B16 b).length d) (.int .i64 f) (.bool false) (.slice none 0 0) (.int .i64 0) 37 37 37
  have hp1 := hp.past hs1
  have hq1 := hq.past hs1
  have HW1 := Lib.hid hW1
  obtain ⟨m, hm⟩ : ∃ m, a * b = m := ⟨_, rfl⟩
  have HM := Lib.hid hm
  have HJ := Lib.hid (show dTimes ⟨g, a, e⟩ ⟨h, b, f⟩ = bare ⟨!(g == h), m, e + f⟩ by rw [← hm]; unfold dTimes; cases g <;> cases h <;> rfl)
  have lm : (dig B16 m).length ≤ 5000000 := by rw [← hm]; have := dig_len_mul B16_two a b; omega
  have e1 : IntKind.i64.wrap (e + f) = e + f := IntWalk.i64_in _ (by omega)
  have hr3 : -1000000000 ≤ e + f ∧ e + f ≤ 1000000000 := ⟨by omega, by omega⟩
  clear hm hW1
  go_enter Tryd.func30, Tryd.ntmps30
  go_wp2_with fail
  rw [← HW1.out]
  clear HW1
  go_region_held3 (fun w' => (w'.cell? ⟨w.heap.size, 0, none⟩ = some (.bool g) ∧ w'.cell? ⟨w.heap.size, 1, none⟩ = some (.slice p (dig B16 a).length c) ∧ w'.cell? ⟨w.heap.size, 2, none⟩ = some (.int .i64 e)) ∧
      (w'.cell? ⟨w.heap.size + 1, 0, none⟩ = some (.bool h) ∧ w'.cell? ⟨w.heap.size + 1, 1, none⟩ = some (.slice q (dig B16 b).length d) ∧ w'.cell? ⟨w.heap.size + 1, 2, none⟩ = some (.int .i64 f)))
    (first | exact ⟨⟨A1.c0, A1.c1, A1.c2⟩, B1.c0, B1.c1, B1.c2⟩
           | (have D1 := A1.drew; have D2 := B1.drew; exact ⟨⟨D1.c0, D1.c1, D1.c2⟩, D2.c0, D2.c1, D2.c2⟩)
           | (have D1 := A1.drew.past hb2; have D2 := B1.drew.past hb2; exact ⟨⟨D1.c0, D1.c1, D1.c2⟩, D2.c0, D2.c1, D2.c2⟩)
           | (have D1 := (A1.drew.past hb2).past hb3; have D2 := (B1.drew.past hb2).past hb3; exact ⟨⟨D1.c0, D1.c1, D1.c2⟩, D2.c0, D2.c1, D2.c2⟩)
           | (have D1 := (A1.drew.past hb2).past hb3; have D2 := (B1.drew.past hb2).past hb3; clear e1; exact ⟨⟨(((D1.set (by omega)).set (by omega)).set (by omega)).c0, (((D1.set (by omega)).set (by omega)).set (by omega)).c1, (((D1.set (by omega)).set (by omega)).set (by omega)).c2⟩, (((D2.set (by omega)).set (by omega)).set (by omega)).c0, (((D2.set (by omega)).set (by omega)).set (by omega)).c1, (((D2.set (by omega)).set (by omega)).set (by omega)).c2⟩))
    (first
      | (go_at_call 60; refine (refTimes_any p q _ _ c d a b _ hp1.drew hq1.drew rfl rfl (by clear e1; omega)).mono ?_; rw [HM.out]; rintro ex w2 ⟨p2, c2, rfl, hr2, hc2, hf2, hb2⟩)
      | (go_at_call 63; refine (refBared_any (!(g == h)) p2 _ c2 (e + f) m _ hr2 rfl (by clear e1; omega) hr3).mono ?_; generalize bare ⟨!(g == h), m, e + f⟩ = rr at *; rintro ex w3 ⟨p3, c3, rfl, hr3', hc3, hf3, hb3⟩; obtain ⟨d0, d1, d2, f0, f1, f2, dlt⟩ := (R1.drew.past hb2).past hb3))
  all_goals (go_wp2_with fail)
  refine bodyPost_ret (v := .agg #[.bool rr.neg, .slice p3 (dig B16 rr.m).length c3, .int .i64 rr.e]) (by simp [results, Tryd.results30, go_sem, d0, d1, d2]) rfl ?_
  rw [HJ.out]
  clear e1
  have hs2 := hs1.drew.trans (hb2.mono hs1.size)
  have hzd : W1.drew.heap.size = W1.heap.size := rfl
  have hz2 := hb2.size
  have hf : 0 < (dig B16 rr.m).length → w2.heap.size ≤ blk p3 := fun h => by rcases hf3 h with h | h; exact h.elim; exact h
  exact givesF_close (hs2.trans (hb3.mono hs2.size)) hr3' hc3 (fun h => .inr (by have := hf h; omega)) (by omega) (fun h => by have := hf h; omega)

theorem GivesF.weaken {w w' : World} {P Q : Nat → Prop} {d : Dv} {en : Ending} (h : GivesF w P d en w') (hPQ : ∀ b, P b → Q b) : GivesF w Q d en w' := by
  obtain ⟨p, c, h1, h2, h3, h4, h5⟩ := h
  exact ⟨p, c, h1, h2, h3, fun h0 => (h4 h0).imp (hPQ _) id, h5⟩

set_option maxHeartbeats 1000000 in
theorem refMinus_any (P : Nat → Prop) (g : Bool) (p : Option Addr) (n c : Nat) (e : Int) (a : Nat) (w : World) (hp : Rd w .i64 p (dig B16 a)) (hn : n = (dig B16 a).length) (hc : n ≤ c) (hP : 0 < (dig B16 a).length → P (blk p)) :
    Calls Tryd.prog 34 #[.agg #[.bool g, .slice p n c, .int .i64 e]] w (GivesF w P (dMinus ⟨g, a, e⟩)) := by
  subst hn
  have hz := dig_len_zero B16_two a
  cases g
  · by_cases h0 : 0 < (dig B16 a).length
    · have t1 : decide ((0 : Int) < ((dig B16 a).length : Int)) = true := decide_eq_true (by omega)
      have hd : dMinus ⟨false, a, e⟩ = ⟨true, a, e⟩ := by unfold dMinus; simp; (try omega)
      rw [hd]
      clear hd hz
      go_enter Tryd.func34, Tryd.ntmps34
      go_wp2
      refine bodyPost_ret (v := .agg #[.bool true, .slice p (dig B16 a).length c, .int .i64 e]) (by simp [results, Tryd.results34, go_sem]) rfl ?_
      exact ⟨p, c, rfl, (hp.laid _).laid _, hc, fun h => .inl (hP h), two_laid _ _ _⟩
    · have t1 : decide ((0 : Int) < ((dig B16 a).length : Int)) = false := decide_eq_false (by omega)
      have hd : dMinus ⟨false, a, e⟩ = ⟨false, a, e⟩ := by unfold dMinus; simp; (try omega)
      rw [hd]
      clear hd hz
      go_enter Tryd.func34, Tryd.ntmps34
      go_wp2
      refine bodyPost_ret (v := .agg #[.bool false, .slice p (dig B16 a).length c, .int .i64 e]) (by simp [results, Tryd.results34, go_sem]) rfl ?_
      exact ⟨p, c, rfl, (hp.laid _).laid _, hc, fun h => .inl (hP h), two_laid _ _ _⟩
  · have t0 := True.intro
    have hd : dMinus ⟨true, a, e⟩ = ⟨false, a, e⟩ := by unfold dMinus; simp; (try omega)
    rw [hd]
    clear hd hz
    go_enter Tryd.func34, Tryd.ntmps34
    go_wp2
    refine bodyPost_ret (v := .agg #[.bool false, .slice p (dig B16 a).length c, .int .i64 e]) (by simp [results, Tryd.results34, go_sem]) rfl ?_
    exact ⟨p, c, rfl, (hp.laid _).laid _, hc, fun h => .inl (hP h), two_laid _ _ _⟩

end Go.Proofs.YtkooikgplpamlaaDoor
