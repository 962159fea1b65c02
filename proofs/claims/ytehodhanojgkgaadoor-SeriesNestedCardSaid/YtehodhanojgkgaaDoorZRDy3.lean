/- The references' SameNat, SameDyad, whatever the two are; ToDyad. -/
import Derived.Test.YtehodhanojgkgaaDoorZRDy2
namespace Go.Proofs.YtehodhanojgkgaaDoor
open Go.RowKit Go.Slip

instance decDv : DecidableEq Dv := fun a b => decidable_of_iff (a.neg = b.neg ∧ a.m = b.m ∧ a.e = b.e) ⟨fun h => Dv.ext' h.1 h.2.1 h.2.2, fun h => by subst h; exact ⟨rfl, rfl, rfl⟩⟩

set_option maxHeartbeats 1000000 in
theorem refSameNat_dec (p q : Option Addr) (n c m d : Nat) (xs ys : List Nat) (w : World) (hp : Rd w .u32 p xs) (hq : Rd w .u32 q ys) (hn : n = xs.length) (hm : m = ys.length) (hl : xs.length ≤ 1000000000) (_hl2 : ys.length ≤ 1000000000) :
    Calls Tryd.prog 64 #[.slice p n c, .slice q m d] w fun e w' => e = .returned (.bool (decide (xs = ys))) ∧ Below w.heap.size w w' := by
  by_cases he : xs = ys
  · have h1 : decide (xs = ys) = true := decide_eq_true he
    rw [h1]
    exact refSameNat_any p q n c m d xs ys w hp hq hn hm he (by omega)
  · subst hn hm
    have h1 : decide (xs = ys) = false := decide_eq_false he
    rw [h1]
    have hs1 := hp.solid
    have hs2 := hq.solid
    by_cases hlen : xs.length = ys.length
    · have HN : Hid (∃ j, j < xs.length ∧ dg xs j ≠ dg ys j) := by
        apply Classical.byContradiction
        intro hc
        apply he
        apply list_ext_dg hlen
        intro t ht
        apply Classical.byContradiction
        intro hne
        exact hc ⟨t, ht, hne⟩
      have HL := Lib.hid hlen
      rw [← hlen] at hs2
      rw [← hlen]
      clear he h1 hlen
      go_enter Tryd.func64, Tryd.ntmps64
      go_wp2
      go_loopw [5] (fun iv wr => ∃ (i : Nat), iv = .int .i64 i ∧ i ≤ xs.length ∧ Below w.heap.size w wr ∧ Hid (∀ j, j < i → dg xs j = dg ys j)) (fun iv _ => xs.length - (intOf iv).toNat)
      case atStart => exact ⟨0, rfl, Nat.zero_le _, Below.refl _ _, (show ∀ j, j < 0 → dg xs j = dg ys j from fun j hj => by omega)⟩
      case round =>
        obtain ⟨i, rfl, hi, hb, HE⟩ := hrel
        by_cases hlt : i < xs.length
        · have hc1 := (hp.past hb).cells i hlt
          have hc2 := (hq.past hb).cells i (by rw [← HL.out]; exact hlt)
          have i1 : (i : Int) < (xs.length : Int) := by omega
          have i0 : (0 : Int) ≤ (i : Int) := by omega
          by_cases hd : dg xs i = dg ys i
          · rw [← hd] at hc2
            have HS : Hid (∀ j, j < i + 1 → dg xs j = dg ys j) := fun j hj => by
              by_cases hji : j = i
              · subst hji; exact hd
              · exact HE.out j (by omega)
            clear hd
            go_wp2_with fail
            go_quiet (fail)
            go_wp2
            go_roundw
            case measure => simp [intOf]; omega
            case rel => exact ⟨i + 1, by go_num, hlt, hb.trans (below_drewN (Below.refl _ _) _), HS⟩
          · have h2 : (((dg xs i : Nat) : Int) == ((dg ys i : Nat) : Int)) = false := beq_eq_false_iff_ne.2 (by omega)
            have h3 : (((dg xs i : Nat) : Int) != ((dg ys i : Nat) : Int)) = true := by rw [bne, h2]; rfl
            clear hd
            go_wp2_with fail
            go_quiet (fail)
            go_wp2
            go_ret
            exact ⟨rfl, hb.trans (below_drewN (Below.refl _ _) _)⟩
        · exfalso
          obtain ⟨j, hj, hne⟩ := HN.out
          exact hne (HE.out j (by omega))
    · have h2 : ((xs.length : Int) == (ys.length : Int)) = false := beq_eq_false_iff_ne.2 (by omega)
      have h3 : ((xs.length : Int) != (ys.length : Int)) = true := by rw [bne, h2]; rfl
      clear he h1 hlen
      go_enter Tryd.func64, Tryd.ntmps64
      go_wp2
      go_ret
      exact ⟨rfl, Below.refl _ _⟩

set_option maxHeartbeats 1000000 in
theorem refSameDyad_dec (g h : Bool) (p q : Option Addr) (n c m d : Nat) (e f : Int) (a b : Nat) (w : World) (hp : Rd w .u32 p (dig B32 a)) (hq : Rd w .u32 q (dig B32 b)) (hn : n = (dig B32 a).length) (hm : m = (dig B32 b).length) (hl : (dig B32 a).length ≤ 1000000000) (hl2 : (dig B32 b).length ≤ 1000000000) :
    Calls Tryd.prog 37 #[.agg #[.bool g, .slice p n c, .int .i64 e], .agg #[.bool h, .slice q m d, .int .i64 f]] w fun en w' => en = .returned (.bool (decide ((⟨g, a, e⟩ : Dv) = ⟨h, b, f⟩))) ∧ Below w.heap.size w w' := by
  subst hn hm
  have hs1 := two_laid w (.cells #[.bool g, .slice p (dig B32 a).length c, .int .i64 e] 25) (.cells #[.bool h, .slice q (dig B32 b).length d, .int .i64 f] 25)
  have hp1 := (hp.laid (.cells #[.bool g, .slice p (dig B32 a).length c, .int .i64 e] 25)).laid (.cells #[.bool h, .slice q (dig B32 b).length d, .int .i64 f] 25)
  have hq1 := (hq.laid (.cells #[.bool g, .slice p (dig B32 a).length c, .int .i64 e] 25)).laid (.cells #[.bool h, .slice q (dig B32 b).length d, .int .i64 f] 25)
  by_cases hg : g = h
  · by_cases he : e = f
    · subst hg he
      have h1 : decide ((⟨g, a, e⟩ : Dv) = ⟨g, b, e⟩) = decide (dig B32 a = dig B32 b) := by
        by_cases hab : a = b
        · subst hab; simp
        · rw [decide_eq_false (fun h => hab (congrArg Dv.m h)), decide_eq_false (fun h => hab (dig_inj B32_two h))]
      rw [h1]
      clear h1
      have t1 : (g == g) = true := by simp
      have t2 : (e == e) = true := by simp
      go_enter Tryd.func37, Tryd.ntmps37
      go_wp2_with fail
      ((with_reducible refine (refSameNat_dec p q _ c _ d (dig B32 a) (dig B32 b) _ hp1 hq1 rfl rfl hl hl2).mono ?_))
      rintro e2 w2 ⟨rfl, hb2⟩
      go_wp2
      go_ret
      exact ⟨rfl, hs1.trans (hb2.mono hs1.size)⟩
    · subst hg
      have h1 : decide ((⟨g, a, e⟩ : Dv) = ⟨g, b, f⟩) = false := decide_eq_false (fun h => he (congrArg Dv.e h))
      rw [h1]
      have t1 : (g == g) = true := by simp
      have t2 : (e == f) = false := beq_eq_false_iff_ne.2 he
      clear h1 he
      go_enter Tryd.func37, Tryd.ntmps37
      go_wp2
      go_ret
      exact ⟨rfl, hs1⟩
  · have h1 : decide ((⟨g, a, e⟩ : Dv) = ⟨h, b, f⟩) = false := decide_eq_false (fun h => hg (congrArg Dv.neg h))
    rw [h1]
    have t1 : (g == h) = false := by simpa using hg
    clear h1 hg
    go_enter Tryd.func37, Tryd.ntmps37
    go_wp2
    go_ret
    exact ⟨rfl, hs1⟩

theorem givesDE_zero {w wk : World} {base b : Nat} {er : Int} {v0 v1 v2 : Value} (hs : Below w.heap.size w wk) (hB : w.heap.size ≤ b) :
    GivesDE w base ⟨false, 0, 0⟩ er (.returned (.tuple #[.agg #[.bool false, .slice none 0 0, .int .i64 0], .int .i64 er])) (((wk.setCell ⟨b, 0, none⟩ v0).setCell ⟨b, 1, none⟩ v1).setCell ⟨b, 2, none⟩ v2) :=
  ⟨none, 0, by rw [dig_zero]; rfl, by rw [dig_zero]; exact Own.nil _ _ _ _, ((hs.setCell (by simp; omega) _).setCell (by simp; omega) _).setCell (by simp; omega) _⟩

theorem errD_many {d : Dv} (h : 1200 < (dig B32 d.m).length) : errD d = 2 ∧ doneD d = ⟨false, 0, 0⟩ := by
  have he : errD d = 2 := by unfold errD; rw [if_pos h]
  exact ⟨he, by unfold doneD; rw [he, if_neg (by omega)]; rfl⟩
theorem errD_far {d : Dv} (h : ¬ 1200 < (dig B32 d.m).length) (h2 : d.e < -20000 ∨ 20000 < d.e) : errD d = 3 ∧ doneD d = ⟨false, 0, 0⟩ := by
  have he : errD d = 3 := by unfold errD; rw [if_neg h, if_pos h2]
  exact ⟨he, by unfold doneD; rw [he, if_neg (by omega)]; rfl⟩
theorem errD_ok {d : Dv} (h : ¬ 1200 < (dig B32 d.m).length) (h2 : ¬ (d.e < -20000 ∨ 20000 < d.e)) : errD d = 0 ∧ doneD d = d := by
  have he : errD d = 0 := by unfold errD; rw [if_neg h, if_neg h2]
  exact ⟨he, by unfold doneD; rw [he, if_pos rfl]⟩

end Go.Proofs.YtehodhanojgkgaaDoor
