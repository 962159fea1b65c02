/- The law DyadBetween: its walk. -/
import Derived.Test.YtcbjidcpcompoaaDoorZLawDTurn
import Derived.Test.YtcbjidcpcompoaaDoorZDyad14
import Derived.Test.YtcbjidcpcompoaaDoorZDy7
import Derived.Test.YtcbjidcpcompoaaDoorZNat5
namespace Go.Proofs.YtcbjidcpcompoaaDoor
open Go.RowKit Go.Slip



/-- What comes of the calls, where both cuts may be told. -/
structure Btw (a low high bare again : Din) (n : Int) (e e1 e2 e3 e4 e5 x y m k : Int) (D : Dv) : Prop where
  e : e = 0
  e1 : e1 = 0
  e2 : e2 = 0
  e3 : e3 = 0
  e4 : e4 = 0
  e5 : e5 = 0
  x : x ≤ 0
  y : y ≤ 0
  k : k ≤ n
  again : OutOf again D
  low : OutOf low D
  high : ∃ F, OutOf high F ∧ (D = F ↔ m ≤ n) ∧ (dig B32 F.m).length ≤ 1000000000
  len : (dig B32 D.m).length ≤ 1000000000

theorem errFar_ok {e0 n : Int} (h : errFar e0 (n < 1 ∨ 4096 < n) = 0) : e0 = 0 ∧ 1 ≤ n ∧ n ≤ 4096 := by
  unfold errFar at h
  by_cases h1 : e0 = 0
  · rw [if_pos h1] at h
    by_cases h2 : n < 1 ∨ 4096 < n
    · rw [if_pos h2] at h; omega
    · exact ⟨h1, by omega, by omega⟩
  · rw [if_neg h1] at h; exact absurd h h1

theorem bitsS_of {xs : List Nat} {m : Nat} (h : xs = dig B32 m) (hl : (dig B32 m).length ≤ 1200) : errNat xs = 0 ∧ bitsS xs = (blen m : Nat) := by
  have h1 : errNat xs = 0 := by rw [h, Go.Slip.errNat_dig, if_neg (by omega)]
  refine ⟨h1, ?_⟩
  unfold bitsS
  rw [if_pos h1, h, val_dig B32_two]

theorem btw_of {w : World} {a low high bare again : Din} {n e e1 e2 f g : Int} (ha : InD w a) (h1 : OneSpec (errFar (errDy a) (n < 1 ∨ 4096 < n)) (rCut (dyV a) n.toNat false) low e)
    (h2 : OneSpec (errFar (errDy a) (n < 1 ∨ 4096 < n)) (rCut (dyV a) n.toNat true) high f) (h3 : OneSpec (errDy a) (dyV a) bare e1)
    (h4 : OneSpec (errFar (errDy low) (n < 1 ∨ 4096 < n)) (rCut (dyV low) n.toNat true) again e2) (he : e = 0) (hf : f = 0) (_ : g = 0) :
    Btw a low high bare again n e1 (errDy2 low a) (errDy2 a high) (errNat bare.xs) e2 (errNat high.xs) (cmpTwo low a) (cmpTwo a high) (bitsS bare.xs) (bitsS high.xs) (rCut (dyV a) n.toNat false) := by
  obtain ⟨p1, p2, p3⟩ := h1.ok he
  obtain ⟨_, q2, q3⟩ := h2.ok hf
  obtain ⟨r1, r2, r3⟩ := errFar_ok p1
  obtain ⟨l1, l2, l3⟩ := dyV_bd ha r1
  have hn : 0 < n.toNat := by omega
  have hD := dyV_bare a
  obtain ⟨g1, g2⟩ := p3.good (rCut_bare hD _ _) p2
  obtain ⟨g3, g4⟩ := q3.good (rCut_bare hD _ _) q2
  have k1 := rCut_e (a := dyV a) false hn
  have k2 := errD_bd p2
  have k3 := errD_bd q2
  have k4 : errD (dyV a) = 0 := errD_of l1 l2 (by omega)
  obtain ⟨b1, b2⟩ := h3.made r1 k4
  obtain ⟨t1, t2, t3⟩ := cut_law hD hn
  have c1 := cut_bits (a := dyV a) (b := n.toNat) false hn
  have c2 := cut_bits (a := dyV a) (b := n.toNat) true hn
  rw [g2, rCut_small' true c1] at h4
  obtain ⟨u1, u2⟩ := h4.made (by unfold errFar; rw [if_pos g1, if_neg (by omega)]) p2
  obtain ⟨v1, v2⟩ := bitsS_of b2.xs l1
  obtain ⟨v3, v4⟩ := bitsS_of q3.xs k3.1
  have d1 := errDy2_of g1 r1
  have d2 := errDy2_of r1 g3
  refine ⟨b1, d1, d2, v1, u1, v3, ?_, ?_, by rw [v4]; omega, u2, p3, ⟨_, q3, ?_, by omega⟩, by omega⟩
  · unfold cmpTwo
    rw [if_pos d1, rCmp_eq (dyV_bare _) (dyV_bare _), g2]; exact t1
  · unfold cmpTwo
    rw [if_pos d2, rCmp_eq (dyV_bare _) (dyV_bare _), g4]; exact t2
  · rw [v2, t3]; omega

set_option maxHeartbeats 8000000 in
set_option maxRecDepth 100000 in
theorem lawDBtw_any (a : Din) (n : Int) (w : World) (ha : InD w a) (hT : TabW w) :
    Calls Tryd.prog 12 #[.agg #[.bool a.g, .slice a.p a.xs.length a.c, .int .i64 a.e], .int .i64 n] w fun e w' => e = .returned (.bool true) ∧ Below w.heap.size w w' := by
  obtain ⟨W1, hW1⟩ : ∃ W1, W1 = w.alloc (.cells #[.bool a.g, .slice a.p a.xs.length a.c, .int .i64 a.e] 25) := ⟨_, rfl⟩
  have hs : Below w.heap.size w W1 := by rw [hW1]; exact (Below.refl _ _).alloc (Nat.le_refl _) _
  have XA : Box3 W1 w.heap.size (.bool a.g) (.slice a.p a.xs.length a.c) (.int .i64 a.e) := by rw [hW1]; exact box3_new w _ _ _ _
  have ia := ha.past hs
  have hT1 := hT.past hs
  have HW1 := Lib.hid hW1
  clear hW1
  go_enter Tryd.func12, Tryd.ntmps12
  go_wp2_with fail
  rw [← HW1.out]
  clear HW1
  ((with_reducible refine (dyadBegun_any _ hT1).mono ?_))
  rintro en wn ⟨rfl, hbn⟩
  replace hs := hs.trans (hbn.mono hs.size)
  replace XA := XA.past hbn
  replace ia := ia.past hbn
  replace hT1 := hT1.past hbn
  clear hbn
  have c0 := XA.c0
  have c1 := XA.c1
  have c2 := XA.c2
  go_wp2_with fail
  clear c0 c1 c2
  ((with_reducible refine (dyCut_in a n false _ ia hT1).mono ?_))
  rintro en wn ⟨low, e1, rfl, ilow, hbn, slow⟩
  replace hs := hs.trans (hbn.mono hs.size)
  replace XA := XA.past hbn
  replace ia := ia.past hbn
  replace hT1 := hT1.past hbn
  have Xlow := box3_new wn (.bool low.g) (.slice low.p low.xs.length low.c) (.int .i64 low.e) 25
  have hcn : Below wn.heap.size wn (wn.alloc (.cells #[.bool low.g, .slice low.p low.xs.length low.c, .int .i64 low.e] 25)) := (Below.refl _ _).alloc (Nat.le_refl _) _
  replace hs := hs.trans (hcn.mono hs.size)
  replace XA := XA.past hcn
  replace ia := ia.past hcn
  replace hT1 := hT1.past hcn
  replace ilow := ilow.past hcn
  clear hbn hcn
  have c0 := XA.c0
  have c1 := XA.c1
  have c2 := XA.c2
  go_wp2_with fail
  clear c0 c1 c2
  ((with_reducible refine (dyCut_in a n true _ ia hT1).mono ?_))
  rintro en wn ⟨high, e2, rfl, ihigh, hbn, shigh⟩
  replace hs := hs.trans (hbn.mono hs.size)
  replace XA := XA.past hbn
  replace ia := ia.past hbn
  replace hT1 := hT1.past hbn
  replace Xlow := Xlow.past hbn
  replace ilow := ilow.past hbn
  have Xhigh := box3_new wn (.bool high.g) (.slice high.p high.xs.length high.c) (.int .i64 high.e) 25
  have hcn : Below wn.heap.size wn (wn.alloc (.cells #[.bool high.g, .slice high.p high.xs.length high.c, .int .i64 high.e] 25)) := (Below.refl _ _).alloc (Nat.le_refl _) _
  replace hs := hs.trans (hcn.mono hs.size)
  replace XA := XA.past hcn
  replace ia := ia.past hcn
  replace hT1 := hT1.past hcn
  replace Xlow := Xlow.past hcn
  replace ilow := ilow.past hcn
  replace ihigh := ihigh.past hcn
  clear hbn hcn
  by_cases h1 : e1 = 0
  · by_cases h2 : e2 = 0
    · have HB := fun bare again f g s3 s4 => Lib.hid (btw_of (g := 0) (bare := bare) (again := again) (e1 := f) (e2 := g) ia slow shigh s3 s4 h1 h2 rfl)
      subst h1 h2
      have c0 := XA.c0
      have c1 := XA.c1
      have c2 := XA.c2
      go_wp2_with fail
      clear c0 c1 c2
      ((with_reducible refine (dyBare_in a _ ia hT1).mono ?_))
      rintro en wn ⟨bar, e3, rfl, ibar, hbn, sbar⟩
      replace hs := hs.trans (hbn.mono hs.size)
      replace XA := XA.past hbn
      replace ia := ia.past hbn
      replace hT1 := hT1.past hbn
      replace Xlow := Xlow.past hbn
      replace ilow := ilow.past hbn
      replace Xhigh := Xhigh.past hbn
      replace ihigh := ihigh.past hbn
      have Xbar := box3_new wn (.bool bar.g) (.slice bar.p bar.xs.length bar.c) (.int .i64 bar.e) 25
      have hcn : Below wn.heap.size wn (wn.alloc (.cells #[.bool bar.g, .slice bar.p bar.xs.length bar.c, .int .i64 bar.e] 25)) := (Below.refl _ _).alloc (Nat.le_refl _) _
      replace hs := hs.trans (hcn.mono hs.size)
      replace XA := XA.past hcn
      replace ia := ia.past hcn
      replace hT1 := hT1.past hcn
      replace Xlow := Xlow.past hcn
      replace ilow := ilow.past hcn
      replace Xhigh := Xhigh.past hcn
      replace ihigh := ihigh.past hcn
      replace ibar := ibar.past hcn
      clear hbn hcn
      have HC1 := fun W h1 h2 h3 => Lib.hid (dyCompare_any low a W h1 h2 h3)
      have HC2 := fun W h1 h2 h3 => Lib.hid (dyCompare_any a high W h1 h2 h3)
      have HN1 := fun W h1 => Lib.hid (natBits_any bar.p _ bar.c bar.xs W h1 rfl ibar.len ibar.lt)
      have HN2 := fun W h1 => Lib.hid (natBits_any high.p _ high.c high.xs W h1 rfl ihigh.len ihigh.lt)
      replace HB := fun again g s4 => HB bar again e3 g sbar s4
      obtain ⟨x1, hx1⟩ : ∃ x, cmpTwo low a = x := ⟨_, rfl⟩
      obtain ⟨x2, hx2⟩ : ∃ x, cmpTwo a high = x := ⟨_, rfl⟩
      obtain ⟨f1, hf1⟩ : ∃ x, errDy2 low a = x := ⟨_, rfl⟩
      obtain ⟨f2, hf2⟩ : ∃ x, errDy2 a high = x := ⟨_, rfl⟩
      obtain ⟨f3, hf3⟩ : ∃ x, errNat bar.xs = x := ⟨_, rfl⟩
      obtain ⟨f4, hf4⟩ : ∃ x, errNat high.xs = x := ⟨_, rfl⟩
      obtain ⟨m, hm⟩ : ∃ x, bitsS bar.xs = x := ⟨_, rfl⟩
      obtain ⟨k, hk⟩ : ∃ x, bitsS high.xs = x := ⟨_, rfl⟩
      simp only [hx1, hx2, hf1, hf2, hf3, hf4, hm, hk] at HC1 HC2 HN1 HN2 HB
      clear hx1 hx2 hf1 hf2 hf3 hf4 hm hk
      have c0 := Xlow.c0
      have c1 := Xlow.c1
      have c2 := Xlow.c2
      have d0 := XA.c0
      have d1 := XA.c1
      have d2 := XA.c2
      go_wp2_with fail
      clear c0 c1 c2 d0 d1 d2
      ((with_reducible refine ((HC1 _ ilow ia hT1).out).mono ?_))
      rintro en wn ⟨rfl, hbn⟩
      replace hs := hs.trans (hbn.mono hs.size)
      replace XA := XA.past hbn
      replace ia := ia.past hbn
      replace hT1 := hT1.past hbn
      replace Xlow := Xlow.past hbn
      replace ilow := ilow.past hbn
      replace Xhigh := Xhigh.past hbn
      replace ihigh := ihigh.past hbn
      replace Xbar := Xbar.past hbn
      replace ibar := ibar.past hbn
      clear hbn
      have c0 := XA.c0
      have c1 := XA.c1
      have c2 := XA.c2
      have d0 := Xhigh.c0
      have d1 := Xhigh.c1
      have d2 := Xhigh.c2
      go_wp2_with fail
      clear c0 c1 c2 d0 d1 d2
      ((with_reducible refine ((HC2 _ ia ihigh hT1).out).mono ?_))
      rintro en wn ⟨rfl, hbn⟩
      replace hs := hs.trans (hbn.mono hs.size)
      replace XA := XA.past hbn
      replace ia := ia.past hbn
      replace hT1 := hT1.past hbn
      replace Xlow := Xlow.past hbn
      replace ilow := ilow.past hbn
      replace Xhigh := Xhigh.past hbn
      replace ihigh := ihigh.past hbn
      replace Xbar := Xbar.past hbn
      replace ibar := ibar.past hbn
      clear hbn
      have c0 := Xbar.c0
      have c1 := Xbar.c1
      have c2 := Xbar.c2
      go_wp2_with fail
      clear c0 c1 c2
      ((with_reducible refine ((HN1 _ ibar.rd).out).mono ?_))
      rintro en wn ⟨rfl, hbn⟩
      replace hs := hs.trans (hbn.mono hs.size)
      replace hT1 := hT1.past hbn
      replace Xlow := Xlow.past hbn
      replace ilow := ilow.past hbn
      replace Xhigh := Xhigh.past hbn
      replace ihigh := ihigh.past hbn
      clear hbn
      have c0 := Xlow.c0
      have c1 := Xlow.c1
      have c2 := Xlow.c2
      go_wp2_with fail
      clear c0 c1 c2
      ((with_reducible refine (dyCut_in low n true _ ilow hT1).mono ?_))
      rintro en wn ⟨again, e4, rfl, iagain, hbn, sagain⟩
      replace hs := hs.trans (hbn.mono hs.size)
      replace hT1 := hT1.past hbn
      replace Xlow := Xlow.past hbn
      replace ilow := ilow.past hbn
      replace Xhigh := Xhigh.past hbn
      replace ihigh := ihigh.past hbn
      have Xagain := box3_new wn (.bool again.g) (.slice again.p again.xs.length again.c) (.int .i64 again.e) 25
      have hcn : Below wn.heap.size wn (wn.alloc (.cells #[.bool again.g, .slice again.p again.xs.length again.c, .int .i64 again.e] 25)) := (Below.refl _ _).alloc (Nat.le_refl _) _
      replace hs := hs.trans (hcn.mono hs.size)
      replace hT1 := hT1.past hcn
      replace Xlow := Xlow.past hcn
      replace ilow := ilow.past hcn
      replace Xhigh := Xhigh.past hcn
      replace ihigh := ihigh.past hcn
      replace iagain := iagain.past hcn
      clear hbn hcn
      have B := (HB _ _ sagain).out
      have c0 := Xhigh.c0
      have c1 := Xhigh.c1
      have c2 := Xhigh.c2
      go_wp2_with fail
      clear c0 c1 c2
      ((with_reducible refine ((HN2 _ ihigh.rd).out).mono ?_))
      rintro en wn ⟨rfl, hbn⟩
      replace hs := hs.trans (hbn.mono hs.size)
      replace Xlow := Xlow.past hbn
      replace ilow := ilow.past hbn
      replace Xhigh := Xhigh.past hbn
      replace ihigh := ihigh.past hbn
      replace Xagain := Xagain.past hbn
      replace iagain := iagain.past hbn
      clear hbn
      obtain ⟨q0, q1, q2, q3, q4, q5, q6, q7, q8, q9, q10, ⟨F, q11, q12, q13⟩, q14⟩ := B
      subst q0 q1 q2 q3 q4 q5
      by_cases hmn : m ≤ n
      · have hDF := q12.2 hmn
        have c0 := Xlow.c0
        have c1 := Xlow.c1
        have c2 := Xlow.c2
        have d0 := Xhigh.c0
        have d1 := Xhigh.c1
        have d2 := Xhigh.c2
        go_wp2_with fail
        clear c0 c1 c2 d0 d1 d2
        ((with_reducible refine (refSameDyad_out low high _ _ _ ilow ihigh q10 q11 q14 q13).mono ?_))
        rw [decide_eq_true hDF]
        rintro en wn ⟨rfl, hbn⟩
        replace hs := hs.trans (hbn.mono hs.size)
        replace Xlow := Xlow.past hbn
        replace ilow := ilow.past hbn
        replace Xagain := Xagain.past hbn
        replace iagain := iagain.past hbn
        clear hbn q12
        have c0 := Xagain.c0
        have c1 := Xagain.c1
        have c2 := Xagain.c2
        have d0 := Xlow.c0
        have d1 := Xlow.c1
        have d2 := Xlow.c2
        go_wp2_with fail
        clear c0 c1 c2 d0 d1 d2
        ((with_reducible refine (refSameDyad_out again low _ _ _ iagain ilow q9 q10 q14 q14).mono ?_))
        rw [decide_eq_true rfl]
        rintro en wn ⟨rfl, hbn⟩
        go_wp2_with fail
        go_ret
        exact ⟨ret_bool (by simp [hmn]), hs.trans (hbn.mono hs.size)⟩
      · have hDF : ¬ _ = F := fun h => hmn (q12.1 h)
        have c0 := Xlow.c0
        have c1 := Xlow.c1
        have c2 := Xlow.c2
        have d0 := Xhigh.c0
        have d1 := Xhigh.c1
        have d2 := Xhigh.c2
        go_wp2_with fail
        clear c0 c1 c2 d0 d1 d2
        ((with_reducible refine (refSameDyad_out low high _ _ _ ilow ihigh q10 q11 q14 q13).mono ?_))
        rw [decide_eq_false hDF]
        rintro en wn ⟨rfl, hbn⟩
        replace hs := hs.trans (hbn.mono hs.size)
        replace Xlow := Xlow.past hbn
        replace ilow := ilow.past hbn
        replace Xagain := Xagain.past hbn
        replace iagain := iagain.past hbn
        clear hbn q12
        have c0 := Xagain.c0
        have c1 := Xagain.c1
        have c2 := Xagain.c2
        have d0 := Xlow.c0
        have d1 := Xlow.c1
        have d2 := Xlow.c2
        go_wp2_with fail
        clear c0 c1 c2 d0 d1 d2
        ((with_reducible refine (refSameDyad_out again low _ _ _ iagain ilow q9 q10 q14 q14).mono ?_))
        rw [decide_eq_true rfl]
        rintro en wn ⟨rfl, hbn⟩
        go_wp2_with fail
        go_ret
        exact ⟨ret_bool (by simp [hmn]), hs.trans (hbn.mono hs.size)⟩
    · have t2 : (e2 == 0) = false := beq_eq_false_iff_ne.2 h2
      have t2' : (e2 != 0) = true := by rw [bne, t2]; rfl
      subst h1
      clear h2
      go_wp2_with fail
      go_ret
      exact ⟨rfl, hs⟩
  · have t1 : (e1 == 0) = false := beq_eq_false_iff_ne.2 h1
    have t1' : (e1 != 0) = true := by rw [bne, t1]; rfl
    clear h1
    go_wp2_with fail
    go_ret
    exact ⟨rfl, hs⟩

end Go.Proofs.YtcbjidcpcompoaaDoor
