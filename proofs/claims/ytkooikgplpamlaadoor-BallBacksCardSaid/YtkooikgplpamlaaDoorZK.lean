/- How far roots go. No program is in sight here.
   ball: Has.
   ball: root.
   ball: Root, Sqrt. -/
import Derived.Test.YtkooikgplpamlaaDoorZH
import Derived.Test.YtkooikgplpamlaaDoorZA
import Derived.Test.YtkooikgplpamlaaDoorZJ
import Derived.Test.YtkooikgplpamlaaDoorZB
import Derived.Test.YtkooikgplpamlaaDoorZLimb12
namespace Go.Slip

theorem rRoot_bd32 {a : Dv} (b : Nat) (up : Bool) (hb : b ≤ 5000) (hal : (dig B32 a.m).length ≤ 1300) (ha1 : -100000 ≤ a.e) (ha2 : a.e ≤ 100000) :
    (dig B32 (rRoot a b up).m).length ≤ 2100 ∧ -1000000 ≤ (rRoot a b up).e ∧ (rRoot a b up).e ≤ 1000000 := by
  unfold rRoot
  by_cases h0 : a.m = 0
  · rw [if_pos h0]; simp [zeroD, dig_zero]
  · rw [if_neg h0, ← pCut_eq (bare_bare _)]
    obtain ⟨n1, n2⟩ := evenN_le a.e (2 * b + 8)
    generalize evenN a.e (2 * b + 8) = N at *
    have hr := isq_root (a.m * 2 ^ N)
    have hle : isq (a.m * 2 ^ N) ≤ a.m * 2 ^ N := by
      rcases Nat.eq_zero_or_pos (isq (a.m * 2 ^ N)) with h | h
      · omega
      · exact Nat.le_trans (Nat.le_mul_of_pos_right _ h) hr.1
    have l1 := len_shl a.m N
    have l2 := dig_len_mono B32_two hle
    obtain ⟨d, hd⟩ : ∃ d, d = stickyR a.m N (isq (a.m * 2 ^ N)) 2 a.e := ⟨_, rfl⟩
    rw [← hd]
    have hdm : (dig B32 d.m).length ≤ 2000 := by
      rw [hd]
      unfold stickyR
      simp only
      have l3 := dig_len_add B32_two (2 ^ 2 * isq (a.m * 2 ^ N)) (if isq (a.m * 2 ^ N) * isq (a.m * 2 ^ N) ≠ a.m * 2 ^ N then 1 else 0)
      have l4 := dig_len_mul B32_two (2 ^ 2) (isq (a.m * 2 ^ N))
      have l5 : (dig B32 (2 ^ 2)).length ≤ 1 := (dig_len_le B32_two _ 1).2 (by decide)
      have l6 : (dig B32 (if isq (a.m * 2 ^ N) * isq (a.m * 2 ^ N) ≠ a.m * 2 ^ N then 1 else 0)).length ≤ 1 := (dig_len_le B32_two _ 1).2 (by split <;> decide)
      omega
    have hde : d.e = (a.e - N) / 2 - 2 := by rw [hd]; rfl
    have h5 := bare_e d (n := 2000) hdm (lo := -200000) (hi := 200000) (by omega) (by omega) (by omega) (by omega)
    have h6 := bare_len B32_two d
    have h7 := pCut_bd (a := bare d) b up (n := 2000) (lo := -200000) (hi := 300000) (by omega) (by omega) (by omega) (by omega) (by omega)
    exact ⟨by omega, by omega, by omega⟩

theorem pRoot_len {a : Dv} (b : Nat) (up : Bool) (hB : Bare a) (hb : b ≤ 5000) (hal : (dig B32 a.m).length ≤ 1300) (ha1 : -100000 ≤ a.e) (ha2 : a.e ≤ 100000) : (dig B32 (pRoot a b up).m).length ≤ 1000000 := by
  rw [pRoot_eq hB]
  have := (rRoot_bd32 b up hb hal ha1 ha2).1
  omega

end Go.Slip

namespace Go.Proofs.YtkooikgplpamlaaDoor
open Go.RowKit Go.Slip

/-- What is wrong with a ball and a number; is the number in the ball? -/
def errHas (a b x : Din) : Int := if errBall a b = 0 then errDy x else errBall a b
def hasD (l h x : Dv) : Bool := decide (pCmp l x ≤ 0) && decide (pCmp x h ≤ 0)
def hasV (a b x : Din) : Bool := if errHas a b x = 0 then hasD (dyV a) (dyV b) (dyV x) else false

theorem errC_one (a b : Din) : errC 1 [(a, b)] = errBall a b := by
  unfold errC
  simp only [firstErrB]
  by_cases h : errBall a b = 0
  · simp [h]
  · simp [h]



set_option maxHeartbeats 8000000 in
set_option maxRecDepth 100000 in
theorem ballHas_any (a b x : Din) (w : World) (ha : InD w a) (hb : InD w b) (hx : InD w x) (hT : TabW w) :
    Calls Tryd.prog 25 #[.agg #[.bool a.g, .slice a.p a.xs.length a.c, .int .i64 a.e, .bool b.g, .slice b.p b.xs.length b.c, .int .i64 b.e], .agg #[.bool x.g, .slice x.p x.xs.length x.c, .int .i64 x.e]] w fun e w' => e = .returned (.tuple #[.bool (hasV a b x), .int .i64 (errHas a b x)]) ∧ Below w.heap.size w w' := by
  have HER := Lib.hid (errC_one a b)
  have HE := Lib.hid (show errHas a b x = if errBall a b = 0 then errDy x else errBall a b from rfl)
  have HV := Lib.hid (show hasV a b x = if errHas a b x = 0 then hasD (dyV a) (dyV b) (dyV x) else false from rfl)
  have HCX := fun W h => Lib.hid (dyCheckOne_any x W h hx.len)
  have HOA := fun W k1 k2 k3 q1 q2 => Lib.hid (ballOf_any a b W k1 k2 q1 q2 k3)
  have HOX := fun W k1 k3 q1 => Lib.hid (ofDin_any x W k1 q1 k3)
  by_cases h0 : errBall a b = 0
  · obtain ⟨q1, q2, -⟩ := errBall_ok h0
    have HEP := Lib.hid (HE.out.trans (if_pos h0))
    clear HE
    by_cases h1 : errDy x = 0
    · have HE0 := Lib.hid (HEP.out.trans h1)
      have HV := Lib.hid (HV.out.trans (if_pos HE0.out))
      have HH0 := Lib.hid h0
      have t1 : (errBall a b != 0) = false := by simpa using h0
      have t2 : (errDy x != 0) = false := by simpa using h1
      have HHX := Lib.hid h1
      have Fa := dyV_fit ha q1
      have Fb := dyV_fit hb q2
      have Fx := dyV_fit hx h1
      clear h0 h1
      generalize dyV a = va at *
      generalize dyV b = vb at *
      generalize dyV x = vx at *
      generalize errBall a b = eb at *
      generalize errDy x = ex at *
      go_enter Tryd.func25, Tryd.ntmps25
      go_upto_region 1 with (fail)
      refine wp_lay2 (fun W1 hb1 hz1 A X0 => ?_)
      replace ha := ha.past hb1
      replace hb := hb.past hb1
      replace hx := hx.past hb1
      replace hT := hT.past hb1
      have hs1 := hb1
      obtain ⟨A_0, A_1, A_2, A_3, A_4, A_5⟩ := A.e6
      go_wp2_with fail
      clear A_0 A_1 A_2 A_3 A_4 A_5
      ((with_reducible refine (bcheck1_new 1 a b _ _ rfl ha hb hT).mono ?_))
      rw [HER.out]
      rintro e2 w2 ⟨rfl, hb2⟩
      replace hb2 : Below W1.heap.size W1 w2 := (below_lay1 W1 _).trans (hb2.mono (by omega))
      replace A := A.past hb2
      replace X0 := X0.past hb2
      replace ha := ha.past hb2
      replace hb := hb.past hb2
      replace hx := hx.past hb2
      replace hT := hT.past hb2
      have hs2 := hs1.trans (hb2.mono hs1.size)
      obtain ⟨X0_0, X0_1, X0_2⟩ := X0.e3
      go_wp2_with fail
      clear X0_0 X0_1 X0_2
      ((with_reducible refine ((HCX _ hx.rd).out).mono ?_))
      rintro e3 w3 ⟨rfl, hb3⟩
      replace A := A.past hb3
      replace X0 := X0.past hb3
      replace ha := ha.past hb3
      replace hb := hb.past hb3
      replace hx := hx.past hb3
      replace hT := hT.past hb3
      have hs3 := hs2.trans (hb3.mono hs2.size)
      go_upto_region 7 with (fail)
      have hz1' := hs1.size
      go_cut [8, 9] (fun s8 s9 wx => ∃ (kb kp : Nat) (p : Option Addr) (c : Nat) (q : Option Addr) (d : Nat) (r : Option Addr) (f : Nat), s8 = .pointer (some ⟨kb, 0, none⟩) ∧ s9 = .pointer (some ⟨kp, 0, none⟩) ∧ Bx wx kb #[.bool va.neg, .slice p (dig B32 va.m).length c, .int .i64 va.e, .bool vb.neg, .slice q (dig B32 vb.m).length d, .int .i64 vb.e] ∧ Bx wx kp #[.bool vx.neg, .slice r (dig B32 vx.m).length f, .int .i64 vx.e] ∧
        Own wx w3.heap.size .u32 77 p c (dig B32 va.m) ∧ Own wx w3.heap.size .u32 77 q d (dig B32 vb.m) ∧ Own wx w3.heap.size .u32 77 r f (dig B32 vx.m) ∧ Below w3.heap.size w3 wx)
      case first =>
        have hWl := X0.lt
        obtain ⟨V0, hV0⟩ : ∃ V0, V0 = (w3).drew := ⟨_, rfl⟩
        have hbV0 : Below (w3).heap.size (w3) V0 := by rw [hV0]; exact (Below.refl _ _).drew
        have hzV0 := hbV0.size
        refine wp_region_held_drew (S := fun w' => (w'.cell? ⟨w.heap.size, 0, none⟩ = some (.bool a.g) ∧ w'.cell? ⟨w.heap.size, 1, none⟩ = some (.slice a.p a.xs.length a.c) ∧ w'.cell? ⟨w.heap.size, 2, none⟩ = some (.int .i64 a.e) ∧ w'.cell? ⟨w.heap.size, 3, none⟩ = some (.bool b.g) ∧ w'.cell? ⟨w.heap.size, 4, none⟩ = some (.slice b.p b.xs.length b.c) ∧ w'.cell? ⟨w.heap.size, 5, none⟩ = some (.int .i64 b.e)) ∧ (w'.cell? ⟨w.heap.size + 1, 0, none⟩ = some (.bool x.g) ∧ w'.cell? ⟨w.heap.size + 1, 1, none⟩ = some (.slice x.p x.xs.length x.c) ∧ w'.cell? ⟨w.heap.size + 1, 2, none⟩ = some (.int .i64 x.e))) (by kernel_rfl) (by rw [← hV0]; exact ⟨(A.past (hbV0)).e6, (X0.past (hbV0)).e3⟩) (fun hHeld => ?_)
        clear hHeld
        rw [← hV0]
        clear hV0
        refine wpAnyH_take (i := 0) (v := .agg #[.bool a.g, .slice a.p a.xs.length a.c, .int .i64 a.e, .bool b.g, .slice b.p b.xs.length b.c, .int .i64 b.e]) rfl (by kernel_rfl) (by kernel_rfl) (by kernel_rfl) (fun _ _ _ h => h) (.inl ⟨by rfl, fun w' hSw => ?_⟩) ⟨(A.past (hbV0)).e6, (X0.past (hbV0)).e3⟩ ?_
        · (try dsimp only at hSw)
          first | (go_simp; done) | (go_simp; with_reducible rfl)
        try simp only [List.getElem_toArray, List.getElem_cons_zero, Act.put, List.setIfInBounds_toArray, List.set_cons_zero, List.set_cons_succ]
        refine wpAnyH_take (i := 2) (v := .agg #[.bool x.g, .slice x.p x.xs.length x.c, .int .i64 x.e]) rfl (by kernel_rfl) (by kernel_rfl) (by kernel_rfl) (fun _ _ _ h => h) (.inl ⟨by rfl, fun w' hSw => ?_⟩) ⟨(A.past (hbV0)).e6, (X0.past (hbV0)).e3⟩ ?_
        · (try dsimp only at hSw)
          first | (go_simp; done) | (go_simp; with_reducible rfl)
        try simp only [List.getElem_toArray, List.getElem_cons_succ, List.getElem_cons_zero, Act.put, List.setIfInBounds_toArray, List.set_cons_zero, List.set_cons_succ]
        refine wpAnyH_ready (rs := [1, 4, 5]) (by kernel_rfl) (by simp) ?_
        refine AllReadyH.cons rfl (fun K hK => ?_) ?_
        · skip
          go_simp
          go_at_call 53; ((with_reducible refine ((HOA _ (ha.past (hbV0)) (hb.past (hbV0)) (hT.past (hbV0)) q1 q2).out).mono ?_)); rintro exV1 V1 ⟨p, c, q, d, rfl, ho, hq, hbV1⟩
          have bho := ho.blk_lt
          have bhq := hq.blk_lt
          have hzV1 := hbV1.size
          refine hK.out _ _ ⟨(A.past (below_thru (hbV0) hbV1)).e6, (X0.past (below_thru (hbV0) hbV1)).e3⟩ (fun _ => ?_)
          clear hK K
          try simp only [List.getElem_toArray, List.getElem_cons_succ, List.getElem_cons_zero, Act.put, List.setIfInBounds_toArray, List.set_cons_zero, List.set_cons_succ]
          refine wpAnyH_ready (rs := [3, 4, 5]) (by kernel_rfl) (by simp) ?_
          refine AllReadyH.cons rfl (fun K hK => ?_) ?_
          · skip
            go_simp
            go_at_call 49; ((with_reducible refine ((HOX _ (hx.past (below_thru (hbV0) hbV1)) (hT.past (below_thru (hbV0) hbV1)) HHX.out).out).mono ?_)); rintro exV2 V2 ⟨r, f, rfl, hr, hbV2⟩
            have bhr := hr.blk_lt
            have hzV2 := hbV2.size
            refine hK.out _ _ ⟨(A.past (below_thru (below_thru (hbV0) hbV1) hbV2)).e6, (X0.past (below_thru (below_thru (hbV0) hbV1) hbV2)).e3⟩ (fun _ => ?_)
            clear hK K
            try simp only [List.getElem_toArray, List.getElem_cons_succ, List.getElem_cons_zero, Act.put, List.setIfInBounds_toArray, List.set_cons_zero, List.set_cons_succ]
            refine wpAnyH_ready (rs := [4, 5]) (by kernel_rfl) (by simp) ?_
            refine AllReadyH.cons rfl (fun K hK => ?_) ?_
            · skip
              go_simp
              refine hK.out _ _ ⟨((A.past (below_thru (below_thru (hbV0) hbV1) hbV2)).laid _).e6, ((X0.past (below_thru (below_thru (hbV0) hbV1) hbV2)).laid _).e3⟩ (fun _ => ?_)
              refine anyH_lay (fun V3 hbV3 hzV3 B => ?_)
              clear hK K
              try simp only [List.getElem_toArray, List.getElem_cons_succ, List.getElem_cons_zero, Act.put, List.setIfInBounds_toArray, List.set_cons_zero, List.set_cons_succ]
              refine wpAnyH_ready (rs := [5]) (by kernel_rfl) (by simp) ?_
              refine AllReadyH.cons rfl (fun K hK => ?_) AllReadyH.nil
              go_simp
              refine hK.out _ _ ⟨((A.past (below_thru (below_thru (below_thru (hbV0) hbV1) hbV2) hbV3)).laid _).e6, ((X0.past (below_thru (below_thru (below_thru (hbV0) hbV1) hbV2) hbV3)).laid _).e3⟩ (fun _ => ?_)
              refine anyH_lay (fun V4 hbV4 hzV4 P => ?_)
              clear hK K
              try simp only [List.getElem_toArray, List.getElem_cons_succ, List.getElem_cons_zero, Act.put, List.setIfInBounds_toArray, List.set_cons_zero, List.set_cons_succ]
              refine wpAnyH_ready (rs := [6]) (by kernel_rfl) (by simp) ?_
              refine AllReadyH.cons rfl (fun K hK => ?_) AllReadyH.nil
              replace B := (B.past (hbV4))
              obtain ⟨B_0, B_1, B_2, B_3, B_4, B_5⟩ := B.e6
              have B_f0 := B.f 0
              have B_f1 := B.f 1
              have B_f2 := B.f 2
              have B_f3 := B.f 3
              have B_f4 := B.f 4
              have B_f5 := B.f 5
              go_simp
              clear B_0 B_1 B_2 B_3 B_4 B_5 B_f0 B_f1 B_f2 B_f3 B_f4 B_f5
              refine hK.out _ _ ⟨((A.past (below_thru (below_thru (below_thru (below_thru (hbV0) hbV1) hbV2) hbV3) hbV4)).only (only6 _ _ _ _ _ _ _ _) (by omega)).e6, ((X0.past (below_thru (below_thru (below_thru (below_thru (hbV0) hbV1) hbV2) hbV3) hbV4)).only (only6 _ _ _ _ _ _ _ _) (by omega)).e3⟩ (fun _ => ?_)
              refine anyH_put6 B (fun V5 hOV5 B => ?_)
              have hzV5 := Nat.le_of_eq hOV5.size
              have hyV5 := Nat.le_of_eq hOV5.size.symm
              clear hK K
              try simp only [List.getElem_toArray, List.getElem_cons_succ, List.getElem_cons_zero, Act.put, List.setIfInBounds_toArray, List.set_cons_zero, List.set_cons_succ]
              refine wpAnyH_ready (rs := [7]) (by kernel_rfl) (by simp) ?_
              refine AllReadyH.cons rfl (fun K hK => ?_) AllReadyH.nil
              replace P := (P.only hOV5 (by omega))
              obtain ⟨P_0, P_1, P_2⟩ := P.e3
              have P_f0 := P.f 0
              have P_f1 := P.f 1
              have P_f2 := P.f 2
              go_simp
              clear P_0 P_1 P_2 P_f0 P_f1 P_f2
              refine hK.out _ _ ⟨((A.past ((below_thru (below_thru (below_thru (below_thru (hbV0) hbV1) hbV2) hbV3) hbV4).trans (hOV5.below (by omega)))).only (only3 _ _ _ _ _) (by omega)).e6, ((X0.past ((below_thru (below_thru (below_thru (below_thru (hbV0) hbV1) hbV2) hbV3) hbV4).trans (hOV5.below (by omega)))).only (only3 _ _ _ _ _) (by omega)).e3⟩ (fun _ => ?_)
              refine anyH_put3 P (fun V6 hOV6 P => ?_)
              have hzV6 := Nat.le_of_eq hOV6.size
              have hyV6 := Nat.le_of_eq hOV6.size.symm
              clear hK K
              try simp only [List.getElem_toArray, List.getElem_cons_succ, List.getElem_cons_zero, Act.put, List.setIfInBounds_toArray, List.set_cons_zero, List.set_cons_succ]
              refine wpAnyH_done (by kernel_rfl) ?_ _
              go_wp2_with fail
              go_meet
              exact ⟨V2.heap.size, V3.heap.size, p, c, q, d, r, f, rfl, rfl, (B.only hOV6 (by omega)), P, (ho.past (((below_thru (below_thru (hbV2) hbV3) hbV4).trans (hOV5.below (by omega))).trans (hOV6.below (by omega)))).mono (by omega), (hq.past (((below_thru (below_thru (hbV2) hbV3) hbV4).trans (hOV5.below (by omega))).trans (hOV6.below (by omega)))).mono (by omega), (hr.past (((below_thru (hbV3) hbV4).trans (hOV5.below (by omega))).trans (hOV6.below (by omega)))).mono (by omega), (((below_thru (below_thru (below_thru (below_thru (hbV0) hbV1) hbV2) hbV3) hbV4).trans (hOV5.below (by omega))).trans (hOV6.below (by omega)))⟩
            refine AllReadyH.cons rfl (fun K hK => ?_) AllReadyH.nil
            go_simp
            refine hK.out _ _ ⟨((A.past (below_thru (below_thru (hbV0) hbV1) hbV2)).laid _).e6, ((X0.past (below_thru (below_thru (hbV0) hbV1) hbV2)).laid _).e3⟩ (fun _ => ?_)
            refine anyH_lay (fun V3 hbV3 hzV3 P => ?_)
            clear hK K
            try simp only [List.getElem_toArray, List.getElem_cons_succ, List.getElem_cons_zero, Act.put, List.setIfInBounds_toArray, List.set_cons_zero, List.set_cons_succ]
            refine wpAnyH_ready (rs := [4]) (by kernel_rfl) (by simp) ?_
            refine AllReadyH.cons rfl (fun K hK => ?_) AllReadyH.nil
            go_simp
            refine hK.out _ _ ⟨((A.past (below_thru (below_thru (below_thru (hbV0) hbV1) hbV2) hbV3)).laid _).e6, ((X0.past (below_thru (below_thru (below_thru (hbV0) hbV1) hbV2) hbV3)).laid _).e3⟩ (fun _ => ?_)
            refine anyH_lay (fun V4 hbV4 hzV4 B => ?_)
            clear hK K
            try simp only [List.getElem_toArray, List.getElem_cons_succ, List.getElem_cons_zero, Act.put, List.setIfInBounds_toArray, List.set_cons_zero, List.set_cons_succ]
            refine wpAnyH_ready (rs := [6]) (by kernel_rfl) (by simp) ?_
            refine AllReadyH.cons rfl (fun K hK => ?_) AllReadyH.nil
            obtain ⟨B_0, B_1, B_2, B_3, B_4, B_5⟩ := B.e6
            have B_f0 := B.f 0
            have B_f1 := B.f 1
            have B_f2 := B.f 2
            have B_f3 := B.f 3
            have B_f4 := B.f 4
            have B_f5 := B.f 5
            go_simp
            clear B_0 B_1 B_2 B_3 B_4 B_5 B_f0 B_f1 B_f2 B_f3 B_f4 B_f5
            refine hK.out _ _ ⟨((A.past (below_thru (below_thru (below_thru (below_thru (hbV0) hbV1) hbV2) hbV3) hbV4)).only (only6 _ _ _ _ _ _ _ _) (by omega)).e6, ((X0.past (below_thru (below_thru (below_thru (below_thru (hbV0) hbV1) hbV2) hbV3) hbV4)).only (only6 _ _ _ _ _ _ _ _) (by omega)).e3⟩ (fun _ => ?_)
            refine anyH_put6 B (fun V5 hOV5 B => ?_)
            have hzV5 := Nat.le_of_eq hOV5.size
            have hyV5 := Nat.le_of_eq hOV5.size.symm
            clear hK K
            try simp only [List.getElem_toArray, List.getElem_cons_succ, List.getElem_cons_zero, Act.put, List.setIfInBounds_toArray, List.set_cons_zero, List.set_cons_succ]
            refine wpAnyH_ready (rs := [7]) (by kernel_rfl) (by simp) ?_
            refine AllReadyH.cons rfl (fun K hK => ?_) AllReadyH.nil
            replace P := (P.past ((hbV4).trans (hOV5.below (by omega))))
            obtain ⟨P_0, P_1, P_2⟩ := P.e3
            have P_f0 := P.f 0
            have P_f1 := P.f 1
            have P_f2 := P.f 2
            go_simp
            clear P_0 P_1 P_2 P_f0 P_f1 P_f2
            refine hK.out _ _ ⟨((A.past ((below_thru (below_thru (below_thru (below_thru (hbV0) hbV1) hbV2) hbV3) hbV4).trans (hOV5.below (by omega)))).only (only3 _ _ _ _ _) (by omega)).e6, ((X0.past ((below_thru (below_thru (below_thru (below_thru (hbV0) hbV1) hbV2) hbV3) hbV4).trans (hOV5.below (by omega)))).only (only3 _ _ _ _ _) (by omega)).e3⟩ (fun _ => ?_)
            refine anyH_put3 P (fun V6 hOV6 P => ?_)
            have hzV6 := Nat.le_of_eq hOV6.size
            have hyV6 := Nat.le_of_eq hOV6.size.symm
            clear hK K
            try simp only [List.getElem_toArray, List.getElem_cons_succ, List.getElem_cons_zero, Act.put, List.setIfInBounds_toArray, List.set_cons_zero, List.set_cons_succ]
            refine wpAnyH_done (by kernel_rfl) ?_ _
            go_wp2_with fail
            go_meet
            exact ⟨V3.heap.size, V2.heap.size, p, c, q, d, r, f, rfl, rfl, (B.only hOV6 (by omega)), P, (ho.past (((below_thru (below_thru (hbV2) hbV3) hbV4).trans (hOV5.below (by omega))).trans (hOV6.below (by omega)))).mono (by omega), (hq.past (((below_thru (below_thru (hbV2) hbV3) hbV4).trans (hOV5.below (by omega))).trans (hOV6.below (by omega)))).mono (by omega), (hr.past (((below_thru (hbV3) hbV4).trans (hOV5.below (by omega))).trans (hOV6.below (by omega)))).mono (by omega), (((below_thru (below_thru (below_thru (below_thru (hbV0) hbV1) hbV2) hbV3) hbV4).trans (hOV5.below (by omega))).trans (hOV6.below (by omega)))⟩
          refine AllReadyH.cons rfl (fun K hK => ?_) ?_
          · skip
            go_simp
            refine hK.out _ _ ⟨((A.past (below_thru (hbV0) hbV1)).laid _).e6, ((X0.past (below_thru (hbV0) hbV1)).laid _).e3⟩ (fun _ => ?_)
            refine anyH_lay (fun V2 hbV2 hzV2 B => ?_)
            clear hK K
            try simp only [List.getElem_toArray, List.getElem_cons_succ, List.getElem_cons_zero, Act.put, List.setIfInBounds_toArray, List.set_cons_zero, List.set_cons_succ]
            refine wpAnyH_ready (rs := [3, 5]) (by kernel_rfl) (by simp) ?_
            refine AllReadyH.cons rfl (fun K hK => ?_) ?_
            · skip
              go_simp
              go_at_call 49; ((with_reducible refine ((HOX _ (hx.past (below_thru (below_thru (hbV0) hbV1) hbV2)) (hT.past (below_thru (below_thru (hbV0) hbV1) hbV2)) HHX.out).out).mono ?_)); rintro exV3 V3 ⟨r, f, rfl, hr, hbV3⟩
              have bhr := hr.blk_lt
              have hzV3 := hbV3.size
              refine hK.out _ _ ⟨(A.past (below_thru (below_thru (below_thru (hbV0) hbV1) hbV2) hbV3)).e6, (X0.past (below_thru (below_thru (below_thru (hbV0) hbV1) hbV2) hbV3)).e3⟩ (fun _ => ?_)
              clear hK K
              try simp only [List.getElem_toArray, List.getElem_cons_succ, List.getElem_cons_zero, Act.put, List.setIfInBounds_toArray, List.set_cons_zero, List.set_cons_succ]
              refine wpAnyH_ready (rs := [5]) (by kernel_rfl) (by simp) ?_
              refine AllReadyH.cons rfl (fun K hK => ?_) AllReadyH.nil
              go_simp
              refine hK.out _ _ ⟨((A.past (below_thru (below_thru (below_thru (hbV0) hbV1) hbV2) hbV3)).laid _).e6, ((X0.past (below_thru (below_thru (below_thru (hbV0) hbV1) hbV2) hbV3)).laid _).e3⟩ (fun _ => ?_)
              refine anyH_lay (fun V4 hbV4 hzV4 P => ?_)
              clear hK K
              try simp only [List.getElem_toArray, List.getElem_cons_succ, List.getElem_cons_zero, Act.put, List.setIfInBounds_toArray, List.set_cons_zero, List.set_cons_succ]
              refine wpAnyH_ready (rs := [6]) (by kernel_rfl) (by simp) ?_
              refine AllReadyH.cons rfl (fun K hK => ?_) AllReadyH.nil
              replace B := (B.past (below_thru (hbV3) hbV4))
              obtain ⟨B_0, B_1, B_2, B_3, B_4, B_5⟩ := B.e6
              have B_f0 := B.f 0
              have B_f1 := B.f 1
              have B_f2 := B.f 2
              have B_f3 := B.f 3
              have B_f4 := B.f 4
              have B_f5 := B.f 5
              go_simp
              clear B_0 B_1 B_2 B_3 B_4 B_5 B_f0 B_f1 B_f2 B_f3 B_f4 B_f5
              refine hK.out _ _ ⟨((A.past (below_thru (below_thru (below_thru (below_thru (hbV0) hbV1) hbV2) hbV3) hbV4)).only (only6 _ _ _ _ _ _ _ _) (by omega)).e6, ((X0.past (below_thru (below_thru (below_thru (below_thru (hbV0) hbV1) hbV2) hbV3) hbV4)).only (only6 _ _ _ _ _ _ _ _) (by omega)).e3⟩ (fun _ => ?_)
              refine anyH_put6 B (fun V5 hOV5 B => ?_)
              have hzV5 := Nat.le_of_eq hOV5.size
              have hyV5 := Nat.le_of_eq hOV5.size.symm
              clear hK K
              try simp only [List.getElem_toArray, List.getElem_cons_succ, List.getElem_cons_zero, Act.put, List.setIfInBounds_toArray, List.set_cons_zero, List.set_cons_succ]
              refine wpAnyH_ready (rs := [7]) (by kernel_rfl) (by simp) ?_
              refine AllReadyH.cons rfl (fun K hK => ?_) AllReadyH.nil
              replace P := (P.only hOV5 (by omega))
              obtain ⟨P_0, P_1, P_2⟩ := P.e3
              have P_f0 := P.f 0
              have P_f1 := P.f 1
              have P_f2 := P.f 2
              go_simp
              clear P_0 P_1 P_2 P_f0 P_f1 P_f2
              refine hK.out _ _ ⟨((A.past ((below_thru (below_thru (below_thru (below_thru (hbV0) hbV1) hbV2) hbV3) hbV4).trans (hOV5.below (by omega)))).only (only3 _ _ _ _ _) (by omega)).e6, ((X0.past ((below_thru (below_thru (below_thru (below_thru (hbV0) hbV1) hbV2) hbV3) hbV4).trans (hOV5.below (by omega)))).only (only3 _ _ _ _ _) (by omega)).e3⟩ (fun _ => ?_)
              refine anyH_put3 P (fun V6 hOV6 P => ?_)
              have hzV6 := Nat.le_of_eq hOV6.size
              have hyV6 := Nat.le_of_eq hOV6.size.symm
              clear hK K
              try simp only [List.getElem_toArray, List.getElem_cons_succ, List.getElem_cons_zero, Act.put, List.setIfInBounds_toArray, List.set_cons_zero, List.set_cons_succ]
              refine wpAnyH_done (by kernel_rfl) ?_ _
              go_wp2_with fail
              go_meet
              exact ⟨V1.heap.size, V3.heap.size, p, c, q, d, r, f, rfl, rfl, (B.only hOV6 (by omega)), P, (ho.past (((below_thru (below_thru (hbV2) hbV3) hbV4).trans (hOV5.below (by omega))).trans (hOV6.below (by omega)))).mono (by omega), (hq.past (((below_thru (below_thru (hbV2) hbV3) hbV4).trans (hOV5.below (by omega))).trans (hOV6.below (by omega)))).mono (by omega), (((hr.past (hbV4)).only hOV5 (fun h => by have := bhr h; omega)).only hOV6 (fun h => by have := bhr h; omega)).mono (by omega), (((below_thru (below_thru (below_thru (below_thru (hbV0) hbV1) hbV2) hbV3) hbV4).trans (hOV5.below (by omega))).trans (hOV6.below (by omega)))⟩
            refine AllReadyH.cons rfl (fun K hK => ?_) AllReadyH.nil
            go_simp
            refine hK.out _ _ ⟨((A.past (below_thru (below_thru (hbV0) hbV1) hbV2)).laid _).e6, ((X0.past (below_thru (below_thru (hbV0) hbV1) hbV2)).laid _).e3⟩ (fun _ => ?_)
            refine anyH_lay (fun V3 hbV3 hzV3 P => ?_)
            clear hK K
            try simp only [List.getElem_toArray, List.getElem_cons_succ, List.getElem_cons_zero, Act.put, List.setIfInBounds_toArray, List.set_cons_zero, List.set_cons_succ]
            refine wpAnyH_ready (rs := [3]) (by kernel_rfl) (by simp) ?_
            refine AllReadyH.cons rfl (fun K hK => ?_) AllReadyH.nil
            go_simp
            go_at_call 49; ((with_reducible refine ((HOX _ (hx.past (below_thru (below_thru (below_thru (hbV0) hbV1) hbV2) hbV3)) (hT.past (below_thru (below_thru (below_thru (hbV0) hbV1) hbV2) hbV3)) HHX.out).out).mono ?_)); rintro exV4 V4 ⟨r, f, rfl, hr, hbV4⟩
            have bhr := hr.blk_lt
            have hzV4 := hbV4.size
            refine hK.out _ _ ⟨(A.past (below_thru (below_thru (below_thru (below_thru (hbV0) hbV1) hbV2) hbV3) hbV4)).e6, (X0.past (below_thru (below_thru (below_thru (below_thru (hbV0) hbV1) hbV2) hbV3) hbV4)).e3⟩ (fun _ => ?_)
            clear hK K
            try simp only [List.getElem_toArray, List.getElem_cons_succ, List.getElem_cons_zero, Act.put, List.setIfInBounds_toArray, List.set_cons_zero, List.set_cons_succ]
            refine wpAnyH_ready (rs := [6]) (by kernel_rfl) (by simp) ?_
            refine AllReadyH.cons rfl (fun K hK => ?_) AllReadyH.nil
            replace B := (B.past (below_thru (hbV3) hbV4))
            obtain ⟨B_0, B_1, B_2, B_3, B_4, B_5⟩ := B.e6
            have B_f0 := B.f 0
            have B_f1 := B.f 1
            have B_f2 := B.f 2
            have B_f3 := B.f 3
            have B_f4 := B.f 4
            have B_f5 := B.f 5
            go_simp
            clear B_0 B_1 B_2 B_3 B_4 B_5 B_f0 B_f1 B_f2 B_f3 B_f4 B_f5
            refine hK.out _ _ ⟨((A.past (below_thru (below_thru (below_thru (below_thru (hbV0) hbV1) hbV2) hbV3) hbV4)).only (only6 _ _ _ _ _ _ _ _) (by omega)).e6, ((X0.past (below_thru (below_thru (below_thru (below_thru (hbV0) hbV1) hbV2) hbV3) hbV4)).only (only6 _ _ _ _ _ _ _ _) (by omega)).e3⟩ (fun _ => ?_)
            refine anyH_put6 B (fun V5 hOV5 B => ?_)
            have hzV5 := Nat.le_of_eq hOV5.size
            have hyV5 := Nat.le_of_eq hOV5.size.symm
            clear hK K
            try simp only [List.getElem_toArray, List.getElem_cons_succ, List.getElem_cons_zero, Act.put, List.setIfInBounds_toArray, List.set_cons_zero, List.set_cons_succ]
            refine wpAnyH_ready (rs := [7]) (by kernel_rfl) (by simp) ?_
            refine AllReadyH.cons rfl (fun K hK => ?_) AllReadyH.nil
            replace P := ((P.past (hbV4)).only hOV5 (by omega))
            obtain ⟨P_0, P_1, P_2⟩ := P.e3
            have P_f0 := P.f 0
            have P_f1 := P.f 1
            have P_f2 := P.f 2
            go_simp
            clear P_0 P_1 P_2 P_f0 P_f1 P_f2
            refine hK.out _ _ ⟨((A.past ((below_thru (below_thru (below_thru (below_thru (hbV0) hbV1) hbV2) hbV3) hbV4).trans (hOV5.below (by omega)))).only (only3 _ _ _ _ _) (by omega)).e6, ((X0.past ((below_thru (below_thru (below_thru (below_thru (hbV0) hbV1) hbV2) hbV3) hbV4).trans (hOV5.below (by omega)))).only (only3 _ _ _ _ _) (by omega)).e3⟩ (fun _ => ?_)
            refine anyH_put3 P (fun V6 hOV6 P => ?_)
            have hzV6 := Nat.le_of_eq hOV6.size
            have hyV6 := Nat.le_of_eq hOV6.size.symm
            clear hK K
            try simp only [List.getElem_toArray, List.getElem_cons_succ, List.getElem_cons_zero, Act.put, List.setIfInBounds_toArray, List.set_cons_zero, List.set_cons_succ]
            refine wpAnyH_done (by kernel_rfl) ?_ _
            go_wp2_with fail
            go_meet
            exact ⟨V1.heap.size, V2.heap.size, p, c, q, d, r, f, rfl, rfl, (B.only hOV6 (by omega)), P, (ho.past (((below_thru (below_thru (hbV2) hbV3) hbV4).trans (hOV5.below (by omega))).trans (hOV6.below (by omega)))).mono (by omega), (hq.past (((below_thru (below_thru (hbV2) hbV3) hbV4).trans (hOV5.below (by omega))).trans (hOV6.below (by omega)))).mono (by omega), ((hr.only hOV5 (fun h => by have := bhr h; omega)).only hOV6 (fun h => by have := bhr h; omega)).mono (by omega), (((below_thru (below_thru (below_thru (below_thru (hbV0) hbV1) hbV2) hbV3) hbV4).trans (hOV5.below (by omega))).trans (hOV6.below (by omega)))⟩
          refine AllReadyH.cons rfl (fun K hK => ?_) AllReadyH.nil
          go_simp
          refine hK.out _ _ ⟨((A.past (below_thru (hbV0) hbV1)).laid _).e6, ((X0.past (below_thru (hbV0) hbV1)).laid _).e3⟩ (fun _ => ?_)
          refine anyH_lay (fun V2 hbV2 hzV2 P => ?_)
          clear hK K
          try simp only [List.getElem_toArray, List.getElem_cons_succ, List.getElem_cons_zero, Act.put, List.setIfInBounds_toArray, List.set_cons_zero, List.set_cons_succ]
          refine wpAnyH_ready (rs := [3, 4]) (by kernel_rfl) (by simp) ?_
          refine AllReadyH.cons rfl (fun K hK => ?_) ?_
          · skip
            go_simp
            go_at_call 49; ((with_reducible refine ((HOX _ (hx.past (below_thru (below_thru (hbV0) hbV1) hbV2)) (hT.past (below_thru (below_thru (hbV0) hbV1) hbV2)) HHX.out).out).mono ?_)); rintro exV3 V3 ⟨r, f, rfl, hr, hbV3⟩
            have bhr := hr.blk_lt
            have hzV3 := hbV3.size
            refine hK.out _ _ ⟨(A.past (below_thru (below_thru (below_thru (hbV0) hbV1) hbV2) hbV3)).e6, (X0.past (below_thru (below_thru (below_thru (hbV0) hbV1) hbV2) hbV3)).e3⟩ (fun _ => ?_)
            clear hK K
            try simp only [List.getElem_toArray, List.getElem_cons_succ, List.getElem_cons_zero, Act.put, List.setIfInBounds_toArray, List.set_cons_zero, List.set_cons_succ]
            refine wpAnyH_ready (rs := [4]) (by kernel_rfl) (by simp) ?_
            refine AllReadyH.cons rfl (fun K hK => ?_) AllReadyH.nil
            go_simp
            refine hK.out _ _ ⟨((A.past (below_thru (below_thru (below_thru (hbV0) hbV1) hbV2) hbV3)).laid _).e6, ((X0.past (below_thru (below_thru (below_thru (hbV0) hbV1) hbV2) hbV3)).laid _).e3⟩ (fun _ => ?_)
            refine anyH_lay (fun V4 hbV4 hzV4 B => ?_)
            clear hK K
            try simp only [List.getElem_toArray, List.getElem_cons_succ, List.getElem_cons_zero, Act.put, List.setIfInBounds_toArray, List.set_cons_zero, List.set_cons_succ]
            refine wpAnyH_ready (rs := [6]) (by kernel_rfl) (by simp) ?_
            refine AllReadyH.cons rfl (fun K hK => ?_) AllReadyH.nil
            obtain ⟨B_0, B_1, B_2, B_3, B_4, B_5⟩ := B.e6
            have B_f0 := B.f 0
            have B_f1 := B.f 1
            have B_f2 := B.f 2
            have B_f3 := B.f 3
            have B_f4 := B.f 4
            have B_f5 := B.f 5
            go_simp
            clear B_0 B_1 B_2 B_3 B_4 B_5 B_f0 B_f1 B_f2 B_f3 B_f4 B_f5
            refine hK.out _ _ ⟨((A.past (below_thru (below_thru (below_thru (below_thru (hbV0) hbV1) hbV2) hbV3) hbV4)).only (only6 _ _ _ _ _ _ _ _) (by omega)).e6, ((X0.past (below_thru (below_thru (below_thru (below_thru (hbV0) hbV1) hbV2) hbV3) hbV4)).only (only6 _ _ _ _ _ _ _ _) (by omega)).e3⟩ (fun _ => ?_)
            refine anyH_put6 B (fun V5 hOV5 B => ?_)
            have hzV5 := Nat.le_of_eq hOV5.size
            have hyV5 := Nat.le_of_eq hOV5.size.symm
            clear hK K
            try simp only [List.getElem_toArray, List.getElem_cons_succ, List.getElem_cons_zero, Act.put, List.setIfInBounds_toArray, List.set_cons_zero, List.set_cons_succ]
            refine wpAnyH_ready (rs := [7]) (by kernel_rfl) (by simp) ?_
            refine AllReadyH.cons rfl (fun K hK => ?_) AllReadyH.nil
            replace P := (P.past ((below_thru (hbV3) hbV4).trans (hOV5.below (by omega))))
            obtain ⟨P_0, P_1, P_2⟩ := P.e3
            have P_f0 := P.f 0
            have P_f1 := P.f 1
            have P_f2 := P.f 2
            go_simp
            clear P_0 P_1 P_2 P_f0 P_f1 P_f2
            refine hK.out _ _ ⟨((A.past ((below_thru (below_thru (below_thru (below_thru (hbV0) hbV1) hbV2) hbV3) hbV4).trans (hOV5.below (by omega)))).only (only3 _ _ _ _ _) (by omega)).e6, ((X0.past ((below_thru (below_thru (below_thru (below_thru (hbV0) hbV1) hbV2) hbV3) hbV4).trans (hOV5.below (by omega)))).only (only3 _ _ _ _ _) (by omega)).e3⟩ (fun _ => ?_)
            refine anyH_put3 P (fun V6 hOV6 P => ?_)
            have hzV6 := Nat.le_of_eq hOV6.size
            have hyV6 := Nat.le_of_eq hOV6.size.symm
            clear hK K
            try simp only [List.getElem_toArray, List.getElem_cons_succ, List.getElem_cons_zero, Act.put, List.setIfInBounds_toArray, List.set_cons_zero, List.set_cons_succ]
            refine wpAnyH_done (by kernel_rfl) ?_ _
            go_wp2_with fail
            go_meet
            exact ⟨V3.heap.size, V1.heap.size, p, c, q, d, r, f, rfl, rfl, (B.only hOV6 (by omega)), P, (ho.past (((below_thru (below_thru (hbV2) hbV3) hbV4).trans (hOV5.below (by omega))).trans (hOV6.below (by omega)))).mono (by omega), (hq.past (((below_thru (below_thru (hbV2) hbV3) hbV4).trans (hOV5.below (by omega))).trans (hOV6.below (by omega)))).mono (by omega), ((hr.past ((hbV4).trans (hOV5.below (by omega)))).only hOV6 (fun h => by have := bhr h; omega)).mono (by omega), (((below_thru (below_thru (below_thru (below_thru (hbV0) hbV1) hbV2) hbV3) hbV4).trans (hOV5.below (by omega))).trans (hOV6.below (by omega)))⟩
          refine AllReadyH.cons rfl (fun K hK => ?_) AllReadyH.nil
          go_simp
          refine hK.out _ _ ⟨((A.past (below_thru (below_thru (hbV0) hbV1) hbV2)).laid _).e6, ((X0.past (below_thru (below_thru (hbV0) hbV1) hbV2)).laid _).e3⟩ (fun _ => ?_)
          refine anyH_lay (fun V3 hbV3 hzV3 B => ?_)
          clear hK K
          try simp only [List.getElem_toArray, List.getElem_cons_succ, List.getElem_cons_zero, Act.put, List.setIfInBounds_toArray, List.set_cons_zero, List.set_cons_succ]
          refine wpAnyH_ready (rs := [3]) (by kernel_rfl) (by simp) ?_
          refine AllReadyH.cons rfl (fun K hK => ?_) AllReadyH.nil
          go_simp
          go_at_call 49; ((with_reducible refine ((HOX _ (hx.past (below_thru (below_thru (below_thru (hbV0) hbV1) hbV2) hbV3)) (hT.past (below_thru (below_thru (below_thru (hbV0) hbV1) hbV2) hbV3)) HHX.out).out).mono ?_)); rintro exV4 V4 ⟨r, f, rfl, hr, hbV4⟩
          have bhr := hr.blk_lt
          have hzV4 := hbV4.size
          refine hK.out _ _ ⟨(A.past (below_thru (below_thru (below_thru (below_thru (hbV0) hbV1) hbV2) hbV3) hbV4)).e6, (X0.past (below_thru (below_thru (below_thru (below_thru (hbV0) hbV1) hbV2) hbV3) hbV4)).e3⟩ (fun _ => ?_)
          clear hK K
          try simp only [List.getElem_toArray, List.getElem_cons_succ, List.getElem_cons_zero, Act.put, List.setIfInBounds_toArray, List.set_cons_zero, List.set_cons_succ]
          refine wpAnyH_ready (rs := [6]) (by kernel_rfl) (by simp) ?_
          refine AllReadyH.cons rfl (fun K hK => ?_) AllReadyH.nil
          replace B := (B.past (hbV4))
          obtain ⟨B_0, B_1, B_2, B_3, B_4, B_5⟩ := B.e6
          have B_f0 := B.f 0
          have B_f1 := B.f 1
          have B_f2 := B.f 2
          have B_f3 := B.f 3
          have B_f4 := B.f 4
          have B_f5 := B.f 5
          go_simp
          clear B_0 B_1 B_2 B_3 B_4 B_5 B_f0 B_f1 B_f2 B_f3 B_f4 B_f5
          refine hK.out _ _ ⟨((A.past (below_thru (below_thru (below_thru (below_thru (hbV0) hbV1) hbV2) hbV3) hbV4)).only (only6 _ _ _ _ _ _ _ _) (by omega)).e6, ((X0.past (below_thru (below_thru (below_thru (below_thru (hbV0) hbV1) hbV2) hbV3) hbV4)).only (only6 _ _ _ _ _ _ _ _) (by omega)).e3⟩ (fun _ => ?_)
          refine anyH_put6 B (fun V5 hOV5 B => ?_)
          have hzV5 := Nat.le_of_eq hOV5.size
          have hyV5 := Nat.le_of_eq hOV5.size.symm
          clear hK K
          try simp only [List.getElem_toArray, List.getElem_cons_succ, List.getElem_cons_zero, Act.put, List.setIfInBounds_toArray, List.set_cons_zero, List.set_cons_succ]
          refine wpAnyH_ready (rs := [7]) (by kernel_rfl) (by simp) ?_
          refine AllReadyH.cons rfl (fun K hK => ?_) AllReadyH.nil
          replace P := (P.past ((below_thru (hbV3) hbV4).trans (hOV5.below (by omega))))
          obtain ⟨P_0, P_1, P_2⟩ := P.e3
          have P_f0 := P.f 0
          have P_f1 := P.f 1
          have P_f2 := P.f 2
          go_simp
          clear P_0 P_1 P_2 P_f0 P_f1 P_f2
          refine hK.out _ _ ⟨((A.past ((below_thru (below_thru (below_thru (below_thru (hbV0) hbV1) hbV2) hbV3) hbV4).trans (hOV5.below (by omega)))).only (only3 _ _ _ _ _) (by omega)).e6, ((X0.past ((below_thru (below_thru (below_thru (below_thru (hbV0) hbV1) hbV2) hbV3) hbV4).trans (hOV5.below (by omega)))).only (only3 _ _ _ _ _) (by omega)).e3⟩ (fun _ => ?_)
          refine anyH_put3 P (fun V6 hOV6 P => ?_)
          have hzV6 := Nat.le_of_eq hOV6.size
          have hyV6 := Nat.le_of_eq hOV6.size.symm
          clear hK K
          try simp only [List.getElem_toArray, List.getElem_cons_succ, List.getElem_cons_zero, Act.put, List.setIfInBounds_toArray, List.set_cons_zero, List.set_cons_succ]
          refine wpAnyH_done (by kernel_rfl) ?_ _
          go_wp2_with fail
          go_meet
          exact ⟨V2.heap.size, V1.heap.size, p, c, q, d, r, f, rfl, rfl, (B.only hOV6 (by omega)), P, (ho.past (((below_thru (below_thru (hbV2) hbV3) hbV4).trans (hOV5.below (by omega))).trans (hOV6.below (by omega)))).mono (by omega), (hq.past (((below_thru (below_thru (hbV2) hbV3) hbV4).trans (hOV5.below (by omega))).trans (hOV6.below (by omega)))).mono (by omega), ((hr.only hOV5 (fun h => by have := bhr h; omega)).only hOV6 (fun h => by have := bhr h; omega)).mono (by omega), (((below_thru (below_thru (below_thru (below_thru (hbV0) hbV1) hbV2) hbV3) hbV4).trans (hOV5.below (by omega))).trans (hOV6.below (by omega)))⟩
        refine AllReadyH.cons rfl (fun K hK => ?_) ?_
        · skip
          go_simp
          refine hK.out _ _ ⟨((A.past (hbV0)).laid _).e6, ((X0.past (hbV0)).laid _).e3⟩ (fun _ => ?_)
          refine anyH_lay (fun V1 hbV1 hzV1 B => ?_)
          clear hK K
          try simp only [List.getElem_toArray, List.getElem_cons_succ, List.getElem_cons_zero, Act.put, List.setIfInBounds_toArray, List.set_cons_zero, List.set_cons_succ]
          refine wpAnyH_ready (rs := [1, 5]) (by kernel_rfl) (by simp) ?_
          refine AllReadyH.cons rfl (fun K hK => ?_) ?_
          · skip
            go_simp
            go_at_call 53; ((with_reducible refine ((HOA _ (ha.past (below_thru (hbV0) hbV1)) (hb.past (below_thru (hbV0) hbV1)) (hT.past (below_thru (hbV0) hbV1)) q1 q2).out).mono ?_)); rintro exV2 V2 ⟨p, c, q, d, rfl, ho, hq, hbV2⟩
            have bho := ho.blk_lt
            have bhq := hq.blk_lt
            have hzV2 := hbV2.size
            refine hK.out _ _ ⟨(A.past (below_thru (below_thru (hbV0) hbV1) hbV2)).e6, (X0.past (below_thru (below_thru (hbV0) hbV1) hbV2)).e3⟩ (fun _ => ?_)
            clear hK K
            try simp only [List.getElem_toArray, List.getElem_cons_succ, List.getElem_cons_zero, Act.put, List.setIfInBounds_toArray, List.set_cons_zero, List.set_cons_succ]
            refine wpAnyH_ready (rs := [3, 5]) (by kernel_rfl) (by simp) ?_
            refine AllReadyH.cons rfl (fun K hK => ?_) ?_
            · skip
              go_simp
              go_at_call 49; ((with_reducible refine ((HOX _ (hx.past (below_thru (below_thru (hbV0) hbV1) hbV2)) (hT.past (below_thru (below_thru (hbV0) hbV1) hbV2)) HHX.out).out).mono ?_)); rintro exV3 V3 ⟨r, f, rfl, hr, hbV3⟩
              have bhr := hr.blk_lt
              have hzV3 := hbV3.size
              refine hK.out _ _ ⟨(A.past (below_thru (below_thru (below_thru (hbV0) hbV1) hbV2) hbV3)).e6, (X0.past (below_thru (below_thru (below_thru (hbV0) hbV1) hbV2) hbV3)).e3⟩ (fun _ => ?_)
              clear hK K
              try simp only [List.getElem_toArray, List.getElem_cons_succ, List.getElem_cons_zero, Act.put, List.setIfInBounds_toArray, List.set_cons_zero, List.set_cons_succ]
              refine wpAnyH_ready (rs := [5]) (by kernel_rfl) (by simp) ?_
              refine AllReadyH.cons rfl (fun K hK => ?_) AllReadyH.nil
              go_simp
              refine hK.out _ _ ⟨((A.past (below_thru (below_thru (below_thru (hbV0) hbV1) hbV2) hbV3)).laid _).e6, ((X0.past (below_thru (below_thru (below_thru (hbV0) hbV1) hbV2) hbV3)).laid _).e3⟩ (fun _ => ?_)
              refine anyH_lay (fun V4 hbV4 hzV4 P => ?_)
              clear hK K
              try simp only [List.getElem_toArray, List.getElem_cons_succ, List.getElem_cons_zero, Act.put, List.setIfInBounds_toArray, List.set_cons_zero, List.set_cons_succ]
              refine wpAnyH_ready (rs := [6]) (by kernel_rfl) (by simp) ?_
              refine AllReadyH.cons rfl (fun K hK => ?_) AllReadyH.nil
              replace B := (B.past (below_thru (below_thru (hbV2) hbV3) hbV4))
              obtain ⟨B_0, B_1, B_2, B_3, B_4, B_5⟩ := B.e6
              have B_f0 := B.f 0
              have B_f1 := B.f 1
              have B_f2 := B.f 2
              have B_f3 := B.f 3
              have B_f4 := B.f 4
              have B_f5 := B.f 5
              go_simp
              clear B_0 B_1 B_2 B_3 B_4 B_5 B_f0 B_f1 B_f2 B_f3 B_f4 B_f5
              refine hK.out _ _ ⟨((A.past (below_thru (below_thru (below_thru (below_thru (hbV0) hbV1) hbV2) hbV3) hbV4)).only (only6 _ _ _ _ _ _ _ _) (by omega)).e6, ((X0.past (below_thru (below_thru (below_thru (below_thru (hbV0) hbV1) hbV2) hbV3) hbV4)).only (only6 _ _ _ _ _ _ _ _) (by omega)).e3⟩ (fun _ => ?_)
              refine anyH_put6 B (fun V5 hOV5 B => ?_)
              have hzV5 := Nat.le_of_eq hOV5.size
              have hyV5 := Nat.le_of_eq hOV5.size.symm
              clear hK K
              try simp only [List.getElem_toArray, List.getElem_cons_succ, List.getElem_cons_zero, Act.put, List.setIfInBounds_toArray, List.set_cons_zero, List.set_cons_succ]
              refine wpAnyH_ready (rs := [7]) (by kernel_rfl) (by simp) ?_
              refine AllReadyH.cons rfl (fun K hK => ?_) AllReadyH.nil
              replace P := (P.only hOV5 (by omega))
              obtain ⟨P_0, P_1, P_2⟩ := P.e3
              have P_f0 := P.f 0
              have P_f1 := P.f 1
              have P_f2 := P.f 2
              go_simp
              clear P_0 P_1 P_2 P_f0 P_f1 P_f2
              refine hK.out _ _ ⟨((A.past ((below_thru (below_thru (below_thru (below_thru (hbV0) hbV1) hbV2) hbV3) hbV4).trans (hOV5.below (by omega)))).only (only3 _ _ _ _ _) (by omega)).e6, ((X0.past ((below_thru (below_thru (below_thru (below_thru (hbV0) hbV1) hbV2) hbV3) hbV4).trans (hOV5.below (by omega)))).only (only3 _ _ _ _ _) (by omega)).e3⟩ (fun _ => ?_)
              refine anyH_put3 P (fun V6 hOV6 P => ?_)
              have hzV6 := Nat.le_of_eq hOV6.size
              have hyV6 := Nat.le_of_eq hOV6.size.symm
              clear hK K
              try simp only [List.getElem_toArray, List.getElem_cons_succ, List.getElem_cons_zero, Act.put, List.setIfInBounds_toArray, List.set_cons_zero, List.set_cons_succ]
              refine wpAnyH_done (by kernel_rfl) ?_ _
              go_wp2_with fail
              go_meet
              exact ⟨V0.heap.size, V3.heap.size, p, c, q, d, r, f, rfl, rfl, (B.only hOV6 (by omega)), P, (((ho.past (below_thru (hbV3) hbV4)).only hOV5 (fun h => by have := bho h; omega)).only hOV6 (fun h => by have := bho h; omega)).mono (by omega), (((hq.past (below_thru (hbV3) hbV4)).only hOV5 (fun h => by have := bhq h; omega)).only hOV6 (fun h => by have := bhq h; omega)).mono (by omega), (((hr.past (hbV4)).only hOV5 (fun h => by have := bhr h; omega)).only hOV6 (fun h => by have := bhr h; omega)).mono (by omega), (((below_thru (below_thru (below_thru (below_thru (hbV0) hbV1) hbV2) hbV3) hbV4).trans (hOV5.below (by omega))).trans (hOV6.below (by omega)))⟩
            refine AllReadyH.cons rfl (fun K hK => ?_) AllReadyH.nil
            go_simp
            refine hK.out _ _ ⟨((A.past (below_thru (below_thru (hbV0) hbV1) hbV2)).laid _).e6, ((X0.past (below_thru (below_thru (hbV0) hbV1) hbV2)).laid _).e3⟩ (fun _ => ?_)
            refine anyH_lay (fun V3 hbV3 hzV3 P => ?_)
            clear hK K
            try simp only [List.getElem_toArray, List.getElem_cons_succ, List.getElem_cons_zero, Act.put, List.setIfInBounds_toArray, List.set_cons_zero, List.set_cons_succ]
            refine wpAnyH_ready (rs := [3]) (by kernel_rfl) (by simp) ?_
            refine AllReadyH.cons rfl (fun K hK => ?_) AllReadyH.nil
            go_simp
            go_at_call 49; ((with_reducible refine ((HOX _ (hx.past (below_thru (below_thru (below_thru (hbV0) hbV1) hbV2) hbV3)) (hT.past (below_thru (below_thru (below_thru (hbV0) hbV1) hbV2) hbV3)) HHX.out).out).mono ?_)); rintro exV4 V4 ⟨r, f, rfl, hr, hbV4⟩
            have bhr := hr.blk_lt
            have hzV4 := hbV4.size
            refine hK.out _ _ ⟨(A.past (below_thru (below_thru (below_thru (below_thru (hbV0) hbV1) hbV2) hbV3) hbV4)).e6, (X0.past (below_thru (below_thru (below_thru (below_thru (hbV0) hbV1) hbV2) hbV3) hbV4)).e3⟩ (fun _ => ?_)
            clear hK K
            try simp only [List.getElem_toArray, List.getElem_cons_succ, List.getElem_cons_zero, Act.put, List.setIfInBounds_toArray, List.set_cons_zero, List.set_cons_succ]
            refine wpAnyH_ready (rs := [6]) (by kernel_rfl) (by simp) ?_
            refine AllReadyH.cons rfl (fun K hK => ?_) AllReadyH.nil
            replace B := (B.past (below_thru (below_thru (hbV2) hbV3) hbV4))
            obtain ⟨B_0, B_1, B_2, B_3, B_4, B_5⟩ := B.e6
            have B_f0 := B.f 0
            have B_f1 := B.f 1
            have B_f2 := B.f 2
            have B_f3 := B.f 3
            have B_f4 := B.f 4
            have B_f5 := B.f 5
            go_simp
            clear B_0 B_1 B_2 B_3 B_4 B_5 B_f0 B_f1 B_f2 B_f3 B_f4 B_f5
            refine hK.out _ _ ⟨((A.past (below_thru (below_thru (below_thru (below_thru (hbV0) hbV1) hbV2) hbV3) hbV4)).only (only6 _ _ _ _ _ _ _ _) (by omega)).e6, ((X0.past (below_thru (below_thru (below_thru (below_thru (hbV0) hbV1) hbV2) hbV3) hbV4)).only (only6 _ _ _ _ _ _ _ _) (by omega)).e3⟩ (fun _ => ?_)
            refine anyH_put6 B (fun V5 hOV5 B => ?_)
            have hzV5 := Nat.le_of_eq hOV5.size
            have hyV5 := Nat.le_of_eq hOV5.size.symm
            clear hK K
            try simp only [List.getElem_toArray, List.getElem_cons_succ, List.getElem_cons_zero, Act.put, List.setIfInBounds_toArray, List.set_cons_zero, List.set_cons_succ]
            refine wpAnyH_ready (rs := [7]) (by kernel_rfl) (by simp) ?_
            refine AllReadyH.cons rfl (fun K hK => ?_) AllReadyH.nil
            replace P := ((P.past (hbV4)).only hOV5 (by omega))
            obtain ⟨P_0, P_1, P_2⟩ := P.e3
            have P_f0 := P.f 0
            have P_f1 := P.f 1
            have P_f2 := P.f 2
            go_simp
            clear P_0 P_1 P_2 P_f0 P_f1 P_f2
            refine hK.out _ _ ⟨((A.past ((below_thru (below_thru (below_thru (below_thru (hbV0) hbV1) hbV2) hbV3) hbV4).trans (hOV5.below (by omega)))).only (only3 _ _ _ _ _) (by omega)).e6, ((X0.past ((below_thru (below_thru (below_thru (below_thru (hbV0) hbV1) hbV2) hbV3) hbV4).trans (hOV5.below (by omega)))).only (only3 _ _ _ _ _) (by omega)).e3⟩ (fun _ => ?_)
            refine anyH_put3 P (fun V6 hOV6 P => ?_)
            have hzV6 := Nat.le_of_eq hOV6.size
            have hyV6 := Nat.le_of_eq hOV6.size.symm
            clear hK K
            try simp only [List.getElem_toArray, List.getElem_cons_succ, List.getElem_cons_zero, Act.put, List.setIfInBounds_toArray, List.set_cons_zero, List.set_cons_succ]
            refine wpAnyH_done (by kernel_rfl) ?_ _
            go_wp2_with fail
            go_meet
            exact ⟨V0.heap.size, V2.heap.size, p, c, q, d, r, f, rfl, rfl, (B.only hOV6 (by omega)), P, (((ho.past (below_thru (hbV3) hbV4)).only hOV5 (fun h => by have := bho h; omega)).only hOV6 (fun h => by have := bho h; omega)).mono (by omega), (((hq.past (below_thru (hbV3) hbV4)).only hOV5 (fun h => by have := bhq h; omega)).only hOV6 (fun h => by have := bhq h; omega)).mono (by omega), ((hr.only hOV5 (fun h => by have := bhr h; omega)).only hOV6 (fun h => by have := bhr h; omega)).mono (by omega), (((below_thru (below_thru (below_thru (below_thru (hbV0) hbV1) hbV2) hbV3) hbV4).trans (hOV5.below (by omega))).trans (hOV6.below (by omega)))⟩
          refine AllReadyH.cons rfl (fun K hK => ?_) AllReadyH.nil
          go_simp
          refine hK.out _ _ ⟨((A.past (below_thru (hbV0) hbV1)).laid _).e6, ((X0.past (below_thru (hbV0) hbV1)).laid _).e3⟩ (fun _ => ?_)
          refine anyH_lay (fun V2 hbV2 hzV2 P => ?_)
          clear hK K
          try simp only [List.getElem_toArray, List.getElem_cons_succ, List.getElem_cons_zero, Act.put, List.setIfInBounds_toArray, List.set_cons_zero, List.set_cons_succ]
          refine wpAnyH_ready (rs := [1]) (by kernel_rfl) (by simp) ?_
          refine AllReadyH.cons rfl (fun K hK => ?_) AllReadyH.nil
          go_simp
          go_at_call 53; ((with_reducible refine ((HOA _ (ha.past (below_thru (below_thru (hbV0) hbV1) hbV2)) (hb.past (below_thru (below_thru (hbV0) hbV1) hbV2)) (hT.past (below_thru (below_thru (hbV0) hbV1) hbV2)) q1 q2).out).mono ?_)); rintro exV3 V3 ⟨p, c, q, d, rfl, ho, hq, hbV3⟩
          have bho := ho.blk_lt
          have bhq := hq.blk_lt
          have hzV3 := hbV3.size
          refine hK.out _ _ ⟨(A.past (below_thru (below_thru (below_thru (hbV0) hbV1) hbV2) hbV3)).e6, (X0.past (below_thru (below_thru (below_thru (hbV0) hbV1) hbV2) hbV3)).e3⟩ (fun _ => ?_)
          clear hK K
          try simp only [List.getElem_toArray, List.getElem_cons_succ, List.getElem_cons_zero, Act.put, List.setIfInBounds_toArray, List.set_cons_zero, List.set_cons_succ]
          refine wpAnyH_ready (rs := [3]) (by kernel_rfl) (by simp) ?_
          refine AllReadyH.cons rfl (fun K hK => ?_) AllReadyH.nil
          go_simp
          go_at_call 49; ((with_reducible refine ((HOX _ (hx.past (below_thru (below_thru (below_thru (hbV0) hbV1) hbV2) hbV3)) (hT.past (below_thru (below_thru (below_thru (hbV0) hbV1) hbV2) hbV3)) HHX.out).out).mono ?_)); rintro exV4 V4 ⟨r, f, rfl, hr, hbV4⟩
          have bhr := hr.blk_lt
          have hzV4 := hbV4.size
          refine hK.out _ _ ⟨(A.past (below_thru (below_thru (below_thru (below_thru (hbV0) hbV1) hbV2) hbV3) hbV4)).e6, (X0.past (below_thru (below_thru (below_thru (below_thru (hbV0) hbV1) hbV2) hbV3) hbV4)).e3⟩ (fun _ => ?_)
          clear hK K
          try simp only [List.getElem_toArray, List.getElem_cons_succ, List.getElem_cons_zero, Act.put, List.setIfInBounds_toArray, List.set_cons_zero, List.set_cons_succ]
          refine wpAnyH_ready (rs := [6]) (by kernel_rfl) (by simp) ?_
          refine AllReadyH.cons rfl (fun K hK => ?_) AllReadyH.nil
          replace B := (B.past (below_thru (below_thru (hbV2) hbV3) hbV4))
          obtain ⟨B_0, B_1, B_2, B_3, B_4, B_5⟩ := B.e6
          have B_f0 := B.f 0
          have B_f1 := B.f 1
          have B_f2 := B.f 2
          have B_f3 := B.f 3
          have B_f4 := B.f 4
          have B_f5 := B.f 5
          go_simp
          clear B_0 B_1 B_2 B_3 B_4 B_5 B_f0 B_f1 B_f2 B_f3 B_f4 B_f5
          refine hK.out _ _ ⟨((A.past (below_thru (below_thru (below_thru (below_thru (hbV0) hbV1) hbV2) hbV3) hbV4)).only (only6 _ _ _ _ _ _ _ _) (by omega)).e6, ((X0.past (below_thru (below_thru (below_thru (below_thru (hbV0) hbV1) hbV2) hbV3) hbV4)).only (only6 _ _ _ _ _ _ _ _) (by omega)).e3⟩ (fun _ => ?_)
          refine anyH_put6 B (fun V5 hOV5 B => ?_)
          have hzV5 := Nat.le_of_eq hOV5.size
          have hyV5 := Nat.le_of_eq hOV5.size.symm
          clear hK K
          try simp only [List.getElem_toArray, List.getElem_cons_succ, List.getElem_cons_zero, Act.put, List.setIfInBounds_toArray, List.set_cons_zero, List.set_cons_succ]
          refine wpAnyH_ready (rs := [7]) (by kernel_rfl) (by simp) ?_
          refine AllReadyH.cons rfl (fun K hK => ?_) AllReadyH.nil
          replace P := ((P.past (below_thru (hbV3) hbV4)).only hOV5 (by omega))
          obtain ⟨P_0, P_1, P_2⟩ := P.e3
          have P_f0 := P.f 0
          have P_f1 := P.f 1
          have P_f2 := P.f 2
          go_simp
          clear P_0 P_1 P_2 P_f0 P_f1 P_f2
          refine hK.out _ _ ⟨((A.past ((below_thru (below_thru (below_thru (below_thru (hbV0) hbV1) hbV2) hbV3) hbV4).trans (hOV5.below (by omega)))).only (only3 _ _ _ _ _) (by omega)).e6, ((X0.past ((below_thru (below_thru (below_thru (below_thru (hbV0) hbV1) hbV2) hbV3) hbV4).trans (hOV5.below (by omega)))).only (only3 _ _ _ _ _) (by omega)).e3⟩ (fun _ => ?_)
          refine anyH_put3 P (fun V6 hOV6 P => ?_)
          have hzV6 := Nat.le_of_eq hOV6.size
          have hyV6 := Nat.le_of_eq hOV6.size.symm
          clear hK K
          try simp only [List.getElem_toArray, List.getElem_cons_succ, List.getElem_cons_zero, Act.put, List.setIfInBounds_toArray, List.set_cons_zero, List.set_cons_succ]
          refine wpAnyH_done (by kernel_rfl) ?_ _
          go_wp2_with fail
          go_meet
          exact ⟨V0.heap.size, V1.heap.size, p, c, q, d, r, f, rfl, rfl, (B.only hOV6 (by omega)), P, (((ho.past (hbV4)).only hOV5 (fun h => by have := bho h; omega)).only hOV6 (fun h => by have := bho h; omega)).mono (by omega), (((hq.past (hbV4)).only hOV5 (fun h => by have := bhq h; omega)).only hOV6 (fun h => by have := bhq h; omega)).mono (by omega), ((hr.only hOV5 (fun h => by have := bhr h; omega)).only hOV6 (fun h => by have := bhr h; omega)).mono (by omega), (((below_thru (below_thru (below_thru (below_thru (hbV0) hbV1) hbV2) hbV3) hbV4).trans (hOV5.below (by omega))).trans (hOV6.below (by omega)))⟩
        refine AllReadyH.cons rfl (fun K hK => ?_) AllReadyH.nil
        go_simp
        refine hK.out _ _ ⟨((A.past (hbV0)).laid _).e6, ((X0.past (hbV0)).laid _).e3⟩ (fun _ => ?_)
        refine anyH_lay (fun V1 hbV1 hzV1 P => ?_)
        clear hK K
        try simp only [List.getElem_toArray, List.getElem_cons_succ, List.getElem_cons_zero, Act.put, List.setIfInBounds_toArray, List.set_cons_zero, List.set_cons_succ]
        refine wpAnyH_ready (rs := [1, 4]) (by kernel_rfl) (by simp) ?_
        refine AllReadyH.cons rfl (fun K hK => ?_) ?_
        · skip
          go_simp
          go_at_call 53; ((with_reducible refine ((HOA _ (ha.past (below_thru (hbV0) hbV1)) (hb.past (below_thru (hbV0) hbV1)) (hT.past (below_thru (hbV0) hbV1)) q1 q2).out).mono ?_)); rintro exV2 V2 ⟨p, c, q, d, rfl, ho, hq, hbV2⟩
          have bho := ho.blk_lt
          have bhq := hq.blk_lt
          have hzV2 := hbV2.size
          refine hK.out _ _ ⟨(A.past (below_thru (below_thru (hbV0) hbV1) hbV2)).e6, (X0.past (below_thru (below_thru (hbV0) hbV1) hbV2)).e3⟩ (fun _ => ?_)
          clear hK K
          try simp only [List.getElem_toArray, List.getElem_cons_succ, List.getElem_cons_zero, Act.put, List.setIfInBounds_toArray, List.set_cons_zero, List.set_cons_succ]
          refine wpAnyH_ready (rs := [3, 4]) (by kernel_rfl) (by simp) ?_
          refine AllReadyH.cons rfl (fun K hK => ?_) ?_
          · skip
            go_simp
            go_at_call 49; ((with_reducible refine ((HOX _ (hx.past (below_thru (below_thru (hbV0) hbV1) hbV2)) (hT.past (below_thru (below_thru (hbV0) hbV1) hbV2)) HHX.out).out).mono ?_)); rintro exV3 V3 ⟨r, f, rfl, hr, hbV3⟩
            have bhr := hr.blk_lt
            have hzV3 := hbV3.size
            refine hK.out _ _ ⟨(A.past (below_thru (below_thru (below_thru (hbV0) hbV1) hbV2) hbV3)).e6, (X0.past (below_thru (below_thru (below_thru (hbV0) hbV1) hbV2) hbV3)).e3⟩ (fun _ => ?_)
            clear hK K
            try simp only [List.getElem_toArray, List.getElem_cons_succ, List.getElem_cons_zero, Act.put, List.setIfInBounds_toArray, List.set_cons_zero, List.set_cons_succ]
            refine wpAnyH_ready (rs := [4]) (by kernel_rfl) (by simp) ?_
            refine AllReadyH.cons rfl (fun K hK => ?_) AllReadyH.nil
            go_simp
            refine hK.out _ _ ⟨((A.past (below_thru (below_thru (below_thru (hbV0) hbV1) hbV2) hbV3)).laid _).e6, ((X0.past (below_thru (below_thru (below_thru (hbV0) hbV1) hbV2) hbV3)).laid _).e3⟩ (fun _ => ?_)
            refine anyH_lay (fun V4 hbV4 hzV4 B => ?_)
            clear hK K
            try simp only [List.getElem_toArray, List.getElem_cons_succ, List.getElem_cons_zero, Act.put, List.setIfInBounds_toArray, List.set_cons_zero, List.set_cons_succ]
            refine wpAnyH_ready (rs := [6]) (by kernel_rfl) (by simp) ?_
            refine AllReadyH.cons rfl (fun K hK => ?_) AllReadyH.nil
            obtain ⟨B_0, B_1, B_2, B_3, B_4, B_5⟩ := B.e6
            have B_f0 := B.f 0
            have B_f1 := B.f 1
            have B_f2 := B.f 2
            have B_f3 := B.f 3
            have B_f4 := B.f 4
            have B_f5 := B.f 5
            go_simp
            clear B_0 B_1 B_2 B_3 B_4 B_5 B_f0 B_f1 B_f2 B_f3 B_f4 B_f5
            refine hK.out _ _ ⟨((A.past (below_thru (below_thru (below_thru (below_thru (hbV0) hbV1) hbV2) hbV3) hbV4)).only (only6 _ _ _ _ _ _ _ _) (by omega)).e6, ((X0.past (below_thru (below_thru (below_thru (below_thru (hbV0) hbV1) hbV2) hbV3) hbV4)).only (only6 _ _ _ _ _ _ _ _) (by omega)).e3⟩ (fun _ => ?_)
            refine anyH_put6 B (fun V5 hOV5 B => ?_)
            have hzV5 := Nat.le_of_eq hOV5.size
            have hyV5 := Nat.le_of_eq hOV5.size.symm
            clear hK K
            try simp only [List.getElem_toArray, List.getElem_cons_succ, List.getElem_cons_zero, Act.put, List.setIfInBounds_toArray, List.set_cons_zero, List.set_cons_succ]
            refine wpAnyH_ready (rs := [7]) (by kernel_rfl) (by simp) ?_
            refine AllReadyH.cons rfl (fun K hK => ?_) AllReadyH.nil
            replace P := (P.past ((below_thru (below_thru (hbV2) hbV3) hbV4).trans (hOV5.below (by omega))))
            obtain ⟨P_0, P_1, P_2⟩ := P.e3
            have P_f0 := P.f 0
            have P_f1 := P.f 1
            have P_f2 := P.f 2
            go_simp
            clear P_0 P_1 P_2 P_f0 P_f1 P_f2
            refine hK.out _ _ ⟨((A.past ((below_thru (below_thru (below_thru (below_thru (hbV0) hbV1) hbV2) hbV3) hbV4).trans (hOV5.below (by omega)))).only (only3 _ _ _ _ _) (by omega)).e6, ((X0.past ((below_thru (below_thru (below_thru (below_thru (hbV0) hbV1) hbV2) hbV3) hbV4).trans (hOV5.below (by omega)))).only (only3 _ _ _ _ _) (by omega)).e3⟩ (fun _ => ?_)
            refine anyH_put3 P (fun V6 hOV6 P => ?_)
            have hzV6 := Nat.le_of_eq hOV6.size
            have hyV6 := Nat.le_of_eq hOV6.size.symm
            clear hK K
            try simp only [List.getElem_toArray, List.getElem_cons_succ, List.getElem_cons_zero, Act.put, List.setIfInBounds_toArray, List.set_cons_zero, List.set_cons_succ]
            refine wpAnyH_done (by kernel_rfl) ?_ _
            go_wp2_with fail
            go_meet
            exact ⟨V3.heap.size, V0.heap.size, p, c, q, d, r, f, rfl, rfl, (B.only hOV6 (by omega)), P, ((ho.past ((below_thru (hbV3) hbV4).trans (hOV5.below (by omega)))).only hOV6 (fun h => by have := bho h; omega)).mono (by omega), ((hq.past ((below_thru (hbV3) hbV4).trans (hOV5.below (by omega)))).only hOV6 (fun h => by have := bhq h; omega)).mono (by omega), ((hr.past ((hbV4).trans (hOV5.below (by omega)))).only hOV6 (fun h => by have := bhr h; omega)).mono (by omega), (((below_thru (below_thru (below_thru (below_thru (hbV0) hbV1) hbV2) hbV3) hbV4).trans (hOV5.below (by omega))).trans (hOV6.below (by omega)))⟩
          refine AllReadyH.cons rfl (fun K hK => ?_) AllReadyH.nil
          go_simp
          refine hK.out _ _ ⟨((A.past (below_thru (below_thru (hbV0) hbV1) hbV2)).laid _).e6, ((X0.past (below_thru (below_thru (hbV0) hbV1) hbV2)).laid _).e3⟩ (fun _ => ?_)
          refine anyH_lay (fun V3 hbV3 hzV3 B => ?_)
          clear hK K
          try simp only [List.getElem_toArray, List.getElem_cons_succ, List.getElem_cons_zero, Act.put, List.setIfInBounds_toArray, List.set_cons_zero, List.set_cons_succ]
          refine wpAnyH_ready (rs := [3]) (by kernel_rfl) (by simp) ?_
          refine AllReadyH.cons rfl (fun K hK => ?_) AllReadyH.nil
          go_simp
          go_at_call 49; ((with_reducible refine ((HOX _ (hx.past (below_thru (below_thru (below_thru (hbV0) hbV1) hbV2) hbV3)) (hT.past (below_thru (below_thru (below_thru (hbV0) hbV1) hbV2) hbV3)) HHX.out).out).mono ?_)); rintro exV4 V4 ⟨r, f, rfl, hr, hbV4⟩
          have bhr := hr.blk_lt
          have hzV4 := hbV4.size
          refine hK.out _ _ ⟨(A.past (below_thru (below_thru (below_thru (below_thru (hbV0) hbV1) hbV2) hbV3) hbV4)).e6, (X0.past (below_thru (below_thru (below_thru (below_thru (hbV0) hbV1) hbV2) hbV3) hbV4)).e3⟩ (fun _ => ?_)
          clear hK K
          try simp only [List.getElem_toArray, List.getElem_cons_succ, List.getElem_cons_zero, Act.put, List.setIfInBounds_toArray, List.set_cons_zero, List.set_cons_succ]
          refine wpAnyH_ready (rs := [6]) (by kernel_rfl) (by simp) ?_
          refine AllReadyH.cons rfl (fun K hK => ?_) AllReadyH.nil
          replace B := (B.past (hbV4))
          obtain ⟨B_0, B_1, B_2, B_3, B_4, B_5⟩ := B.e6
          have B_f0 := B.f 0
          have B_f1 := B.f 1
          have B_f2 := B.f 2
          have B_f3 := B.f 3
          have B_f4 := B.f 4
          have B_f5 := B.f 5
          go_simp
          clear B_0 B_1 B_2 B_3 B_4 B_5 B_f0 B_f1 B_f2 B_f3 B_f4 B_f5
          refine hK.out _ _ ⟨((A.past (below_thru (below_thru (below_thru (below_thru (hbV0) hbV1) hbV2) hbV3) hbV4)).only (only6 _ _ _ _ _ _ _ _) (by omega)).e6, ((X0.past (below_thru (below_thru (below_thru (below_thru (hbV0) hbV1) hbV2) hbV3) hbV4)).only (only6 _ _ _ _ _ _ _ _) (by omega)).e3⟩ (fun _ => ?_)
          refine anyH_put6 B (fun V5 hOV5 B => ?_)
          have hzV5 := Nat.le_of_eq hOV5.size
          have hyV5 := Nat.le_of_eq hOV5.size.symm
          clear hK K
          try simp only [List.getElem_toArray, List.getElem_cons_succ, List.getElem_cons_zero, Act.put, List.setIfInBounds_toArray, List.set_cons_zero, List.set_cons_succ]
          refine wpAnyH_ready (rs := [7]) (by kernel_rfl) (by simp) ?_
          refine AllReadyH.cons rfl (fun K hK => ?_) AllReadyH.nil
          replace P := (P.past ((below_thru (below_thru (hbV2) hbV3) hbV4).trans (hOV5.below (by omega))))
          obtain ⟨P_0, P_1, P_2⟩ := P.e3
          have P_f0 := P.f 0
          have P_f1 := P.f 1
          have P_f2 := P.f 2
          go_simp
          clear P_0 P_1 P_2 P_f0 P_f1 P_f2
          refine hK.out _ _ ⟨((A.past ((below_thru (below_thru (below_thru (below_thru (hbV0) hbV1) hbV2) hbV3) hbV4).trans (hOV5.below (by omega)))).only (only3 _ _ _ _ _) (by omega)).e6, ((X0.past ((below_thru (below_thru (below_thru (below_thru (hbV0) hbV1) hbV2) hbV3) hbV4).trans (hOV5.below (by omega)))).only (only3 _ _ _ _ _) (by omega)).e3⟩ (fun _ => ?_)
          refine anyH_put3 P (fun V6 hOV6 P => ?_)
          have hzV6 := Nat.le_of_eq hOV6.size
          have hyV6 := Nat.le_of_eq hOV6.size.symm
          clear hK K
          try simp only [List.getElem_toArray, List.getElem_cons_succ, List.getElem_cons_zero, Act.put, List.setIfInBounds_toArray, List.set_cons_zero, List.set_cons_succ]
          refine wpAnyH_done (by kernel_rfl) ?_ _
          go_wp2_with fail
          go_meet
          exact ⟨V2.heap.size, V0.heap.size, p, c, q, d, r, f, rfl, rfl, (B.only hOV6 (by omega)), P, ((ho.past ((below_thru (hbV3) hbV4).trans (hOV5.below (by omega)))).only hOV6 (fun h => by have := bho h; omega)).mono (by omega), ((hq.past ((below_thru (hbV3) hbV4).trans (hOV5.below (by omega)))).only hOV6 (fun h => by have := bhq h; omega)).mono (by omega), ((hr.only hOV5 (fun h => by have := bhr h; omega)).only hOV6 (fun h => by have := bhr h; omega)).mono (by omega), (((below_thru (below_thru (below_thru (below_thru (hbV0) hbV1) hbV2) hbV3) hbV4).trans (hOV5.below (by omega))).trans (hOV6.below (by omega)))⟩
        refine AllReadyH.cons rfl (fun K hK => ?_) AllReadyH.nil
        go_simp
        refine hK.out _ _ ⟨((A.past (below_thru (hbV0) hbV1)).laid _).e6, ((X0.past (below_thru (hbV0) hbV1)).laid _).e3⟩ (fun _ => ?_)
        refine anyH_lay (fun V2 hbV2 hzV2 B => ?_)
        clear hK K
        try simp only [List.getElem_toArray, List.getElem_cons_succ, List.getElem_cons_zero, Act.put, List.setIfInBounds_toArray, List.set_cons_zero, List.set_cons_succ]
        refine wpAnyH_ready (rs := [1]) (by kernel_rfl) (by simp) ?_
        refine AllReadyH.cons rfl (fun K hK => ?_) AllReadyH.nil
        go_simp
        go_at_call 53; ((with_reducible refine ((HOA _ (ha.past (below_thru (below_thru (hbV0) hbV1) hbV2)) (hb.past (below_thru (below_thru (hbV0) hbV1) hbV2)) (hT.past (below_thru (below_thru (hbV0) hbV1) hbV2)) q1 q2).out).mono ?_)); rintro exV3 V3 ⟨p, c, q, d, rfl, ho, hq, hbV3⟩
        have bho := ho.blk_lt
        have bhq := hq.blk_lt
        have hzV3 := hbV3.size
        refine hK.out _ _ ⟨(A.past (below_thru (below_thru (below_thru (hbV0) hbV1) hbV2) hbV3)).e6, (X0.past (below_thru (below_thru (below_thru (hbV0) hbV1) hbV2) hbV3)).e3⟩ (fun _ => ?_)
        clear hK K
        try simp only [List.getElem_toArray, List.getElem_cons_succ, List.getElem_cons_zero, Act.put, List.setIfInBounds_toArray, List.set_cons_zero, List.set_cons_succ]
        refine wpAnyH_ready (rs := [3]) (by kernel_rfl) (by simp) ?_
        refine AllReadyH.cons rfl (fun K hK => ?_) AllReadyH.nil
        go_simp
        go_at_call 49; ((with_reducible refine ((HOX _ (hx.past (below_thru (below_thru (below_thru (hbV0) hbV1) hbV2) hbV3)) (hT.past (below_thru (below_thru (below_thru (hbV0) hbV1) hbV2) hbV3)) HHX.out).out).mono ?_)); rintro exV4 V4 ⟨r, f, rfl, hr, hbV4⟩
        have bhr := hr.blk_lt
        have hzV4 := hbV4.size
        refine hK.out _ _ ⟨(A.past (below_thru (below_thru (below_thru (below_thru (hbV0) hbV1) hbV2) hbV3) hbV4)).e6, (X0.past (below_thru (below_thru (below_thru (below_thru (hbV0) hbV1) hbV2) hbV3) hbV4)).e3⟩ (fun _ => ?_)
        clear hK K
        try simp only [List.getElem_toArray, List.getElem_cons_succ, List.getElem_cons_zero, Act.put, List.setIfInBounds_toArray, List.set_cons_zero, List.set_cons_succ]
        refine wpAnyH_ready (rs := [6]) (by kernel_rfl) (by simp) ?_
        refine AllReadyH.cons rfl (fun K hK => ?_) AllReadyH.nil
        replace B := (B.past (below_thru (hbV3) hbV4))
        obtain ⟨B_0, B_1, B_2, B_3, B_4, B_5⟩ := B.e6
        have B_f0 := B.f 0
        have B_f1 := B.f 1
        have B_f2 := B.f 2
        have B_f3 := B.f 3
        have B_f4 := B.f 4
        have B_f5 := B.f 5
        go_simp
        clear B_0 B_1 B_2 B_3 B_4 B_5 B_f0 B_f1 B_f2 B_f3 B_f4 B_f5
        refine hK.out _ _ ⟨((A.past (below_thru (below_thru (below_thru (below_thru (hbV0) hbV1) hbV2) hbV3) hbV4)).only (only6 _ _ _ _ _ _ _ _) (by omega)).e6, ((X0.past (below_thru (below_thru (below_thru (below_thru (hbV0) hbV1) hbV2) hbV3) hbV4)).only (only6 _ _ _ _ _ _ _ _) (by omega)).e3⟩ (fun _ => ?_)
        refine anyH_put6 B (fun V5 hOV5 B => ?_)
        have hzV5 := Nat.le_of_eq hOV5.size
        have hyV5 := Nat.le_of_eq hOV5.size.symm
        clear hK K
        try simp only [List.getElem_toArray, List.getElem_cons_succ, List.getElem_cons_zero, Act.put, List.setIfInBounds_toArray, List.set_cons_zero, List.set_cons_succ]
        refine wpAnyH_ready (rs := [7]) (by kernel_rfl) (by simp) ?_
        refine AllReadyH.cons rfl (fun K hK => ?_) AllReadyH.nil
        replace P := (P.past ((below_thru (below_thru (hbV2) hbV3) hbV4).trans (hOV5.below (by omega))))
        obtain ⟨P_0, P_1, P_2⟩ := P.e3
        have P_f0 := P.f 0
        have P_f1 := P.f 1
        have P_f2 := P.f 2
        go_simp
        clear P_0 P_1 P_2 P_f0 P_f1 P_f2
        refine hK.out _ _ ⟨((A.past ((below_thru (below_thru (below_thru (below_thru (hbV0) hbV1) hbV2) hbV3) hbV4).trans (hOV5.below (by omega)))).only (only3 _ _ _ _ _) (by omega)).e6, ((X0.past ((below_thru (below_thru (below_thru (below_thru (hbV0) hbV1) hbV2) hbV3) hbV4).trans (hOV5.below (by omega)))).only (only3 _ _ _ _ _) (by omega)).e3⟩ (fun _ => ?_)
        refine anyH_put3 P (fun V6 hOV6 P => ?_)
        have hzV6 := Nat.le_of_eq hOV6.size
        have hyV6 := Nat.le_of_eq hOV6.size.symm
        clear hK K
        try simp only [List.getElem_toArray, List.getElem_cons_succ, List.getElem_cons_zero, Act.put, List.setIfInBounds_toArray, List.set_cons_zero, List.set_cons_succ]
        refine wpAnyH_done (by kernel_rfl) ?_ _
        go_wp2_with fail
        go_meet
        exact ⟨V1.heap.size, V0.heap.size, p, c, q, d, r, f, rfl, rfl, (B.only hOV6 (by omega)), P, (((ho.past (hbV4)).only hOV5 (fun h => by have := bho h; omega)).only hOV6 (fun h => by have := bho h; omega)).mono (by omega), (((hq.past (hbV4)).only hOV5 (fun h => by have := bhq h; omega)).only hOV6 (fun h => by have := bhq h; omega)).mono (by omega), ((hr.only hOV5 (fun h => by have := bhr h; omega)).only hOV6 (fun h => by have := bhr h; omega)).mono (by omega), (((below_thru (below_thru (below_thru (below_thru (hbV0) hbV1) hbV2) hbV3) hbV4).trans (hOV5.below (by omega))).trans (hOV6.below (by omega)))⟩
      case rest =>
        obtain ⟨kb, kp, p, c, q, d, r, f, rfl, rfl, B, P, ho, hq, hr, hb4⟩ := hcut
        replace A := A.past hb4
        replace X0 := X0.past hb4
        replace ha := ha.past hb4
        replace hb := hb.past hb4
        replace hx := hx.past hb4
        replace hT := hT.past hb4
        have hs4 := hs3.trans (hb4.mono hs3.size)
        clear A X0 ha hb hx HOA HOX HCX
        have C1 := fun W k1 k2 => Lib.hid (cmpW_any ⟨va.neg, p, c, va.m, va.e⟩ ⟨vx.neg, r, f, vx.m, vx.e⟩ w3.heap.size w3.heap.size W (inW_of k1 Fa) (inW_of k2 Fx))
        have C2 := fun W k1 k2 => Lib.hid (cmpW_any ⟨vx.neg, r, f, vx.m, vx.e⟩ ⟨vb.neg, q, d, vb.m, vb.e⟩ w3.heap.size w3.heap.size W (inW_of k1 Fx) (inW_of k2 Fb))
        have HV := Lib.hid (show hasV a b x = (decide (pCmp va vx ≤ 0) && decide (pCmp vx vb ≤ 0)) from HV.out)
        have C1 : ∀ W, Own W w3.heap.size .u32 77 p c (dig B32 va.m) → Own W w3.heap.size .u32 77 r f (dig B32 vx.m) → Hid (Calls Tryd.prog 50 #[.agg #[.bool va.neg, .slice p (dig B32 va.m).length c, .int .i64 va.e], .agg #[.bool vx.neg, .slice r (dig B32 vx.m).length f, .int .i64 vx.e]] W fun en w' => en = .returned (.int .i64 (pCmp va vx)) ∧ Below W.heap.size W w') := C1
        have C2 : ∀ W, Own W w3.heap.size .u32 77 r f (dig B32 vx.m) → Own W w3.heap.size .u32 77 q d (dig B32 vb.m) → Hid (Calls Tryd.prog 50 #[.agg #[.bool vx.neg, .slice r (dig B32 vx.m).length f, .int .i64 vx.e], .agg #[.bool vb.neg, .slice q (dig B32 vb.m).length d, .int .i64 vb.e]] W fun en w' => en = .returned (.int .i64 (pCmp vx vb)) ∧ Below W.heap.size W w') := C2
        generalize pCmp va vx = c1 at *
        generalize pCmp vx vb = c2 at *
        by_cases g1 : c1 ≤ 0
        · have t3 : decide (c1 ≤ 0) = true := decide_eq_true g1
          rw [t3, Bool.true_and] at HV
          obtain ⟨B_0, B_1, B_2, B_3, B_4, B_5⟩ := B.e6
          obtain ⟨P_0, P_1, P_2⟩ := P.e3
          go_wp2_with fail
          clear B_0 B_1 B_2 B_3 B_4 B_5 P_0 P_1 P_2
          ((with_reducible refine ((C1 _ ho hr).out).mono ?_))
          rintro e5 w5 ⟨rfl, hb5⟩
          replace B := B.past hb5
          replace P := P.past hb5
          replace ho := ho.past hb5
          replace hq := hq.past hb5
          replace hr := hr.past hb5
          have hs5 := hs4.trans (hb5.mono hs4.size)
          obtain ⟨B_0, B_1, B_2, B_3, B_4, B_5⟩ := B.e6
          obtain ⟨P_0, P_1, P_2⟩ := P.e3
          go_wp2_with fail
          clear B_0 B_1 B_2 B_3 B_4 B_5 P_0 P_1 P_2
          ((with_reducible refine ((C2 _ hr hq).out).mono ?_))
          rintro e6 w6 ⟨rfl, hb6⟩
          replace B := B.past hb6
          replace P := P.past hb6
          replace ho := ho.past hb6
          replace hq := hq.past hb6
          replace hr := hr.past hb6
          have hs6 := hs5.trans (hb6.mono hs5.size)
          go_wp2
          go_ret2
          rw [HV.out, HE0.out]
          exact ⟨rfl, hs6⟩
        · have t3 : decide (c1 ≤ 0) = false := decide_eq_false g1
          rw [t3, Bool.false_and] at HV
          obtain ⟨B_0, B_1, B_2, B_3, B_4, B_5⟩ := B.e6
          obtain ⟨P_0, P_1, P_2⟩ := P.e3
          go_wp2_with fail
          clear B_0 B_1 B_2 B_3 B_4 B_5 P_0 P_1 P_2
          ((with_reducible refine ((C1 _ ho hr).out).mono ?_))
          rintro e5 w5 ⟨rfl, hb5⟩
          replace B := B.past hb5
          replace P := P.past hb5
          replace ho := ho.past hb5
          replace hq := hq.past hb5
          replace hr := hr.past hb5
          have hs5 := hs4.trans (hb5.mono hs4.size)
          go_wp2
          go_ret2
          rw [HV.out, HE0.out]
          exact ⟨rfl, hs5⟩
    · have HV := Lib.hid (HV.out.trans (if_neg (by rw [HEP.out]; exact h1)))
      have t1 : (errBall a b != 0) = false := by simpa using h0
      have t2 : (errDy x != 0) = true := by rw [bne, beq_eq_false_iff_ne.2 h1]; rfl
      clear h0 h1 HOA HOX
      generalize errBall a b = eb at *
      generalize errDy x = ex at *
      go_enter Tryd.func25, Tryd.ntmps25
      go_upto_region 1 with (fail)
      refine wp_lay2 (fun W1 hb1 hz1 A X0 => ?_)
      replace ha := ha.past hb1
      replace hb := hb.past hb1
      replace hx := hx.past hb1
      replace hT := hT.past hb1
      have hs1 := hb1
      obtain ⟨A_0, A_1, A_2, A_3, A_4, A_5⟩ := A.e6
      go_wp2_with fail
      clear A_0 A_1 A_2 A_3 A_4 A_5
      ((with_reducible refine (bcheck1_new 1 a b _ _ rfl ha hb hT).mono ?_))
      rw [HER.out]
      rintro e2 w2 ⟨rfl, hb2⟩
      replace hb2 : Below W1.heap.size W1 w2 := (below_lay1 W1 _).trans (hb2.mono (by omega))
      replace A := A.past hb2
      replace X0 := X0.past hb2
      replace ha := ha.past hb2
      replace hb := hb.past hb2
      replace hx := hx.past hb2
      replace hT := hT.past hb2
      have hs2 := hs1.trans (hb2.mono hs1.size)
      obtain ⟨X0_0, X0_1, X0_2⟩ := X0.e3
      go_wp2_with fail
      clear X0_0 X0_1 X0_2
      ((with_reducible refine ((HCX _ hx.rd).out).mono ?_))
      rintro e3 w3 ⟨rfl, hb3⟩
      replace A := A.past hb3
      replace X0 := X0.past hb3
      replace ha := ha.past hb3
      replace hb := hb.past hb3
      replace hx := hx.past hb3
      replace hT := hT.past hb3
      have hs3 := hs2.trans (hb3.mono hs2.size)
      go_wp2
      go_ret2
      rw [HV.out, HEP.out]
      exact ⟨rfl, hs3⟩
  · have HEN := Lib.hid (HE.out.trans (if_neg h0))
    clear HE
    have HV := Lib.hid (HV.out.trans (if_neg (by rw [HEN.out]; exact h0)))
    have t1 : (errBall a b != 0) = true := by rw [bne, beq_eq_false_iff_ne.2 h0]; rfl
    clear h0 HOA HOX HCX
    generalize errBall a b = eb at *
    go_enter Tryd.func25, Tryd.ntmps25
    go_upto_region 1 with (fail)
    refine wp_lay2 (fun W1 hb1 hz1 A X0 => ?_)
    replace ha := ha.past hb1
    replace hb := hb.past hb1
    replace hx := hx.past hb1
    replace hT := hT.past hb1
    have hs1 := hb1
    obtain ⟨A_0, A_1, A_2, A_3, A_4, A_5⟩ := A.e6
    go_wp2_with fail
    clear A_0 A_1 A_2 A_3 A_4 A_5
    ((with_reducible refine (bcheck1_new 1 a b _ _ rfl ha hb hT).mono ?_))
    rw [HER.out]
    rintro e2 w2 ⟨rfl, hb2⟩
    replace hb2 : Below W1.heap.size W1 w2 := (below_lay1 W1 _).trans (hb2.mono (by omega))
    replace A := A.past hb2
    replace X0 := X0.past hb2
    replace ha := ha.past hb2
    replace hb := hb.past hb2
    replace hx := hx.past hb2
    replace hT := hT.past hb2
    have hs2 := hs1.trans (hb2.mono hs1.size)
    go_wp2
    go_ret2
    rw [HV.out, HEN.out]
    exact ⟨rfl, hs2⟩

end Go.Proofs.YtkooikgplpamlaaDoor

namespace Go.Proofs.YtkooikgplpamlaaDoor
open Go.RowKit Go.Slip



set_option maxHeartbeats 8000000 in
set_option maxRecDepth 100000 in
theorem rootD_any (x : Rw) (b base : Nat) (up : Bool) (w : World) (hx : InW w base x) (sx : Sm x) (hb : b ≤ 5000) (hT : TabW w) (hbase : base ≤ w.heap.size) :
    Calls Tryd.prog 101 #[.agg #[.bool x.g, .slice x.p (dig B32 x.m).length x.c, .int .i64 x.e], .int .i64 b, .bool up] w (GivesD w base (pRoot x.v b up)) := by
  have HS := fun W => Lib.hid (signW_any x W)
  have HJ := Lib.hid (show pRoot x.v b up = if x.m = 0 then x.v else pCut (bare (stickyR x.m (evenN x.e (2 * b + 4 - blen x.m)) (isq (x.m * 2 ^ evenN x.e (2 * b + 4 - blen x.m))) 1 x.e)) b up from rfl)
  have hS0 := dSign_m (x := x)
  have hSb := dSign_bd x.v
  obtain ⟨S, hS⟩ : ∃ S, dSign x.v = S := ⟨_, rfl⟩
  rw [hS] at HS hS0 hSb
  clear hS
  by_cases h0 : x.m = 0
  · have t1 : (S == 0) = true := by simpa using hS0.2 h0
    have HK := Lib.hid (HJ.out.trans (if_pos h0))
    clear HJ hS0 h0
    go_enter Tryd.func101, Tryd.ntmps101
    go_wp2_with fail
    refine calls_lay2 (fun W1 hb1 hz1 A R => ?_)
    have hs1 := hb1
    obtain ⟨A_0, A_1, A_2⟩ := A.e3
    go_wp2_with fail
    clear A_0 A_1 A_2
    ((with_reducible refine ((HS _).out).mono ?_))
    rintro e2 w2 ⟨rfl, hb2⟩
    replace A := A.past hb2
    replace R := R.past hb2
    have hs2 := hs1.trans (hb2.mono hs1.size)
    have hxl := fun h => (hx.ow.blk_lt h).2
    obtain ⟨A_0, A_1, A_2⟩ := A.e3
    obtain ⟨R_0, R_1, R_2⟩ := R.e3
    have R_f0 := R.f 0
    have R_f1 := R.f 1
    have R_f2 := R.f 2
    go_wp2_with fail
    clear A_0 A_1 A_2 R_0 R_1 R_2 R_f0 R_f1 R_f2
    obtain ⟨R_0, R_1, R_2⟩ := R.e3
    refine bodyPost_ret (v := .agg #[.bool x.g, .slice x.p (dig B32 x.m).length x.c, .int .i64 x.e]) (by simp [results, Tryd.results101, go_sem, R_0, R_1, R_2]) rfl ?_
    rw [HK.out]
    exact givesD_put (d := x.v) hs2 (hx.ow.past hs2) (by omega) (fun h => by have := hxl h; omega)
  · have t1 : (S == 0) = false := beq_eq_false_iff_ne.2 (fun h => h0 (hS0.1 h))
    have HK := Lib.hid (HJ.out.trans (if_neg h0))
    have hx0 : 0 < x.m := by omega
    clear HJ hS0 h0
    have sx1 := sx.len
    have sx2 := sx.lo
    have sx3 := sx.hi
    have hLX := blen_len32 x.m
    have HLX := fun W h => Lib.hid (len_any x.p _ x.c x.m W h rfl (by omega))
    obtain ⟨N0, hN0⟩ : ∃ N0, 2 * b + 4 - blen x.m = N0 := ⟨_, rfl⟩
    rw [hN0] at HK
    have hev : evenN x.e N0 = if (x.e - N0) % 2 = 0 then N0 else N0 + 1 := rfl
    have HE0 := Lib.hid (evenN_even x.e N0)
    have hnb := evenN_le x.e N0
    obtain ⟨N, hN⟩ : ∃ N, evenN x.e N0 = N := ⟨_, rfl⟩
    rw [hN] at HK hev HE0 hnb
    clear hN
    have HK := Lib.hid (HK.out.trans (show pCut (bare (stickyR x.m N (isq (x.m * 2 ^ N)) 1 x.e)) b up = pCut (bare ⟨false, 2 ^ 1 * isq (x.m * 2 ^ N) + (if isq (x.m * 2 ^ N) * isq (x.m * 2 ^ N) ≠ x.m * 2 ^ N then 1 else 0), (x.e - N) / 2 - 1⟩) b up from rfl))
    have m1 : max 0 (2 * (b : Int) + 4 - (blen x.m : Int)) = (N0 : Int) := by omega
    have hbl : (0 : Int) ≤ (blen x.m : Int) ∧ (blen x.m : Int) ≤ 100000 := by omega
    generalize blen x.m = LX at *
    have hN0b : N0 ≤ 10004 := by omega
    have HSX := fun W h => Lib.hid (shl_any x.p _ x.c x.m N W h rfl (by omega) (by omega))
    have lXN : (dig B32 (x.m * 2 ^ N)).length ≤ 1700 := by have := len_shl x.m N; omega
    generalize x.m * 2 ^ N = XN at *
    have lR : (dig B32 (isq XN)).length ≤ 1700 := Nat.le_trans (dig_len_mono B32_two (isq_le XN)) lXN
    have HRT := fun W p c h => Lib.hid (show Calls Tryd.prog 119 #[.slice p (dig B32 XN).length c, .int .i64 2] W (RootG W XN 2) from limbRoot_any p _ c XN 2 W h rfl (by omega) (by omega) (by omega))
    obtain ⟨E2, hE2⟩ : ∃ E2, (x.e - (N : Int)) / 2 = E2 := ⟨_, rfl⟩
    rw [hE2] at HK
    have hE2b : -110000 ≤ E2 ∧ E2 ≤ 100000 := by omega
    have e4 : (x.e - (N : Int)).tdiv 2 = E2 := by rw [tdiv2 HE0.out, hE2]
    clear hE2
    obtain ⟨E, hE⟩ : ∃ E, E2 - 1 = E := ⟨_, rfl⟩
    rw [hE] at HK
    have hEb : -110100 ≤ E ∧ E ≤ 100100 := by omega
    have e5 := hE
    have H4 := Lib.hid e4
    have H5 := Lib.hid e5
    clear hE hN0 e4 e5
    by_cases hpar : (x.e - (N0 : Int)) % 2 = 0
    · rw [if_pos hpar] at hev
      subst hev
      have t2 : ((x.e - (N : Int)).tmod 2 != 0) = false := by rw [tmod2, hpar]; rfl
      clear hpar
      go_enter Tryd.func101, Tryd.ntmps101
      go_upto_region 1 with (fail)
      refine wp_lay2 (fun W1 hb1 hz1 A R => ?_)
      replace hx := hx.past hb1
      replace hT := hT.past hb1
      have hs1 := hb1
      have hRW := R.lt
      have zW := hb1.size
      obtain ⟨A_0, A_1, A_2⟩ := A.e3
      go_wp2_with fail
      clear A_0 A_1 A_2
      ((with_reducible refine ((HS _).out).mono ?_))
      rintro e2 w2 ⟨rfl, hb2⟩
      replace A := A.past hb2
      replace R := R.past hb2
      replace hx := hx.past hb2
      replace hT := hT.past hb2
      have hs2 := hs1.trans (hb2.mono hs1.size)
      have z2 := hb2.size
      obtain ⟨A_0, A_1, A_2⟩ := A.e3
      go_wp2_with fail
      clear A_0 A_1 A_2
      ((with_reducible refine (((HLX _ hx.ow.rd).out)).mono ?_))
      rintro _ _ ⟨rfl, rfl⟩
      obtain ⟨A_0, A_1, A_2⟩ := A.e3
      go_upto_region 6 with (fail)
      clear A_0 A_1 A_2
      obtain ⟨A_0, A_1, A_2⟩ := A.e3
      go_wp2_with fail
      clear A_0 A_1 A_2
      ((with_reducible refine (HSX _ hx.ow.rd).out.mono ?_))
      rintro e3 w3 ⟨p3, c3, rfl, ho3, hb3⟩
      replace A := A.past hb3
      replace R := R.past hb3
      replace hx := hx.past hb3
      replace hT := hT.past hb3
      have hs3 := hs2.trans (hb3.mono hs2.size)
      have z3 := hb3.size
      go_wp2_with fail
      ((with_reducible refine (HRT _ _ _ ho3.rd).out.mono ?_))
      rintro e4 w4 ⟨r, k1, k2, p4, c4, rfl, ho4, hb4⟩
      replace A := A.past hb4
      replace R := R.past hb4
      replace hx := hx.past hb4
      replace hT := hT.past hb4
      replace ho3 := ho3.past hb4
      have hs4 := hs3.trans (hb4.mono hs3.size)
      have z4 := hb4.size
      have hrq := isq_is k1 k2
      rw [hrq] at HK lR
      clear hrq k1 k2
      go_wp2_with fail
      ((with_reducible refine (mul_any p4 p4 _ _ c4 c4 r r _ ho4.rd ho4.rd rfl rfl (by omega)).mono ?_))
      rintro e5 w5 ⟨p5, c5, rfl, ho5, hb5⟩
      replace A := A.past hb5
      replace R := R.past hb5
      replace hx := hx.past hb5
      replace hT := hT.past hb5
      replace ho3 := ho3.past hb5
      replace ho4 := ho4.past hb5
      have hs5 := hs4.trans (hb5.mono hs4.size)
      have z5 := hb5.size
      have lrr : (dig B32 (r * r)).length ≤ 4000 := by have := dig_len_mul B32_two r r; omega
      go_wp2_with fail
      ((with_reducible refine (cmp_any p5 p3 _ _ c5 c3 (r * r) XN _ ho5.rd ho3.rd rfl rfl (by omega) (by omega)).mono ?_))
      rintro e6 w6 ⟨rfl, hb6⟩
      replace A := A.past hb6
      replace R := R.past hb6
      replace hx := hx.past hb6
      replace hT := hT.past hb6
      replace ho4 := ho4.past hb6
      have hs6 := hs5.trans (hb6.mono hs5.size)
      have z6 := hb6.size
      have hcm : cmpN (r * r) XN = 0 ↔ r * r = XN := by unfold cmpN; split <;> (try split) <;> omega
      generalize cmpN (r * r) XN = cm at *
      go_wp2_with fail
      ((with_reducible refine (shl1_any p4 c4 r _ ho4.rd (by omega)).mono ?_))
      rintro e7 w7 ⟨p7, c7, rfl, ho7, hb7⟩
      replace A := A.past hb7
      replace R := R.past hb7
      replace hx := hx.past hb7
      replace hT := hT.past hb7
      have hs7 := hs6.trans (hb7.mono hs6.size)
      have z7 := hb7.size
      have lr2 : (dig B32 (r * 2 ^ 1)).length ≤ 1710 := by have := len_shl r 1; omega
      have HR2 := Lib.hid (show r * 2 ^ 1 = 2 ^ 1 * r from Nat.mul_comm _ _)
      generalize r * 2 ^ 1 = r2 at *
      by_cases hex : r * r = XN
      · have t5 : (cm == 0) = true := by simpa using hcm.2 hex
        have HK := Lib.hid (HK.out.trans (show pCut (bare ⟨false, 2 ^ 1 * r + (if r * r ≠ XN then 1 else 0), E⟩) b up = pCut (bare ⟨false, r2, E⟩) b up by rw [if_neg (by simpa using hex), ← HR2.out, Nat.add_zero]))
        clear hex hcm
        have e4 := H4.out
        have e5 := H5.out
        have lM : (dig B32 r2).length ≤ 8500 := by omega
        obtain ⟨A_0, A_1, A_2⟩ := A.e3
        go_wp2_with fail
        clear A_0 A_1 A_2
        clear e4 e5
        obtain ⟨r0, hr0⟩ : ∃ r0, bare ⟨false, r2, E⟩ = r0 := ⟨_, rfl⟩
        have HW := fun W h1 h2 => Lib.hid (whole_any p7 _ c7 E (r2) W h1 rfl (ho7).le_cap (by omega) (by omega) h2)
        have hr1 := bare_len B32_two ⟨false, r2, E⟩
        have hr2 := bare_e ⟨false, r2, E⟩ (n := 8500) (by simp only; omega) (lo := -600000) (hi := 400000) (by simp only; omega) (by simp only; omega) (by omega) (by omega)
        rw [hr0] at HW hr1 hr2
        simp only at hr1
        have HKK := Lib.hid (HK.out.trans (congrArg (fun z => pCut z b up) hr0))
        clear hr0 HK
        ((with_reducible refine (HW _ (ho7).rd hT).out.mono ?_))
        rintro e8 w8 ⟨p8, c8, rfl, ho8, hb8⟩
        replace A := A.past hb8
        replace R := R.past hb8
        replace hx := hx.past hb8
        replace hT := hT.past hb8
        have hs8 := hs7.trans (hb8.mono hs7.size)
        have z8 := hb8.size
        go_wp2_with fail
        ((with_reducible refine (cutW_any ⟨r0.neg, p8, c8, r0.m, r0.e⟩ W1.heap.size b up _ ⟨ho8.mono (by omega), by simp only; omega, by simp only; omega, by simp only; omega⟩ (by omega) hT (by omega)).mono ?_))
        rintro e11 w11 ⟨p11, c11, rfl, ho11, hb11⟩
        replace A := A.past hb11
        replace R := R.past hb11
        replace hx := hx.past hb11
        replace hT := hT.past hb11
        have hs11 := hs8.trans (hb11.mono hs8.size)
        have z11 := hb11.size
        generalize hrr : pCut (Rw.v ⟨r0.neg, p8, c8, r0.m, r0.e⟩) b up = rr at *
        have HRR := Lib.hid (HKK.out.trans hrr)
        clear hrr
        obtain ⟨R_0, R_1, R_2⟩ := R.e3
        have R_f0 := R.f 0
        have R_f1 := R.f 1
        have R_f2 := R.f 2
        go_wp2_with fail
        clear R_0 R_1 R_2 R_f0 R_f1 R_f2
        obtain ⟨R_0, R_1, R_2⟩ := R.e3
        refine bodyPost_ret (v := .agg #[.bool rr.neg, .slice p11 (dig B32 rr.m).length c11, .int .i64 rr.e]) (by simp [results, Tryd.results101, go_sem, R_0, R_1, R_2]) rfl ?_
        rw [HRR.out]
        exact givesD_put hs11 (ho11.mono (by omega)) (by omega) (fun h => by have := (ho11.blk_lt h).1; omega)
      · have t5 : (cm == 0) = false := beq_eq_false_iff_ne.2 (fun h => hex (hcm.1 h))
        have HK := Lib.hid (HK.out.trans (show pCut (bare ⟨false, 2 ^ 1 * r + (if r * r ≠ XN then 1 else 0), E⟩) b up = pCut (bare ⟨false, r2 + 1, E⟩) b up by rw [if_pos hex, ← HR2.out]))
        clear hex hcm
        have l1 : (dig B32 1).length ≤ 1 := (dig_len_le B32_two 1 1).2 (by decide)
        have lM : (dig B32 (r2 + 1)).length ≤ 8500 := by have := dig_len_add B32_two r2 1; omega
        go_wp2_with fail
        ((with_reducible refine ((of1_any _)).mono ?_))
        rintro e20 w20 ⟨p20, c20, rfl, ho20, hb20⟩
        replace A := A.past hb20
        replace R := R.past hb20
        replace hx := hx.past hb20
        replace hT := hT.past hb20
        replace ho7 := ho7.past hb20
        have hs20 := hs7.trans (hb20.mono hs7.size)
        have z20 := hb20.size
        go_wp2_with fail
        ((with_reducible refine ((add_any p7 p20 _ _ c7 c20 r2 1 _ ho7.rd ho20.rd rfl rfl (by omega) (by omega))).mono ?_))
        rintro e21 w21 ⟨p21, c21, rfl, ho21, hb21⟩
        replace A := A.past hb21
        replace R := R.past hb21
        replace hx := hx.past hb21
        replace hT := hT.past hb21
        replace ho7 := ho7.past hb21
        replace ho20 := ho20.past hb21
        have hs21 := hs20.trans (hb21.mono hs20.size)
        have z21 := hb21.size
        have e4 := H4.out
        have e5 := H5.out
        obtain ⟨A_0, A_1, A_2⟩ := A.e3
        go_wp2_with fail
        clear A_0 A_1 A_2
        clear e4 e5
        obtain ⟨r0, hr0⟩ : ∃ r0, bare ⟨false, (r2 + 1), E⟩ = r0 := ⟨_, rfl⟩
        have HW := fun W h1 h2 => Lib.hid (whole_any p21 _ c21 E ((r2 + 1)) W h1 rfl (ho21).le_cap (by omega) (by omega) h2)
        have hr1 := bare_len B32_two ⟨false, (r2 + 1), E⟩
        have hr2 := bare_e ⟨false, (r2 + 1), E⟩ (n := 8500) (by simp only; omega) (lo := -600000) (hi := 400000) (by simp only; omega) (by simp only; omega) (by omega) (by omega)
        rw [hr0] at HW hr1 hr2
        simp only at hr1
        have HKK := Lib.hid (HK.out.trans (congrArg (fun z => pCut z b up) hr0))
        clear hr0 HK
        ((with_reducible refine (HW _ (ho21).rd hT).out.mono ?_))
        rintro e8 w8 ⟨p8, c8, rfl, ho8, hb8⟩
        replace A := A.past hb8
        replace R := R.past hb8
        replace hx := hx.past hb8
        replace hT := hT.past hb8
        have hs8 := hs21.trans (hb8.mono hs21.size)
        have z8 := hb8.size
        go_wp2_with fail
        ((with_reducible refine (cutW_any ⟨r0.neg, p8, c8, r0.m, r0.e⟩ W1.heap.size b up _ ⟨ho8.mono (by omega), by simp only; omega, by simp only; omega, by simp only; omega⟩ (by omega) hT (by omega)).mono ?_))
        rintro e11 w11 ⟨p11, c11, rfl, ho11, hb11⟩
        replace A := A.past hb11
        replace R := R.past hb11
        replace hx := hx.past hb11
        replace hT := hT.past hb11
        have hs11 := hs8.trans (hb11.mono hs8.size)
        have z11 := hb11.size
        generalize hrr : pCut (Rw.v ⟨r0.neg, p8, c8, r0.m, r0.e⟩) b up = rr at *
        have HRR := Lib.hid (HKK.out.trans hrr)
        clear hrr
        obtain ⟨R_0, R_1, R_2⟩ := R.e3
        have R_f0 := R.f 0
        have R_f1 := R.f 1
        have R_f2 := R.f 2
        go_wp2_with fail
        clear R_0 R_1 R_2 R_f0 R_f1 R_f2
        obtain ⟨R_0, R_1, R_2⟩ := R.e3
        refine bodyPost_ret (v := .agg #[.bool rr.neg, .slice p11 (dig B32 rr.m).length c11, .int .i64 rr.e]) (by simp [results, Tryd.results101, go_sem, R_0, R_1, R_2]) rfl ?_
        rw [HRR.out]
        exact givesD_put hs11 (ho11.mono (by omega)) (by omega) (fun h => by have := (ho11.blk_lt h).1; omega)
    · rw [if_neg hpar] at hev
      have t2 : ((x.e - (N0 : Int)).tmod 2 != 0) = true := by rw [tmod2, decide_eq_false hpar]; rfl
      have eN1 : (N0 : Int) + 1 = (N : Int) := by omega
      clear hpar hev
      go_enter Tryd.func101, Tryd.ntmps101
      go_upto_region 1 with (fail)
      refine wp_lay2 (fun W1 hb1 hz1 A R => ?_)
      replace hx := hx.past hb1
      replace hT := hT.past hb1
      have hs1 := hb1
      have hRW := R.lt
      have zW := hb1.size
      obtain ⟨A_0, A_1, A_2⟩ := A.e3
      go_wp2_with fail
      clear A_0 A_1 A_2
      ((with_reducible refine ((HS _).out).mono ?_))
      rintro e2 w2 ⟨rfl, hb2⟩
      replace A := A.past hb2
      replace R := R.past hb2
      replace hx := hx.past hb2
      replace hT := hT.past hb2
      have hs2 := hs1.trans (hb2.mono hs1.size)
      have z2 := hb2.size
      obtain ⟨A_0, A_1, A_2⟩ := A.e3
      go_wp2_with fail
      clear A_0 A_1 A_2
      ((with_reducible refine (((HLX _ hx.ow.rd).out)).mono ?_))
      rintro _ _ ⟨rfl, rfl⟩
      obtain ⟨A_0, A_1, A_2⟩ := A.e3
      go_upto_region 6 with (fail)
      clear A_0 A_1 A_2
      obtain ⟨A_0, A_1, A_2⟩ := A.e3
      go_wp2_with fail
      clear A_0 A_1 A_2
      ((with_reducible refine (HSX _ hx.ow.rd).out.mono ?_))
      rintro e3 w3 ⟨p3, c3, rfl, ho3, hb3⟩
      replace A := A.past hb3
      replace R := R.past hb3
      replace hx := hx.past hb3
      replace hT := hT.past hb3
      have hs3 := hs2.trans (hb3.mono hs2.size)
      have z3 := hb3.size
      go_wp2_with fail
      ((with_reducible refine (HRT _ _ _ ho3.rd).out.mono ?_))
      rintro e4 w4 ⟨r, k1, k2, p4, c4, rfl, ho4, hb4⟩
      replace A := A.past hb4
      replace R := R.past hb4
      replace hx := hx.past hb4
      replace hT := hT.past hb4
      replace ho3 := ho3.past hb4
      have hs4 := hs3.trans (hb4.mono hs3.size)
      have z4 := hb4.size
      have hrq := isq_is k1 k2
      rw [hrq] at HK lR
      clear hrq k1 k2
      go_wp2_with fail
      ((with_reducible refine (mul_any p4 p4 _ _ c4 c4 r r _ ho4.rd ho4.rd rfl rfl (by omega)).mono ?_))
      rintro e5 w5 ⟨p5, c5, rfl, ho5, hb5⟩
      replace A := A.past hb5
      replace R := R.past hb5
      replace hx := hx.past hb5
      replace hT := hT.past hb5
      replace ho3 := ho3.past hb5
      replace ho4 := ho4.past hb5
      have hs5 := hs4.trans (hb5.mono hs4.size)
      have z5 := hb5.size
      have lrr : (dig B32 (r * r)).length ≤ 4000 := by have := dig_len_mul B32_two r r; omega
      go_wp2_with fail
      ((with_reducible refine (cmp_any p5 p3 _ _ c5 c3 (r * r) XN _ ho5.rd ho3.rd rfl rfl (by omega) (by omega)).mono ?_))
      rintro e6 w6 ⟨rfl, hb6⟩
      replace A := A.past hb6
      replace R := R.past hb6
      replace hx := hx.past hb6
      replace hT := hT.past hb6
      replace ho4 := ho4.past hb6
      have hs6 := hs5.trans (hb6.mono hs5.size)
      have z6 := hb6.size
      have hcm : cmpN (r * r) XN = 0 ↔ r * r = XN := by unfold cmpN; split <;> (try split) <;> omega
      generalize cmpN (r * r) XN = cm at *
      go_wp2_with fail
      ((with_reducible refine (shl1_any p4 c4 r _ ho4.rd (by omega)).mono ?_))
      rintro e7 w7 ⟨p7, c7, rfl, ho7, hb7⟩
      replace A := A.past hb7
      replace R := R.past hb7
      replace hx := hx.past hb7
      replace hT := hT.past hb7
      have hs7 := hs6.trans (hb7.mono hs6.size)
      have z7 := hb7.size
      have lr2 : (dig B32 (r * 2 ^ 1)).length ≤ 1710 := by have := len_shl r 1; omega
      have HR2 := Lib.hid (show r * 2 ^ 1 = 2 ^ 1 * r from Nat.mul_comm _ _)
      generalize r * 2 ^ 1 = r2 at *
      by_cases hex : r * r = XN
      · have t5 : (cm == 0) = true := by simpa using hcm.2 hex
        have HK := Lib.hid (HK.out.trans (show pCut (bare ⟨false, 2 ^ 1 * r + (if r * r ≠ XN then 1 else 0), E⟩) b up = pCut (bare ⟨false, r2, E⟩) b up by rw [if_neg (by simpa using hex), ← HR2.out, Nat.add_zero]))
        clear hex hcm
        have e4 := H4.out
        have e5 := H5.out
        have lM : (dig B32 r2).length ≤ 8500 := by omega
        obtain ⟨A_0, A_1, A_2⟩ := A.e3
        go_wp2_with fail
        clear A_0 A_1 A_2
        clear e4 e5
        obtain ⟨r0, hr0⟩ : ∃ r0, bare ⟨false, r2, E⟩ = r0 := ⟨_, rfl⟩
        have HW := fun W h1 h2 => Lib.hid (whole_any p7 _ c7 E (r2) W h1 rfl (ho7).le_cap (by omega) (by omega) h2)
        have hr1 := bare_len B32_two ⟨false, r2, E⟩
        have hr2 := bare_e ⟨false, r2, E⟩ (n := 8500) (by simp only; omega) (lo := -600000) (hi := 400000) (by simp only; omega) (by simp only; omega) (by omega) (by omega)
        rw [hr0] at HW hr1 hr2
        simp only at hr1
        have HKK := Lib.hid (HK.out.trans (congrArg (fun z => pCut z b up) hr0))
        clear hr0 HK
        ((with_reducible refine (HW _ (ho7).rd hT).out.mono ?_))
        rintro e8 w8 ⟨p8, c8, rfl, ho8, hb8⟩
        replace A := A.past hb8
        replace R := R.past hb8
        replace hx := hx.past hb8
        replace hT := hT.past hb8
        have hs8 := hs7.trans (hb8.mono hs7.size)
        have z8 := hb8.size
        go_wp2_with fail
        ((with_reducible refine (cutW_any ⟨r0.neg, p8, c8, r0.m, r0.e⟩ W1.heap.size b up _ ⟨ho8.mono (by omega), by simp only; omega, by simp only; omega, by simp only; omega⟩ (by omega) hT (by omega)).mono ?_))
        rintro e11 w11 ⟨p11, c11, rfl, ho11, hb11⟩
        replace A := A.past hb11
        replace R := R.past hb11
        replace hx := hx.past hb11
        replace hT := hT.past hb11
        have hs11 := hs8.trans (hb11.mono hs8.size)
        have z11 := hb11.size
        generalize hrr : pCut (Rw.v ⟨r0.neg, p8, c8, r0.m, r0.e⟩) b up = rr at *
        have HRR := Lib.hid (HKK.out.trans hrr)
        clear hrr
        obtain ⟨R_0, R_1, R_2⟩ := R.e3
        have R_f0 := R.f 0
        have R_f1 := R.f 1
        have R_f2 := R.f 2
        go_wp2_with fail
        clear R_0 R_1 R_2 R_f0 R_f1 R_f2
        obtain ⟨R_0, R_1, R_2⟩ := R.e3
        refine bodyPost_ret (v := .agg #[.bool rr.neg, .slice p11 (dig B32 rr.m).length c11, .int .i64 rr.e]) (by simp [results, Tryd.results101, go_sem, R_0, R_1, R_2]) rfl ?_
        rw [HRR.out]
        exact givesD_put hs11 (ho11.mono (by omega)) (by omega) (fun h => by have := (ho11.blk_lt h).1; omega)
      · have t5 : (cm == 0) = false := beq_eq_false_iff_ne.2 (fun h => hex (hcm.1 h))
        have HK := Lib.hid (HK.out.trans (show pCut (bare ⟨false, 2 ^ 1 * r + (if r * r ≠ XN then 1 else 0), E⟩) b up = pCut (bare ⟨false, r2 + 1, E⟩) b up by rw [if_pos hex, ← HR2.out]))
        clear hex hcm
        have l1 : (dig B32 1).length ≤ 1 := (dig_len_le B32_two 1 1).2 (by decide)
        have lM : (dig B32 (r2 + 1)).length ≤ 8500 := by have := dig_len_add B32_two r2 1; omega
        go_wp2_with fail
        ((with_reducible refine ((of1_any _)).mono ?_))
        rintro e20 w20 ⟨p20, c20, rfl, ho20, hb20⟩
        replace A := A.past hb20
        replace R := R.past hb20
        replace hx := hx.past hb20
        replace hT := hT.past hb20
        replace ho7 := ho7.past hb20
        have hs20 := hs7.trans (hb20.mono hs7.size)
        have z20 := hb20.size
        go_wp2_with fail
        ((with_reducible refine ((add_any p7 p20 _ _ c7 c20 r2 1 _ ho7.rd ho20.rd rfl rfl (by omega) (by omega))).mono ?_))
        rintro e21 w21 ⟨p21, c21, rfl, ho21, hb21⟩
        replace A := A.past hb21
        replace R := R.past hb21
        replace hx := hx.past hb21
        replace hT := hT.past hb21
        replace ho7 := ho7.past hb21
        replace ho20 := ho20.past hb21
        have hs21 := hs20.trans (hb21.mono hs20.size)
        have z21 := hb21.size
        have e4 := H4.out
        have e5 := H5.out
        obtain ⟨A_0, A_1, A_2⟩ := A.e3
        go_wp2_with fail
        clear A_0 A_1 A_2
        clear e4 e5
        obtain ⟨r0, hr0⟩ : ∃ r0, bare ⟨false, (r2 + 1), E⟩ = r0 := ⟨_, rfl⟩
        have HW := fun W h1 h2 => Lib.hid (whole_any p21 _ c21 E ((r2 + 1)) W h1 rfl (ho21).le_cap (by omega) (by omega) h2)
        have hr1 := bare_len B32_two ⟨false, (r2 + 1), E⟩
        have hr2 := bare_e ⟨false, (r2 + 1), E⟩ (n := 8500) (by simp only; omega) (lo := -600000) (hi := 400000) (by simp only; omega) (by simp only; omega) (by omega) (by omega)
        rw [hr0] at HW hr1 hr2
        simp only at hr1
        have HKK := Lib.hid (HK.out.trans (congrArg (fun z => pCut z b up) hr0))
        clear hr0 HK
        ((with_reducible refine (HW _ (ho21).rd hT).out.mono ?_))
        rintro e8 w8 ⟨p8, c8, rfl, ho8, hb8⟩
        replace A := A.past hb8
        replace R := R.past hb8
        replace hx := hx.past hb8
        replace hT := hT.past hb8
        have hs8 := hs21.trans (hb8.mono hs21.size)
        have z8 := hb8.size
        go_wp2_with fail
        ((with_reducible refine (cutW_any ⟨r0.neg, p8, c8, r0.m, r0.e⟩ W1.heap.size b up _ ⟨ho8.mono (by omega), by simp only; omega, by simp only; omega, by simp only; omega⟩ (by omega) hT (by omega)).mono ?_))
        rintro e11 w11 ⟨p11, c11, rfl, ho11, hb11⟩
        replace A := A.past hb11
        replace R := R.past hb11
        replace hx := hx.past hb11
        replace hT := hT.past hb11
        have hs11 := hs8.trans (hb11.mono hs8.size)
        have z11 := hb11.size
        generalize hrr : pCut (Rw.v ⟨r0.neg, p8, c8, r0.m, r0.e⟩) b up = rr at *
        have HRR := Lib.hid (HKK.out.trans hrr)
        clear hrr
        obtain ⟨R_0, R_1, R_2⟩ := R.e3
        have R_f0 := R.f 0
        have R_f1 := R.f 1
        have R_f2 := R.f 2
        go_wp2_with fail
        clear R_0 R_1 R_2 R_f0 R_f1 R_f2
        obtain ⟨R_0, R_1, R_2⟩ := R.e3
        refine bodyPost_ret (v := .agg #[.bool rr.neg, .slice p11 (dig B32 rr.m).length c11, .int .i64 rr.e]) (by simp [results, Tryd.results101, go_sem, R_0, R_1, R_2]) rfl ?_
        rw [HRR.out]
        exact givesD_put hs11 (ho11.mono (by omega)) (by omega) (fun h => by have := (ho11.blk_lt h).1; omega)

end Go.Proofs.YtkooikgplpamlaaDoor

namespace Go.Proofs.YtkooikgplpamlaaDoor
open Go.RowKit Go.Slip

theorem wp_layT2 {P : Program} {c : Code} {Q : Exit → Act → World → Prop} {a : Act} {w : World} {v1 v2 : Array Value} {t1 t2 : TypeId} (h : ∀ W, Below w.heap.size w W → w.heap.size + 1 < W.heap.size → Bx W w.heap.size v1 → Bx W (w.heap.size + 1) v2 → Tb W (w.heap.size + 1) t2 → c.wp P Q a W) :
    c.wp P Q a ((w.alloc (.cells v1 t1)).alloc (.cells v2 t2)) := by
  obtain ⟨W, rfl, k1, k2, k3, k4⟩ := lay2 w v1 t1 v2 t2
  refine h _ k1 k2 k3 k4 ?_
  have h1 := tb_new (w.alloc (.cells v1 t1)) v2 t2
  rw [show (w.alloc (.cells v1 t1)).heap.size = w.heap.size + 1 by simp] at h1
  exact h1

set_option maxHeartbeats 8000000 in
set_option maxRecDepth 100000 in
theorem rootB_any (al ah : Rw) (b base : Nat) (w : World) (h1 : InW w base al) (h2 : InW w base ah) (s1 : Sm al) (s2 : Sm ah) (hb : b ≤ 5000) (hT : TabW w) (hbase : base ≤ w.heap.size) :
    Calls Tryd.prog 76 #[.agg #[.bool al.g, .slice al.p (dig B32 al.m).length al.c, .int .i64 al.e, .bool ah.g, .slice ah.p (dig B32 ah.m).length ah.c, .int .i64 ah.e], .int .i64 b] w (GivesB w base (pRoot al.v b false) (pRoot ah.v b true)) := by
  have HL := fun W k1 k2 k3 => Lib.hid (rootD_any al b base false W k1 s1 hb k2 k3)
  have HH := fun W k1 k2 k3 => Lib.hid (rootD_any ah b base true W k1 s2 hb k2 k3)
  generalize pRoot al.v b false = rl at *
  generalize pRoot ah.v b true = rh at *
  go_enter Tryd.func76, Tryd.ntmps76
  go_upto_region 1 with (fail)
  refine wp_layT2 (fun W1 hs1 hz1 A R RT => ?_)
  replace h1 := h1.past hs1
  replace h2 := h2.past hs1
  replace hT := hT.past hs1
  have hz0 := hs1.size
  have hAl := A.lt
  obtain ⟨V0, hV0⟩ : ∃ V0, V0 = (W1).drew := ⟨_, rfl⟩
  have hbV0 : Below (W1).heap.size (W1) V0 := by rw [hV0]; exact (Below.refl _ _).drew
  have hzV0 := hbV0.size
  refine wp_region_held_drew (S := fun w' => w'.cell? ⟨w.heap.size, 0, none⟩ = some (.bool al.g) ∧ w'.cell? ⟨w.heap.size, 1, none⟩ = some (.slice al.p (dig B32 al.m).length al.c) ∧ w'.cell? ⟨w.heap.size, 2, none⟩ = some (.int .i64 al.e) ∧ w'.cell? ⟨w.heap.size, 3, none⟩ = some (.bool ah.g) ∧ w'.cell? ⟨w.heap.size, 4, none⟩ = some (.slice ah.p (dig B32 ah.m).length ah.c) ∧ w'.cell? ⟨w.heap.size, 5, none⟩ = some (.int .i64 ah.e)) (by kernel_rfl) (by rw [← hV0]; exact (A.past (hbV0)).e6) (fun hHeld => ?_)
  clear hHeld
  rw [← hV0]
  clear hV0
  refine wpAnyH_take (i := 0) (v := .pointer (some ⟨w.heap.size, 0, none⟩)) rfl (by kernel_rfl) (by kernel_rfl) (by kernel_rfl) (fun _ _ _ h => h) (.inl ⟨by rfl, fun w' hSw => ?_⟩) (A.past (hbV0)).e6 ?_
  · (try dsimp only at hSw)
    first | (go_simp; done) | (go_simp; with_reducible rfl)
  try simp only [List.getElem_toArray, List.getElem_cons_zero, Act.put, List.setIfInBounds_toArray, List.set_cons_zero, List.set_cons_succ]
  refine wpAnyH_take (i := 1) (v := .agg #[.bool al.g, .slice al.p (dig B32 al.m).length al.c, .int .i64 al.e]) rfl (by kernel_rfl) (by kernel_rfl) (by kernel_rfl) (fun _ _ _ h => h) (.inl ⟨by rfl, fun w' hSw => ?_⟩) (A.past (hbV0)).e6 ?_
  · (try dsimp only at hSw)
    first | (go_simp; done) | (go_simp; with_reducible rfl)
  try simp only [List.getElem_toArray, List.getElem_cons_succ, List.getElem_cons_zero, Act.put, List.setIfInBounds_toArray, List.set_cons_zero, List.set_cons_succ]
  refine wpAnyH_take (i := 2) (v := .int .i64 b) rfl (by kernel_rfl) (by kernel_rfl) (by kernel_rfl) (fun _ _ _ h => h) (.inl ⟨by rfl, fun w' hSw => ?_⟩) (A.past (hbV0)).e6 ?_
  · (try dsimp only at hSw)
    first | (go_simp; done) | (go_simp; with_reducible rfl)
  try simp only [List.getElem_toArray, List.getElem_cons_succ, List.getElem_cons_zero, Act.put, List.setIfInBounds_toArray, List.set_cons_zero, List.set_cons_succ]
  refine wpAnyH_take (i := 4) (v := .pointer (some ⟨w.heap.size, 3, none⟩)) rfl (by kernel_rfl) (by kernel_rfl) (by kernel_rfl) (fun _ _ _ h => h) (.inl ⟨by rfl, fun w' hSw => ?_⟩) (A.past (hbV0)).e6 ?_
  · (try dsimp only at hSw)
    first | (go_simp; done) | (go_simp; with_reducible rfl)
  try simp only [List.getElem_toArray, List.getElem_cons_succ, List.getElem_cons_zero, Act.put, List.setIfInBounds_toArray, List.set_cons_zero, List.set_cons_succ]
  refine wpAnyH_take (i := 5) (v := .agg #[.bool ah.g, .slice ah.p (dig B32 ah.m).length ah.c, .int .i64 ah.e]) rfl (by kernel_rfl) (by kernel_rfl) (by kernel_rfl) (fun _ _ _ h => h) (.inl ⟨by rfl, fun w' hSw => ?_⟩) (A.past (hbV0)).e6 ?_
  · (try dsimp only at hSw)
    first | (go_simp; done) | (go_simp; with_reducible rfl)
  try simp only [List.getElem_toArray, List.getElem_cons_succ, List.getElem_cons_zero, Act.put, List.setIfInBounds_toArray, List.set_cons_zero, List.set_cons_succ]
  refine wpAnyH_take (i := 6) (v := .int .i64 b) rfl (by kernel_rfl) (by kernel_rfl) (by kernel_rfl) (fun _ _ _ h => h) (.inl ⟨by rfl, fun w' hSw => ?_⟩) (A.past (hbV0)).e6 ?_
  · (try dsimp only at hSw)
    first | (go_simp; done) | (go_simp; with_reducible rfl)
  try simp only [List.getElem_toArray, List.getElem_cons_succ, List.getElem_cons_zero, Act.put, List.setIfInBounds_toArray, List.set_cons_zero, List.set_cons_succ]
  refine wpAnyH_ready (rs := [3]) (by kernel_rfl) (by simp) ?_
  refine AllReadyH.cons rfl (fun K hK => ?_) AllReadyH.nil
  go_simp
  go_at_call 101; ((with_reducible refine ((HL _ (h1.past (hbV0)) (hT.past (hbV0)) (by omega)).out).mono ?_)); rintro exV1 V1 ⟨p, c, rfl, ho, hbV1⟩
  have hzV1 := hbV1.size
  refine hK.out _ _ (A.past (below_thru (hbV0) hbV1)).e6 (fun _ => ?_)
  clear hK K
  try simp only [List.getElem_toArray, List.getElem_cons_succ, List.getElem_cons_zero, Act.put, List.setIfInBounds_toArray, List.set_cons_zero, List.set_cons_succ]
  refine wpAnyH_ready (rs := [7]) (by kernel_rfl) (by simp) ?_
  refine AllReadyH.cons rfl (fun K hK => ?_) AllReadyH.nil
  go_simp
  go_at_call 101; ((with_reducible refine ((HH _ (h2.past (below_thru (hbV0) hbV1)) (hT.past (below_thru (hbV0) hbV1)) (by omega)).out).mono ?_)); rintro exV2 V2 ⟨q, d, rfl, hq, hbV2⟩
  have hzV2 := hbV2.size
  refine hK.out _ _ (A.past (below_thru (below_thru (hbV0) hbV1) hbV2)).e6 (fun _ => ?_)
  clear hK K
  try simp only [List.getElem_toArray, List.getElem_cons_succ, List.getElem_cons_zero, Act.put, List.setIfInBounds_toArray, List.set_cons_zero, List.set_cons_succ]
  refine wpAnyH_take (i := 8) (v := .agg #[.bool rl.neg, .slice p (dig B32 rl.m).length c, .int .i64 rl.e, .bool rh.neg, .slice q (dig B32 rh.m).length d, .int .i64 rh.e]) rfl (by kernel_rfl) (by kernel_rfl) (by kernel_rfl) (fun _ _ _ h => h) (.inl ⟨by rfl, fun w' hSw => ?_⟩) (A.past (below_thru (below_thru (hbV0) hbV1) hbV2)).e6 ?_
  · (try dsimp only at hSw)
    first | (go_simp; done) | (go_simp; with_reducible rfl)
  try simp only [List.getElem_toArray, List.getElem_cons_succ, List.getElem_cons_zero, Act.put, List.setIfInBounds_toArray, List.set_cons_zero, List.set_cons_succ]
  refine wpAnyH_ready (rs := [9]) (by kernel_rfl) (by simp) ?_
  refine AllReadyH.cons rfl (fun K hK => ?_) AllReadyH.nil
  replace R := (R.past (below_thru (below_thru (hbV0) hbV1) hbV2))
  obtain ⟨R_0, R_1, R_2, R_3, R_4, R_5⟩ := R.e6
  have R_f0 := R.f 0
  have R_f1 := R.f 1
  have R_f2 := R.f 2
  have R_f3 := R.f 3
  have R_f4 := R.f 4
  have R_f5 := R.f 5
  go_simp
  clear R_0 R_1 R_2 R_3 R_4 R_5 R_f0 R_f1 R_f2 R_f3 R_f4 R_f5
  refine hK.out _ _ ((A.past (below_thru (below_thru (hbV0) hbV1) hbV2)).only (only6 _ _ _ _ _ _ _ _) (by omega)).e6 (fun _ => ?_)
  refine anyH_put6 R (fun V3 hOV3 R => ?_)
  have hzV3 := Nat.le_of_eq hOV3.size
  have hyV3 := Nat.le_of_eq hOV3.size.symm
  clear hK K
  try simp only [List.getElem_toArray, List.getElem_cons_succ, List.getElem_cons_zero, Act.put, List.setIfInBounds_toArray, List.set_cons_zero, List.set_cons_succ]
  refine wpAnyH_done (by kernel_rfl) ?_ _
  replace ho := ((ho.past (hbV2)).only hOV3 ((ho.past (hbV2)).ne_tb (RT.past (below_thru (below_thru (hbV0) hbV1) hbV2)) (by decide)))
  replace hq := (hq.only hOV3 (hq.ne_tb (RT.past (below_thru (below_thru (hbV0) hbV1) hbV2)) (by decide)))
  replace hs1 := ((below_thru (below_thru (below_thru hs1 hbV0) hbV1) hbV2).trans (hOV3.below (by omega)))
  clear A RT h1 h2 hT
  obtain ⟨R_0, R_1, R_2, R_3, R_4, R_5⟩ := R.e6
  go_wp2_with fail
  refine bodyPost_ret (v := .agg #[.bool rl.neg, .slice p (dig B32 rl.m).length c, .int .i64 rl.e, .bool rh.neg, .slice q (dig B32 rh.m).length d, .int .i64 rh.e]) (by simp [results, Tryd.results76, go_sem, R_0, R_1, R_2, R_3, R_4, R_5]) rfl ?_
  exact ⟨p, c, q, d, rfl, ho, hq, hs1⟩

/-- What is wrong with a root's ends, ahead of their being told. -/
def sqC (n : Int) (a b : Din) : Int := if errC n [(a, b)] = 0 then (if dSign (dyV a) < 0 then 5 else 0) else errC n [(a, b)]
def sqE (n : Int) (a b : Din) : Int := if sqC n a b = 0 then errB (pRoot (dyV a) n.toNat false) (pRoot (dyV b) n.toNat true) else sqC n a b
def sqL (n : Int) (a b : Din) : Dv := if sqC n a b = 0 then doneL (pRoot (dyV a) n.toNat false) (pRoot (dyV b) n.toNat true) else zeroD
def sqH (n : Int) (a b : Din) : Dv := if sqC n a b = 0 then doneH (pRoot (dyV a) n.toNat false) (pRoot (dyV b) n.toNat true) else zeroD

theorem errC_ok1 {n : Int} {a b : Din} (h : errC n [(a, b)] = 0) : errBall a b = 0 ∧ 1 ≤ n ∧ n ≤ 4096 := by
  unfold errC at h
  simp only [firstErrB] at h
  by_cases h1 : errBall a b = 0
  · simp only [h1, if_true] at h
    refine ⟨h1, ?_⟩
    split at h <;> omega
  · simp [h1] at h

theorem errC_same (n : Int) (a b : Din) : errC n [(a, b), (a, b)] = errC n [(a, b)] := by
  unfold errC
  rw [firstErrB_two]
  simp only [firstErrB]
  by_cases h1 : errBall a b = 0 <;> simp [h1]



set_option maxHeartbeats 8000000 in
set_option maxRecDepth 100000 in
theorem bSqrt_any (a b : Din) (n : Int) (w : World) (ha : InD w a) (hb : InD w b) (hT : TabW w) :
    Calls Tryd.prog 35 #[.agg #[.bool a.g, .slice a.p a.xs.length a.c, .int .i64 a.e, .bool b.g, .slice b.p b.xs.length b.c, .int .i64 b.e], .int .i64 n] w (GivesBE w w.heap.size (sqL n a b) (sqH n a b) (sqE n a b)) := by
  have rf0 := run_fieldB0
  have HC := Lib.hid (show sqC n a b = if errC n [(a, b)] = 0 then (if dSign (dyV a) < 0 then 5 else 0) else errC n [(a, b)] from rfl)
  have HE := Lib.hid (show sqE n a b = if sqC n a b = 0 then errB (pRoot (dyV a) n.toNat false) (pRoot (dyV b) n.toNat true) else sqC n a b from rfl)
  have HL := Lib.hid (show sqL n a b = if sqC n a b = 0 then doneL (pRoot (dyV a) n.toNat false) (pRoot (dyV b) n.toNat true) else zeroD from rfl)
  have HH := Lib.hid (show sqH n a b = if sqC n a b = 0 then doneH (pRoot (dyV a) n.toNat false) (pRoot (dyV b) n.toNat true) else zeroD from rfl)
  by_cases h0 : errC n [(a, b)] = 0
  · obtain ⟨k1, k3, k4⟩ := errC_ok1 h0
    obtain ⟨q1, q2, -⟩ := errBall_ok k1
    obtain ⟨ec, hec⟩ : ∃ ec, errC n [(a, b)] = ec := ⟨_, rfl⟩
    have HER := Lib.hid hec
    have t0 : (ec != 0) = false := by rw [← hec, h0]; rfl
    rw [if_pos h0] at HC
    have HOA := fun W k1 k2 k3 => Lib.hid (ballOf_any a b W k1 k2 q1 q2 k3)
    have sa := dyV_smD ha q1
    have sb := dyV_smD hb q2
    have Fa := dyV_fit ha q1
    have Fb := dyV_fit hb q2
    have Ba := dyV_bare a
    have Bb := dyV_bare b
    clear h0 hec k1 q1 q2
    generalize dyV a = va at *
    generalize dyV b = vb at *
    have HS1 := fun W p c => Lib.hid (show Calls Tryd.prog 54 #[.agg #[.bool va.neg, .slice p (dig B32 va.m).length c, .int .i64 va.e]] W fun en w' => en = .returned (.int .i64 (dSign va)) ∧ Below W.heap.size W w' from signW_any ⟨va.neg, p, c, va.m, va.e⟩ W)
    by_cases g : dSign va < 0
    · have t1 : decide (dSign va < 0) = true := decide_eq_true g
      rw [if_pos g] at HC
      rw [HC.out, if_neg (by omega)] at HE HL HH
      generalize dSign va = S1 at *
      go_enter Tryd.func35, Tryd.ntmps35
      go_upto_region 1 with (fail)
      refine wp_layT2 (fun W1 hs1 hz1 A R RT => ?_)
      replace ha := ha.past hs1
      replace hb := hb.past hs1
      replace hT := hT.past hs1
      obtain ⟨A_0, A_1, A_2, A_3, A_4, A_5⟩ := A.e6
      go_wp2_with fail
      clear A_0 A_1 A_2 A_3 A_4 A_5
      ((with_reducible refine (bcheck1_new n a b _ _ rfl ha hb hT).mono ?_))
      rw [HER.out]
      rintro e2 w2 ⟨rfl, hb2⟩
      replace hb2 : Below W1.heap.size W1 w2 := (below_lay1 W1 _).trans (hb2.mono (by omega))
      replace A := A.past hb2
      replace R := R.past hb2
      replace ha := ha.past hb2
      replace hb := hb.past hb2
      replace hT := hT.past hb2
      replace RT := RT.past hb2
      have hs2 := hs1.trans (hb2.mono hs1.size)
      obtain ⟨A_0, A_1, A_2, A_3, A_4, A_5⟩ := A.e6
      go_wp2_with fail
      clear A_0 A_1 A_2 A_3 A_4 A_5
      ((with_reducible refine ((HOA _ ha hb hT).out).mono ?_))
      rintro e3 w3 ⟨p3, c3, q3, d3, rfl, ho3, hq3, hb3⟩
      replace A := A.past hb3
      replace R := R.past hb3
      replace ha := ha.past hb3
      replace hb := hb.past hb3
      replace hT := hT.past hb3
      replace RT := RT.past hb3
      have hs3 := hs2.trans (hb3.mono hs2.size)
      go_wp2_with fail
      ((with_reducible refine ((HS1 _ p3 c3).out).mono ?_))
      rintro e4 w4 ⟨rfl, hb4⟩
      replace A := A.past hb4
      replace R := R.past hb4
      replace ha := ha.past hb4
      replace hb := hb.past hb4
      replace hT := hT.past hb4
      replace RT := RT.past hb4
      have hs4 := hs3.trans (hb4.mono hs3.size)
      obtain ⟨R_0, R_1, R_2, R_3, R_4, R_5⟩ := (R).e6
      have R_f0 := (R).f 0
      have R_f1 := (R).f 1
      have R_f2 := (R).f 2
      have R_f3 := (R).f 3
      have R_f4 := (R).f 4
      have R_f5 := (R).f 5
      go_wp2_with fail
      refine bodyPost_ret (v := .tuple #[.agg #[.bool false, .slice none 0 0, .int .i64 0, .bool false, .slice none 0 0, .int .i64 0], .int .i64 5]) (by simp [results, Tryd.results35, go_sem, R_0, R_1, R_2, R_3, R_4, R_5]) rfl ?_
      rw [HE.out, HL.out, HH.out]
      exact givesBE_zero hs4 (by omega)
    · have t1 : decide (dSign va < 0) = false := decide_eq_false g
      rw [if_neg g] at HC
      rw [HC.out, if_pos rfl] at HE HL HH
      have f1 := pRoot_len n.toNat false Ba (by omega) sa.len sa.lo sa.hi
      have f2 := pRoot_len n.toNat true Bb (by omega) sb.len sb.lo sb.hi
      have HRT := fun W p c q d base i1 i2 iT ib => Lib.hid (show Calls Tryd.prog 76 #[.agg #[.bool va.neg, .slice p (dig B32 va.m).length c, .int .i64 va.e, .bool vb.neg, .slice q (dig B32 vb.m).length d, .int .i64 vb.e], .int .i64 n] W (GivesB W base (pRoot va n.toNat false) (pRoot vb n.toNat true)) by
        have h := rootB_any ⟨va.neg, p, c, va.m, va.e⟩ ⟨vb.neg, q, d, vb.m, vb.e⟩ n.toNat base W (inW_of i1 Fa) (inW_of i2 Fb) ⟨sa.len, sa.lo, sa.hi⟩ ⟨sb.len, sb.lo, sb.hi⟩ (by omega) iT ib
        rw [show ((n.toNat : Nat) : Int) = n by omega] at h
        exact h)
      generalize dSign va = S1 at *
      generalize pRoot va n.toNat false = rl at *
      generalize pRoot vb n.toNat true = rh at *
      go_enter Tryd.func35, Tryd.ntmps35
      go_upto_region 1 with (fail)
      refine wp_layT2 (fun W1 hs1 hz1 A R RT => ?_)
      replace ha := ha.past hs1
      replace hb := hb.past hs1
      replace hT := hT.past hs1
      obtain ⟨A_0, A_1, A_2, A_3, A_4, A_5⟩ := A.e6
      go_wp2_with fail
      clear A_0 A_1 A_2 A_3 A_4 A_5
      ((with_reducible refine (bcheck1_new n a b _ _ rfl ha hb hT).mono ?_))
      rw [HER.out]
      rintro e2 w2 ⟨rfl, hb2⟩
      replace hb2 : Below W1.heap.size W1 w2 := (below_lay1 W1 _).trans (hb2.mono (by omega))
      replace A := A.past hb2
      replace R := R.past hb2
      replace ha := ha.past hb2
      replace hb := hb.past hb2
      replace hT := hT.past hb2
      replace RT := RT.past hb2
      have hs2 := hs1.trans (hb2.mono hs1.size)
      obtain ⟨A_0, A_1, A_2, A_3, A_4, A_5⟩ := A.e6
      go_wp2_with fail
      clear A_0 A_1 A_2 A_3 A_4 A_5
      ((with_reducible refine ((HOA _ ha hb hT).out).mono ?_))
      rintro e3 w3 ⟨p3, c3, q3, d3, rfl, ho3, hq3, hb3⟩
      replace A := A.past hb3
      replace R := R.past hb3
      replace ha := ha.past hb3
      replace hb := hb.past hb3
      replace hT := hT.past hb3
      replace RT := RT.past hb3
      have hs3 := hs2.trans (hb3.mono hs2.size)
      go_wp2_with fail
      ((with_reducible refine ((HS1 _ p3 c3).out).mono ?_))
      rintro e4 w4 ⟨rfl, hb4⟩
      replace A := A.past hb4
      replace R := R.past hb4
      replace ha := ha.past hb4
      replace hb := hb.past hb4
      replace hT := hT.past hb4
      replace RT := RT.past hb4
      have hs4 := hs3.trans (hb4.mono hs3.size)
      have z1 := hs1.size
      have z2 := hb2.size
      have z3 := hb3.size
      have z4 := hb4.size
      obtain ⟨A_0, A_1, A_2, A_3, A_4, A_5⟩ := A.e6
      go_wp2_with fail
      clear A_0 A_1 A_2 A_3 A_4 A_5
      ((with_reducible refine ((HOA _ ha hb hT).out).mono ?_))
      rintro e5 w5 ⟨p5, c5, q5, d5, rfl, ho5, hq5, hb5⟩
      replace A := A.past hb5
      replace R := R.past hb5
      replace ha := ha.past hb5
      replace hb := hb.past hb5
      replace hT := hT.past hb5
      replace RT := RT.past hb5
      have hs5 := hs4.trans (hb5.mono hs4.size)
      go_wp2_with fail
      ((with_reducible refine (HRT _ p5 c5 q5 d5 w4.heap.size ho5 hq5 hT hb5.size).out.mono ?_))
      rintro e6 w6 ⟨p6, c6, q6, d6, rfl, ho6, hq6, hb6⟩
      replace A := A.past hb6
      replace R := R.past hb6
      replace ha := ha.past hb6
      replace hb := hb.past hb6
      replace hT := hT.past hb6
      replace RT := RT.past hb6
      have hs6 := hs5.trans (hb6.mono hs5.size)
      go_wp2_with fail
      ((with_reducible refine (rawDoneD_any rl rh p6 q6 c6 d6 _ _ ho6 hq6 f1 f2).mono ?_))
      rintro e7 w7 ⟨p7, c7, q7, d7, rfl, ho7, hq7, hb7⟩
      replace A := A.past hb7
      replace R := R.past hb7
      replace ha := ha.past hb7
      replace hb := hb.past hb7
      replace hT := hT.past hb7
      replace RT := RT.past hb7
      have hs7 := hs6.trans (hb7.mono hs6.size)
      obtain ⟨R_0, R_1, R_2, R_3, R_4, R_5⟩ := R.e6
      have R_f0 := R.f 0
      have R_f1 := R.f 1
      have R_f2 := R.f 2
      have R_f3 := R.f 3
      have R_f4 := R.f 4
      have R_f5 := R.f 5
      go_wp2_with fail
      clear R_0 R_1 R_2 R_3 R_4 R_5 R_f0 R_f1 R_f2 R_f3 R_f4 R_f5
      obtain ⟨R_0, R_1, R_2, R_3, R_4, R_5⟩ := R.e6
      refine bodyPost_ret (v := .tuple #[.agg #[.bool (doneL rl rh).neg, .slice p7 (dig B32 (doneL rl rh).m).length c7, .int .i64 (doneL rl rh).e, .bool (doneH rl rh).neg, .slice q7 (dig B32 (doneH rl rh).m).length d7, .int .i64 (doneH rl rh).e], .int .i64 (errB rl rh)]) (by simp [results, Tryd.results35, go_sem, R_0, R_1, R_2, R_3, R_4, R_5]) rfl ?_
      rw [HE.out, HL.out, HH.out]
      exact givesBE_put hs7 (ho7.mono (by omega)) (hq7.mono (by omega)) (by omega) RT
  · obtain ⟨ec, hec⟩ : ∃ ec, errC n [(a, b)] = ec := ⟨_, rfl⟩
    rw [hec] at h0 HC
    have HER := Lib.hid hec
    have t0 : (ec != 0) = true := by rw [bne, beq_eq_false_iff_ne.2 h0]; rfl
    rw [if_neg h0] at HC
    rw [HC.out, if_neg h0] at HE HL HH
    clear h0 HC hec
    go_enter Tryd.func35, Tryd.ntmps35
    go_upto_region 1 with (fail)
    refine wp_layT2 (fun W1 hs1 hz1 A R RT => ?_)
    replace ha := ha.past hs1
    replace hb := hb.past hs1
    replace hT := hT.past hs1
    obtain ⟨A_0, A_1, A_2, A_3, A_4, A_5⟩ := A.e6
    go_wp2_with fail
    clear A_0 A_1 A_2 A_3 A_4 A_5
    ((with_reducible refine (bcheck1_new n a b _ _ rfl ha hb hT).mono ?_))
    rw [HER.out]
    rintro e2 w2 ⟨rfl, hb2⟩
    replace hb2 : Below W1.heap.size W1 w2 := (below_lay1 W1 _).trans (hb2.mono (by omega))
    replace A := A.past hb2
    replace R := R.past hb2
    replace ha := ha.past hb2
    replace hb := hb.past hb2
    replace hT := hT.past hb2
    replace RT := RT.past hb2
    have hs2 := hs1.trans (hb2.mono hs1.size)
    obtain ⟨R_0, R_1, R_2, R_3, R_4, R_5⟩ := (R).e6
    have R_f0 := (R).f 0
    have R_f1 := (R).f 1
    have R_f2 := (R).f 2
    have R_f3 := (R).f 3
    have R_f4 := (R).f 4
    have R_f5 := (R).f 5
    go_wp2_with fail
    refine bodyPost_ret (v := .tuple #[.agg #[.bool false, .slice none 0 0, .int .i64 0, .bool false, .slice none 0 0, .int .i64 0], .int .i64 ec]) (by simp [results, Tryd.results35, go_sem, R_0, R_1, R_2, R_3, R_4, R_5]) rfl ?_
    rw [HE.out, HL.out, HH.out]
    exact givesBE_zero hs2 (by omega)

end Go.Proofs.YtkooikgplpamlaaDoor
