/- The law BallHas: its walk. -/
import Derived.Test.YtkooikgplpamlaaDoorZLawB1
import Derived.Test.YtkooikgplpamlaaDoorZL
import Derived.Test.YtkooikgplpamlaaDoorZK
namespace Go.Proofs.YtkooikgplpamlaaDoor
open Go.RowKit Go.Slip



set_option maxHeartbeats 8000000 in
set_option maxRecDepth 100000 in
theorem lawBHas_row (a b x : Din) (w : World) (ha : InD w a) (hb : InD w b) (hx : InD w x) (hT : TabW w) :
    Calls Tryd.prog 6 #[.agg #[.bool a.g, .slice a.p a.xs.length a.c, .int .i64 a.e, .bool b.g, .slice b.p b.xs.length b.c, .int .i64 b.e], .agg #[.bool x.g, .slice x.p x.xs.length x.c, .int .i64 x.e]] w fun e w' => e = .returned (.bool true) ∧ Below w.heap.size w w' := by
  have HP := fun W k1 k2 k3 k4 => Lib.hid (ballHas_any a b x W k1 k2 k3 k4)
  have HC := fun W k1 k2 => Lib.hid (refCheckBall_any a b W k1 k2)
  have HX := fun W k1 => Lib.hid (refCheckDyad_any x W k1 hx.len)
  have HE := Lib.hid (show errHas a b x = if errBall a b = 0 then errDy x else errBall a b from rfl)
  have HV := Lib.hid (show hasV a b x = if errHas a b x = 0 then hasD (dyV a) (dyV b) (dyV x) else false from rfl)
  by_cases h0 : errBall a b = 0
  · obtain ⟨q1, q2, -⟩ := errBall_ok h0
    have HEP := Lib.hid (HE.out.trans (if_pos h0))
    clear HE
    have t1 : (errBall a b == 0) = true := by simpa using h0
    by_cases h1 : errDy x = 0
    · have t2 : (errDy x == 0) = true := by simpa using h1
      have t3 : (errDy x == errDy x) = true := by simp
      have HV := Lib.hid (HV.out.trans (if_pos (HEP.out.trans h1)))
      have HV := Lib.hid (show hasV a b x = (decide (rCmp (dyV a) (dyV x) ≤ 0) && decide (rCmp (dyV x) (dyV b) ≤ 0)) by rw [HV.out]; unfold hasD; rw [rCmp_eq (dyV_bare _) (dyV_bare _), rCmp_eq (dyV_bare _) (dyV_bare _)])
      have HOA := fun W k1 k2 => Lib.hid (refOfBall_any a b W k1 k2 q1 q2)
      have HOX := fun W k1 => Lib.hid (ofDyadF_any x W k1 h1)
      clear h0 h1 q1 q2
      rw [HEP.out] at HP
      generalize dyV a = va at *
      generalize dyV b = vb at *
      generalize dyV x = vx at *
      generalize hasV a b x = hv at *
      generalize errBall a b = eb at *
      generalize errDy x = ex at *
      have tv : (hv == hv) = true := by simp
      go_enter Tryd.func6, Tryd.ntmps6
      go_upto_region 1 with (fail)
      refine wp_lay2 (fun W1 hb1 hz1 A X0 => ?_)
      replace ha := ha.past hb1
      replace hb := hb.past hb1
      replace hx := hx.past hb1
      replace hT := hT.past hb1
      have hs1 := hb1
      obtain ⟨A_0, A_1, A_2, A_3, A_4, A_5⟩ := A.e6
      obtain ⟨X0_0, X0_1, X0_2⟩ := X0.e3
      go_wp2_with fail
      clear A_0 A_1 A_2 A_3 A_4 A_5 X0_0 X0_1 X0_2
      ((with_reducible refine ((HP _ ha hb hx hT).out).mono ?_))
      rintro e2 w2 ⟨rfl, hb2⟩
      replace A := A.past hb2
      replace X0 := X0.past hb2
      replace ha := ha.past hb2
      replace hb := hb.past hb2
      replace hx := hx.past hb2
      replace hT := hT.past hb2
      have hs2 := hs1.trans (hb2.mono hs1.size)
      obtain ⟨A_0, A_1, A_2, A_3, A_4, A_5⟩ := A.e6
      go_wp2_with fail
      clear A_0 A_1 A_2 A_3 A_4 A_5
      ((with_reducible refine ((HC _ ha hb).out).mono ?_))
      rintro e3 w3 ⟨rfl, hb3⟩
      replace A := A.past hb3
      replace X0 := X0.past hb3
      replace ha := ha.past hb3
      replace hb := hb.past hb3
      replace hx := hx.past hb3
      replace hT := hT.past hb3
      have hs3 := hs2.trans (hb3.mono hs2.size)
      obtain ⟨X0_0, X0_1, X0_2⟩ := X0.e3
      go_wp2_with fail
      clear X0_0 X0_1 X0_2
      ((with_reducible refine ((HX _ hx.rd).out).mono ?_))
      rintro e4 w4 ⟨rfl, hb4⟩
      replace A := A.past hb4
      replace X0 := X0.past hb4
      replace ha := ha.past hb4
      replace hb := hb.past hb4
      replace hx := hx.past hb4
      replace hT := hT.past hb4
      have hs4 := hs3.trans (hb4.mono hs3.size)
      go_upto_region 7 with (fail)
      have hz1' := hs1.size
      go_cut [9, 10] (fun s9 s10 wx => ∃ (kb kp : Nat) (xl xh xp : Rw), s9 = .pointer (some ⟨kb, 0, none⟩) ∧ s10 = .pointer (some ⟨kp, 0, none⟩) ∧ xl.v = va ∧ xh.v = vb ∧ xp.v = vx ∧ Bx wx kb #[.bool xl.g, .slice xl.p (dig B16 xl.m).length xl.c, .int .i64 xl.e, .bool xh.g, .slice xh.p (dig B16 xh.m).length xh.c, .int .i64 xh.e] ∧ Bx wx kp #[.bool xp.g, .slice xp.p (dig B16 xp.m).length xp.c, .int .i64 xp.e] ∧
        InF wx w4.heap.size xl ∧ InF wx w4.heap.size xh ∧ InF wx w4.heap.size xp ∧ Below w4.heap.size w4 wx)
      case first =>
        have hWl := X0.lt
        obtain ⟨V0, hV0⟩ : ∃ V0, V0 = (w4).drew := ⟨_, rfl⟩
        have hbV0 : Below (w4).heap.size (w4) V0 := by rw [hV0]; exact (Below.refl _ _).drew
        have hzV0 := hbV0.size
        refine wp_region_held_drew (S := fun w' => (w'.cell? ⟨w.heap.size, 0, none⟩ = some (.bool a.g) ∧ w'.cell? ⟨w.heap.size, 1, none⟩ = some (.slice a.p a.xs.length a.c) ∧ w'.cell? ⟨w.heap.size, 2, none⟩ = some (.int .i64 a.e) ∧ w'.cell? ⟨w.heap.size, 3, none⟩ = some (.bool b.g) ∧ w'.cell? ⟨w.heap.size, 4, none⟩ = some (.slice b.p b.xs.length b.c) ∧ w'.cell? ⟨w.heap.size, 5, none⟩ = some (.int .i64 b.e)) ∧ (w'.cell? ⟨w.heap.size + 1, 0, none⟩ = some (.bool x.g) ∧ w'.cell? ⟨w.heap.size + 1, 1, none⟩ = some (.slice x.p x.xs.length x.c) ∧ w'.cell? ⟨w.heap.size + 1, 2, none⟩ = some (.int .i64 x.e))) (by kernel_rfl) (by rw [← hV0]; exact ⟨(A.past (hbV0)).e6, (X0.past (hbV0)).e3⟩) (fun hHeld => ?_)
        clear hHeld
        rw [← hV0]
        clear hV0
        refine wpAnyH_take (i := 0) (v := .agg #[.bool a.g, .slice a.p a.xs.length a.c, .int .i64 a.e, .bool b.g, .slice b.p b.xs.length b.c, .int .i64 b.e]) rfl (by kernel_rfl) (by kernel_rfl) (by kernel_rfl) (fun _ _ _ h => h) (.inl ⟨by rfl, fun w' hSw => ?_⟩) ⟨(A.past (hbV0)).e6, (X0.past (hbV0)).e3⟩ ?_
        · (try dsimp only at hSw)
          first | (go_simp; done) | (go_simp; with_reducible rfl)
        try simp only [List.getElem_toArray, List.getElem_cons_zero, Act.put, List.setIfInBounds_toArray, List.set_cons_zero, List.set_cons_succ]
        refine wpAnyH_take (i := 2) (v := .agg #[.bool x.g, .slice x.p x.xs.length x.c, .int .i64 x.e]) rfl (by kernel_rfl) (by kernel_rfl) (by kernel_rfl) (fun _ _ _ h => h) (.inl ⟨by rfl, fun w' hSw => ?_⟩) ⟨(A.past (hbV0)).e6, (X0.past (hbV0)).e3⟩ ?_
        · (try dsimp only at hSw)
          first | (go_simp; done) | (go_simp; with_reducible rfl)
        try simp only [List.getElem_toArray, List.getElem_cons_succ, List.getElem_cons_zero, Act.put, List.setIfInBounds_toArray, List.set_cons_zero, List.set_cons_succ]
        refine wpAnyH_ready (rs := [1, 4, 5]) (by kernel_rfl) (by simp) ?_
        refine AllReadyH.cons rfl (fun K hK => ?_) ?_
        · skip
          go_simp
          go_at_call 19; ((with_reducible refine ((HOA _ (ha.past (hbV0)) (hb.past (hbV0))).out).mono ?_)); rintro exV1 V1 ⟨xl, xh, hxl, hxh, rfl, hfl, hfh, hbV1⟩
          have HXL := Lib.hid hxl
          have HXH := Lib.hid hxh
          clear hxl hxh
          have ahfl := hfl.at_
          have lhfl := hfl.lt
          have ahfh := hfh.at_
          have lhfh := hfh.lt
          have hzV1 := hbV1.size
          refine hK.out _ _ ⟨(A.past (below_thru (hbV0) hbV1)).e6, (X0.past (below_thru (hbV0) hbV1)).e3⟩ (fun _ => ?_)
          clear hK K
          try simp only [List.getElem_toArray, List.getElem_cons_succ, List.getElem_cons_zero, Act.put, List.setIfInBounds_toArray, List.set_cons_zero, List.set_cons_succ]
          refine wpAnyH_ready (rs := [3, 4, 5]) (by kernel_rfl) (by simp) ?_
          refine AllReadyH.cons rfl (fun K hK => ?_) ?_
          · skip
            go_simp
            go_at_call 27; ((with_reducible refine ((HOX _ (hx.past (below_thru (hbV0) hbV1))).out).mono ?_)); rintro exV2 V2 ⟨xp, hxp, rfl, hfp, hbV2⟩
            have HXP := Lib.hid hxp
            clear hxp
            have ahfp := hfp.at_
            have lhfp := hfp.lt
            have hzV2 := hbV2.size
            refine hK.out _ _ ⟨(A.past (below_thru (below_thru (hbV0) hbV1) hbV2)).e6, (X0.past (below_thru (below_thru (hbV0) hbV1) hbV2)).e3⟩ (fun _ => ?_)
            clear hK K
            try simp only [List.getElem_toArray, List.getElem_cons_succ, List.getElem_cons_zero, Act.put, List.setIfInBounds_toArray, List.set_cons_zero, List.set_cons_succ]
            refine wpAnyH_ready (rs := [4, 5]) (by kernel_rfl) (by simp) ?_
            refine AllReadyH.cons rfl (fun K hK => ?_) ?_
            · skip
              go_simp
              refine hK.out _ _ ⟨((A.past (below_thru (below_thru (hbV0) hbV1) hbV2)).laid _).e6, ((X0.past (below_thru (below_thru (hbV0) hbV1) hbV2)).laid _).e3⟩ (fun _ => ?_)
              refine anyH_lay (fun V3 hbV3 hzV3 B => ?_)
              clear hK K
              try simp only [List.getElem_toArray, List.getElem_cons_succ, List.getElem_cons_zero, Act.put, List.setIfInBounds_toArray, List.set_cons_zero, List.set_cons_succ]
              refine wpAnyH_ready (rs := [5]) (by kernel_rfl) (by simp) ?_
              refine AllReadyH.cons rfl (fun K hK => ?_) AllReadyH.nil
              go_simp
              refine hK.out _ _ ⟨((A.past (below_thru (below_thru (below_thru (hbV0) hbV1) hbV2) hbV3)).laid _).e6, ((X0.past (below_thru (below_thru (below_thru (hbV0) hbV1) hbV2) hbV3)).laid _).e3⟩ (fun _ => ?_)
              refine anyH_lay (fun V4 hbV4 hzV4 P => ?_)
              clear hK K
              try simp only [List.getElem_toArray, List.getElem_cons_succ, List.getElem_cons_zero, Act.put, List.setIfInBounds_toArray, List.set_cons_zero, List.set_cons_succ]
              refine wpAnyH_ready (rs := [6]) (by kernel_rfl) (by simp) ?_
              refine AllReadyH.cons rfl (fun K hK => ?_) AllReadyH.nil
              replace B := (B.past (hbV4))
              obtain ⟨B_0, B_1, B_2, B_3, B_4, B_5⟩ := B.e6
              have B_f0 := B.f 0
              have B_f1 := B.f 1
              have B_f2 := B.f 2
              have B_f3 := B.f 3
              have B_f4 := B.f 4
              have B_f5 := B.f 5
              go_simp
              clear B_0 B_1 B_2 B_3 B_4 B_5 B_f0 B_f1 B_f2 B_f3 B_f4 B_f5
              refine hK.out _ _ ⟨((A.past (below_thru (below_thru (below_thru (below_thru (hbV0) hbV1) hbV2) hbV3) hbV4)).only (only6 _ _ _ _ _ _ _ _) (by omega)).e6, ((X0.past (below_thru (below_thru (below_thru (below_thru (hbV0) hbV1) hbV2) hbV3) hbV4)).only (only6 _ _ _ _ _ _ _ _) (by omega)).e3⟩ (fun _ => ?_)
              refine anyH_put6 B (fun V5 hOV5 B => ?_)
              have hzV5 := Nat.le_of_eq hOV5.size
              have hyV5 := Nat.le_of_eq hOV5.size.symm
              clear hK K
              try simp only [List.getElem_toArray, List.getElem_cons_succ, List.getElem_cons_zero, Act.put, List.setIfInBounds_toArray, List.set_cons_zero, List.set_cons_succ]
              refine wpAnyH_ready (rs := [7]) (by kernel_rfl) (by simp) ?_
              refine AllReadyH.cons rfl (fun K hK => ?_) AllReadyH.nil
              replace P := (P.only hOV5 (by omega))
              obtain ⟨P_0, P_1, P_2⟩ := P.e3
              have P_f0 := P.f 0
              have P_f1 := P.f 1
              have P_f2 := P.f 2
              go_simp
              clear P_0 P_1 P_2 P_f0 P_f1 P_f2
              refine hK.out _ _ ⟨((A.past ((below_thru (below_thru (below_thru (below_thru (hbV0) hbV1) hbV2) hbV3) hbV4).trans (hOV5.below (by omega)))).only (only3 _ _ _ _ _) (by omega)).e6, ((X0.past ((below_thru (below_thru (below_thru (below_thru (hbV0) hbV1) hbV2) hbV3) hbV4).trans (hOV5.below (by omega)))).only (only3 _ _ _ _ _) (by omega)).e3⟩ (fun _ => ?_)
              refine anyH_put3 P (fun V6 hOV6 P => ?_)
              have hzV6 := Nat.le_of_eq hOV6.size
              have hyV6 := Nat.le_of_eq hOV6.size.symm
              clear hK K
              try simp only [List.getElem_toArray, List.getElem_cons_succ, List.getElem_cons_zero, Act.put, List.setIfInBounds_toArray, List.set_cons_zero, List.set_cons_succ]
              refine wpAnyH_done (by kernel_rfl) ?_ _
              go_wp2_with fail
              go_meet
              exact ⟨V2.heap.size, V3.heap.size, xl, xh, xp, rfl, rfl, HXL.out, HXH.out, HXP.out, (B.only hOV6 (by omega)), P, (hfl.past (((below_thru (below_thru (hbV2) hbV3) hbV4).trans (hOV5.below (by omega))).trans (hOV6.below (by omega)))).mono (by omega), (hfh.past (((below_thru (below_thru (hbV2) hbV3) hbV4).trans (hOV5.below (by omega))).trans (hOV6.below (by omega)))).mono (by omega), (hfp.past (((below_thru (hbV3) hbV4).trans (hOV5.below (by omega))).trans (hOV6.below (by omega)))).mono (by omega), (((below_thru (below_thru (below_thru (below_thru (hbV0) hbV1) hbV2) hbV3) hbV4).trans (hOV5.below (by omega))).trans (hOV6.below (by omega)))⟩
            refine AllReadyH.cons rfl (fun K hK => ?_) AllReadyH.nil
            go_simp
            refine hK.out _ _ ⟨((A.past (below_thru (below_thru (hbV0) hbV1) hbV2)).laid _).e6, ((X0.past (below_thru (below_thru (hbV0) hbV1) hbV2)).laid _).e3⟩ (fun _ => ?_)
            refine anyH_lay (fun V3 hbV3 hzV3 P => ?_)
            clear hK K
            try simp only [List.getElem_toArray, List.getElem_cons_succ, List.getElem_cons_zero, Act.put, List.setIfInBounds_toArray, List.set_cons_zero, List.set_cons_succ]
            refine wpAnyH_ready (rs := [4]) (by kernel_rfl) (by simp) ?_
            refine AllReadyH.cons rfl (fun K hK => ?_) AllReadyH.nil
            go_simp
            refine hK.out _ _ ⟨((A.past (below_thru (below_thru (below_thru (hbV0) hbV1) hbV2) hbV3)).laid _).e6, ((X0.past (below_thru (below_thru (below_thru (hbV0) hbV1) hbV2) hbV3)).laid _).e3⟩ (fun _ => ?_)
            refine anyH_lay (fun V4 hbV4 hzV4 B => ?_)
            clear hK K
            try simp only [List.getElem_toArray, List.getElem_cons_succ, List.getElem_cons_zero, Act.put, List.setIfInBounds_toArray, List.set_cons_zero, List.set_cons_succ]
            refine wpAnyH_ready (rs := [6]) (by kernel_rfl) (by simp) ?_
            refine AllReadyH.cons rfl (fun K hK => ?_) AllReadyH.nil
            obtain ⟨B_0, B_1, B_2, B_3, B_4, B_5⟩ := B.e6
            have B_f0 := B.f 0
            have B_f1 := B.f 1
            have B_f2 := B.f 2
            have B_f3 := B.f 3
            have B_f4 := B.f 4
            have B_f5 := B.f 5
            go_simp
            clear B_0 B_1 B_2 B_3 B_4 B_5 B_f0 B_f1 B_f2 B_f3 B_f4 B_f5
            refine hK.out _ _ ⟨((A.past (below_thru (below_thru (below_thru (below_thru (hbV0) hbV1) hbV2) hbV3) hbV4)).only (only6 _ _ _ _ _ _ _ _) (by omega)).e6, ((X0.past (below_thru (below_thru (below_thru (below_thru (hbV0) hbV1) hbV2) hbV3) hbV4)).only (only6 _ _ _ _ _ _ _ _) (by omega)).e3⟩ (fun _ => ?_)
            refine anyH_put6 B (fun V5 hOV5 B => ?_)
            have hzV5 := Nat.le_of_eq hOV5.size
            have hyV5 := Nat.le_of_eq hOV5.size.symm
            clear hK K
            try simp only [List.getElem_toArray, List.getElem_cons_succ, List.getElem_cons_zero, Act.put, List.setIfInBounds_toArray, List.set_cons_zero, List.set_cons_succ]
            refine wpAnyH_ready (rs := [7]) (by kernel_rfl) (by simp) ?_
            refine AllReadyH.cons rfl (fun K hK => ?_) AllReadyH.nil
            replace P := (P.past ((hbV4).trans (hOV5.below (by omega))))
            obtain ⟨P_0, P_1, P_2⟩ := P.e3
            have P_f0 := P.f 0
            have P_f1 := P.f 1
            have P_f2 := P.f 2
            go_simp
            clear P_0 P_1 P_2 P_f0 P_f1 P_f2
            refine hK.out _ _ ⟨((A.past ((below_thru (below_thru (below_thru (below_thru (hbV0) hbV1) hbV2) hbV3) hbV4).trans (hOV5.below (by omega)))).only (only3 _ _ _ _ _) (by omega)).e6, ((X0.past ((below_thru (below_thru (below_thru (below_thru (hbV0) hbV1) hbV2) hbV3) hbV4).trans (hOV5.below (by omega)))).only (only3 _ _ _ _ _) (by omega)).e3⟩ (fun _ => ?_)
            refine anyH_put3 P (fun V6 hOV6 P => ?_)
            have hzV6 := Nat.le_of_eq hOV6.size
            have hyV6 := Nat.le_of_eq hOV6.size.symm
            clear hK K
            try simp only [List.getElem_toArray, List.getElem_cons_succ, List.getElem_cons_zero, Act.put, List.setIfInBounds_toArray, List.set_cons_zero, List.set_cons_succ]
            refine wpAnyH_done (by kernel_rfl) ?_ _
            go_wp2_with fail
            go_meet
            exact ⟨V3.heap.size, V2.heap.size, xl, xh, xp, rfl, rfl, HXL.out, HXH.out, HXP.out, (B.only hOV6 (by omega)), P, (hfl.past (((below_thru (below_thru (hbV2) hbV3) hbV4).trans (hOV5.below (by omega))).trans (hOV6.below (by omega)))).mono (by omega), (hfh.past (((below_thru (below_thru (hbV2) hbV3) hbV4).trans (hOV5.below (by omega))).trans (hOV6.below (by omega)))).mono (by omega), (hfp.past (((below_thru (hbV3) hbV4).trans (hOV5.below (by omega))).trans (hOV6.below (by omega)))).mono (by omega), (((below_thru (below_thru (below_thru (below_thru (hbV0) hbV1) hbV2) hbV3) hbV4).trans (hOV5.below (by omega))).trans (hOV6.below (by omega)))⟩
          refine AllReadyH.cons rfl (fun K hK => ?_) ?_
          · skip
            go_simp
            refine hK.out _ _ ⟨((A.past (below_thru (hbV0) hbV1)).laid _).e6, ((X0.past (below_thru (hbV0) hbV1)).laid _).e3⟩ (fun _ => ?_)
            refine anyH_lay (fun V2 hbV2 hzV2 B => ?_)
            clear hK K
            try simp only [List.getElem_toArray, List.getElem_cons_succ, List.getElem_cons_zero, Act.put, List.setIfInBounds_toArray, List.set_cons_zero, List.set_cons_succ]
            refine wpAnyH_ready (rs := [3, 5]) (by kernel_rfl) (by simp) ?_
            refine AllReadyH.cons rfl (fun K hK => ?_) ?_
            · skip
              go_simp
              go_at_call 27; ((with_reducible refine ((HOX _ (hx.past (below_thru (below_thru (hbV0) hbV1) hbV2))).out).mono ?_)); rintro exV3 V3 ⟨xp, hxp, rfl, hfp, hbV3⟩
              have HXP := Lib.hid hxp
              clear hxp
              have ahfp := hfp.at_
              have lhfp := hfp.lt
              have hzV3 := hbV3.size
              refine hK.out _ _ ⟨(A.past (below_thru (below_thru (below_thru (hbV0) hbV1) hbV2) hbV3)).e6, (X0.past (below_thru (below_thru (below_thru (hbV0) hbV1) hbV2) hbV3)).e3⟩ (fun _ => ?_)
              clear hK K
              try simp only [List.getElem_toArray, List.getElem_cons_succ, List.getElem_cons_zero, Act.put, List.setIfInBounds_toArray, List.set_cons_zero, List.set_cons_succ]
              refine wpAnyH_ready (rs := [5]) (by kernel_rfl) (by simp) ?_
              refine AllReadyH.cons rfl (fun K hK => ?_) AllReadyH.nil
              go_simp
              refine hK.out _ _ ⟨((A.past (below_thru (below_thru (below_thru (hbV0) hbV1) hbV2) hbV3)).laid _).e6, ((X0.past (below_thru (below_thru (below_thru (hbV0) hbV1) hbV2) hbV3)).laid _).e3⟩ (fun _ => ?_)
              refine anyH_lay (fun V4 hbV4 hzV4 P => ?_)
              clear hK K
              try simp only [List.getElem_toArray, List.getElem_cons_succ, List.getElem_cons_zero, Act.put, List.setIfInBounds_toArray, List.set_cons_zero, List.set_cons_succ]
              refine wpAnyH_ready (rs := [6]) (by kernel_rfl) (by simp) ?_
              refine AllReadyH.cons rfl (fun K hK => ?_) AllReadyH.nil
              replace B := (B.past (below_thru (hbV3) hbV4))
              obtain ⟨B_0, B_1, B_2, B_3, B_4, B_5⟩ := B.e6
              have B_f0 := B.f 0
              have B_f1 := B.f 1
              have B_f2 := B.f 2
              have B_f3 := B.f 3
              have B_f4 := B.f 4
              have B_f5 := B.f 5
              go_simp
              clear B_0 B_1 B_2 B_3 B_4 B_5 B_f0 B_f1 B_f2 B_f3 B_f4 B_f5
              refine hK.out _ _ ⟨((A.past (below_thru (below_thru (below_thru (below_thru (hbV0) hbV1) hbV2) hbV3) hbV4)).only (only6 _ _ _ _ _ _ _ _) (by omega)).e6, ((X0.past (below_thru (below_thru (below_thru (below_thru (hbV0) hbV1) hbV2) hbV3) hbV4)).only (only6 _ _ _ _ _ _ _ _) (by omega)).e3⟩ (fun _ => ?_)
              refine anyH_put6 B (fun V5 hOV5 B => ?_)
              have hzV5 := Nat.le_of_eq hOV5.size
              have hyV5 := Nat.le_of_eq hOV5.size.symm
              clear hK K
              try simp only [List.getElem_toArray, List.getElem_cons_succ, List.getElem_cons_zero, Act.put, List.setIfInBounds_toArray, List.set_cons_zero, List.set_cons_succ]
              refine wpAnyH_ready (rs := [7]) (by kernel_rfl) (by simp) ?_
              refine AllReadyH.cons rfl (fun K hK => ?_) AllReadyH.nil
              replace P := (P.only hOV5 (by omega))
              obtain ⟨P_0, P_1, P_2⟩ := P.e3
              have P_f0 := P.f 0
              have P_f1 := P.f 1
              have P_f2 := P.f 2
              go_simp
              clear P_0 P_1 P_2 P_f0 P_f1 P_f2
              refine hK.out _ _ ⟨((A.past ((below_thru (below_thru (below_thru (below_thru (hbV0) hbV1) hbV2) hbV3) hbV4).trans (hOV5.below (by omega)))).only (only3 _ _ _ _ _) (by omega)).e6, ((X0.past ((below_thru (below_thru (below_thru (below_thru (hbV0) hbV1) hbV2) hbV3) hbV4).trans (hOV5.below (by omega)))).only (only3 _ _ _ _ _) (by omega)).e3⟩ (fun _ => ?_)
              refine anyH_put3 P (fun V6 hOV6 P => ?_)
              have hzV6 := Nat.le_of_eq hOV6.size
              have hyV6 := Nat.le_of_eq hOV6.size.symm
              clear hK K
              try simp only [List.getElem_toArray, List.getElem_cons_succ, List.getElem_cons_zero, Act.put, List.setIfInBounds_toArray, List.set_cons_zero, List.set_cons_succ]
              refine wpAnyH_done (by kernel_rfl) ?_ _
              go_wp2_with fail
              go_meet
              exact ⟨V1.heap.size, V3.heap.size, xl, xh, xp, rfl, rfl, HXL.out, HXH.out, HXP.out, (B.only hOV6 (by omega)), P, (hfl.past (((below_thru (below_thru (hbV2) hbV3) hbV4).trans (hOV5.below (by omega))).trans (hOV6.below (by omega)))).mono (by omega), (hfh.past (((below_thru (below_thru (hbV2) hbV3) hbV4).trans (hOV5.below (by omega))).trans (hOV6.below (by omega)))).mono (by omega), (((hfp.past (hbV4)).only hOV5 (fun h => by have := ahfp h; have := lhfp h; omega)).only hOV6 (fun h => by have := ahfp h; have := lhfp h; omega)).mono (by omega), (((below_thru (below_thru (below_thru (below_thru (hbV0) hbV1) hbV2) hbV3) hbV4).trans (hOV5.below (by omega))).trans (hOV6.below (by omega)))⟩
            refine AllReadyH.cons rfl (fun K hK => ?_) AllReadyH.nil
            go_simp
            refine hK.out _ _ ⟨((A.past (below_thru (below_thru (hbV0) hbV1) hbV2)).laid _).e6, ((X0.past (below_thru (below_thru (hbV0) hbV1) hbV2)).laid _).e3⟩ (fun _ => ?_)
            refine anyH_lay (fun V3 hbV3 hzV3 P => ?_)
            clear hK K
            try simp only [List.getElem_toArray, List.getElem_cons_succ, List.getElem_cons_zero, Act.put, List.setIfInBounds_toArray, List.set_cons_zero, List.set_cons_succ]
            refine wpAnyH_ready (rs := [3]) (by kernel_rfl) (by simp) ?_
            refine AllReadyH.cons rfl (fun K hK => ?_) AllReadyH.nil
            go_simp
            go_at_call 27; ((with_reducible refine ((HOX _ (hx.past (below_thru (below_thru (below_thru (hbV0) hbV1) hbV2) hbV3))).out).mono ?_)); rintro exV4 V4 ⟨xp, hxp, rfl, hfp, hbV4⟩
            have HXP := Lib.hid hxp
            clear hxp
            have ahfp := hfp.at_
            have lhfp := hfp.lt
            have hzV4 := hbV4.size
            refine hK.out _ _ ⟨(A.past (below_thru (below_thru (below_thru (below_thru (hbV0) hbV1) hbV2) hbV3) hbV4)).e6, (X0.past (below_thru (below_thru (below_thru (below_thru (hbV0) hbV1) hbV2) hbV3) hbV4)).e3⟩ (fun _ => ?_)
            clear hK K
            try simp only [List.getElem_toArray, List.getElem_cons_succ, List.getElem_cons_zero, Act.put, List.setIfInBounds_toArray, List.set_cons_zero, List.set_cons_succ]
            refine wpAnyH_ready (rs := [6]) (by kernel_rfl) (by simp) ?_
            refine AllReadyH.cons rfl (fun K hK => ?_) AllReadyH.nil
            replace B := (B.past (below_thru (hbV3) hbV4))
            obtain ⟨B_0, B_1, B_2, B_3, B_4, B_5⟩ := B.e6
            have B_f0 := B.f 0
            have B_f1 := B.f 1
            have B_f2 := B.f 2
            have B_f3 := B.f 3
            have B_f4 := B.f 4
            have B_f5 := B.f 5
            go_simp
            clear B_0 B_1 B_2 B_3 B_4 B_5 B_f0 B_f1 B_f2 B_f3 B_f4 B_f5
            refine hK.out _ _ ⟨((A.past (below_thru (below_thru (below_thru (below_thru (hbV0) hbV1) hbV2) hbV3) hbV4)).only (only6 _ _ _ _ _ _ _ _) (by omega)).e6, ((X0.past (below_thru (below_thru (below_thru (below_thru (hbV0) hbV1) hbV2) hbV3) hbV4)).only (only6 _ _ _ _ _ _ _ _) (by omega)).e3⟩ (fun _ => ?_)
            refine anyH_put6 B (fun V5 hOV5 B => ?_)
            have hzV5 := Nat.le_of_eq hOV5.size
            have hyV5 := Nat.le_of_eq hOV5.size.symm
            clear hK K
            try simp only [List.getElem_toArray, List.getElem_cons_succ, List.getElem_cons_zero, Act.put, List.setIfInBounds_toArray, List.set_cons_zero, List.set_cons_succ]
            refine wpAnyH_ready (rs := [7]) (by kernel_rfl) (by simp) ?_
            refine AllReadyH.cons rfl (fun K hK => ?_) AllReadyH.nil
            replace P := ((P.past (hbV4)).only hOV5 (by omega))
            obtain ⟨P_0, P_1, P_2⟩ := P.e3
            have P_f0 := P.f 0
            have P_f1 := P.f 1
            have P_f2 := P.f 2
            go_simp
            clear P_0 P_1 P_2 P_f0 P_f1 P_f2
            refine hK.out _ _ ⟨((A.past ((below_thru (below_thru (below_thru (below_thru (hbV0) hbV1) hbV2) hbV3) hbV4).trans (hOV5.below (by omega)))).only (only3 _ _ _ _ _) (by omega)).e6, ((X0.past ((below_thru (below_thru (below_thru (below_thru (hbV0) hbV1) hbV2) hbV3) hbV4).trans (hOV5.below (by omega)))).only (only3 _ _ _ _ _) (by omega)).e3⟩ (fun _ => ?_)
            refine anyH_put3 P (fun V6 hOV6 P => ?_)
            have hzV6 := Nat.le_of_eq hOV6.size
            have hyV6 := Nat.le_of_eq hOV6.size.symm
            clear hK K
            try simp only [List.getElem_toArray, List.getElem_cons_succ, List.getElem_cons_zero, Act.put, List.setIfInBounds_toArray, List.set_cons_zero, List.set_cons_succ]
            refine wpAnyH_done (by kernel_rfl) ?_ _
            go_wp2_with fail
            go_meet
            exact ⟨V1.heap.size, V2.heap.size, xl, xh, xp, rfl, rfl, HXL.out, HXH.out, HXP.out, (B.only hOV6 (by omega)), P, (hfl.past (((below_thru (below_thru (hbV2) hbV3) hbV4).trans (hOV5.below (by omega))).trans (hOV6.below (by omega)))).mono (by omega), (hfh.past (((below_thru (below_thru (hbV2) hbV3) hbV4).trans (hOV5.below (by omega))).trans (hOV6.below (by omega)))).mono (by omega), ((hfp.only hOV5 (fun h => by have := ahfp h; have := lhfp h; omega)).only hOV6 (fun h => by have := ahfp h; have := lhfp h; omega)).mono (by omega), (((below_thru (below_thru (below_thru (below_thru (hbV0) hbV1) hbV2) hbV3) hbV4).trans (hOV5.below (by omega))).trans (hOV6.below (by omega)))⟩
          refine AllReadyH.cons rfl (fun K hK => ?_) AllReadyH.nil
          go_simp
          refine hK.out _ _ ⟨((A.past (below_thru (hbV0) hbV1)).laid _).e6, ((X0.past (below_thru (hbV0) hbV1)).laid _).e3⟩ (fun _ => ?_)
          refine anyH_lay (fun V2 hbV2 hzV2 P => ?_)
          clear hK K
          try simp only [List.getElem_toArray, List.getElem_cons_succ, List.getElem_cons_zero, Act.put, List.setIfInBounds_toArray, List.set_cons_zero, List.set_cons_succ]
          refine wpAnyH_ready (rs := [3, 4]) (by kernel_rfl) (by simp) ?_
          refine AllReadyH.cons rfl (fun K hK => ?_) ?_
          · skip
            go_simp
            go_at_call 27; ((with_reducible refine ((HOX _ (hx.past (below_thru (below_thru (hbV0) hbV1) hbV2))).out).mono ?_)); rintro exV3 V3 ⟨xp, hxp, rfl, hfp, hbV3⟩
            have HXP := Lib.hid hxp
            clear hxp
            have ahfp := hfp.at_
            have lhfp := hfp.lt
            have hzV3 := hbV3.size
            refine hK.out _ _ ⟨(A.past (below_thru (below_thru (below_thru (hbV0) hbV1) hbV2) hbV3)).e6, (X0.past (below_thru (below_thru (below_thru (hbV0) hbV1) hbV2) hbV3)).e3⟩ (fun _ => ?_)
            clear hK K
            try simp only [List.getElem_toArray, List.getElem_cons_succ, List.getElem_cons_zero, Act.put, List.setIfInBounds_toArray, List.set_cons_zero, List.set_cons_succ]
            refine wpAnyH_ready (rs := [4]) (by kernel_rfl) (by simp) ?_
            refine AllReadyH.cons rfl (fun K hK => ?_) AllReadyH.nil
            go_simp
            refine hK.out _ _ ⟨((A.past (below_thru (below_thru (below_thru (hbV0) hbV1) hbV2) hbV3)).laid _).e6, ((X0.past (below_thru (below_thru (below_thru (hbV0) hbV1) hbV2) hbV3)).laid _).e3⟩ (fun _ => ?_)
            refine anyH_lay (fun V4 hbV4 hzV4 B => ?_)
            clear hK K
            try simp only [List.getElem_toArray, List.getElem_cons_succ, List.getElem_cons_zero, Act.put, List.setIfInBounds_toArray, List.set_cons_zero, List.set_cons_succ]
            refine wpAnyH_ready (rs := [6]) (by kernel_rfl) (by simp) ?_
            refine AllReadyH.cons rfl (fun K hK => ?_) AllReadyH.nil
            obtain ⟨B_0, B_1, B_2, B_3, B_4, B_5⟩ := B.e6
            have B_f0 := B.f 0
            have B_f1 := B.f 1
            have B_f2 := B.f 2
            have B_f3 := B.f 3
            have B_f4 := B.f 4
            have B_f5 := B.f 5
            go_simp
            clear B_0 B_1 B_2 B_3 B_4 B_5 B_f0 B_f1 B_f2 B_f3 B_f4 B_f5
            refine hK.out _ _ ⟨((A.past (below_thru (below_thru (below_thru (below_thru (hbV0) hbV1) hbV2) hbV3) hbV4)).only (only6 _ _ _ _ _ _ _ _) (by omega)).e6, ((X0.past (below_thru (below_thru (below_thru (below_thru (hbV0) hbV1) hbV2) hbV3) hbV4)).only (only6 _ _ _ _ _ _ _ _) (by omega)).e3⟩ (fun _ => ?_)
            refine anyH_put6 B (fun V5 hOV5 B => ?_)
            have hzV5 := Nat.le_of_eq hOV5.size
            have hyV5 := Nat.le_of_eq hOV5.size.symm
            clear hK K
            try simp only [List.getElem_toArray, List.getElem_cons_succ, List.getElem_cons_zero, Act.put, List.setIfInBounds_toArray, List.set_cons_zero, List.set_cons_succ]
            refine wpAnyH_ready (rs := [7]) (by kernel_rfl) (by simp) ?_
            refine AllReadyH.cons rfl (fun K hK => ?_) AllReadyH.nil
            replace P := (P.past ((below_thru (hbV3) hbV4).trans (hOV5.below (by omega))))
            obtain ⟨P_0, P_1, P_2⟩ := P.e3
            have P_f0 := P.f 0
            have P_f1 := P.f 1
            have P_f2 := P.f 2
            go_simp
            clear P_0 P_1 P_2 P_f0 P_f1 P_f2
            refine hK.out _ _ ⟨((A.past ((below_thru (below_thru (below_thru (below_thru (hbV0) hbV1) hbV2) hbV3) hbV4).trans (hOV5.below (by omega)))).only (only3 _ _ _ _ _) (by omega)).e6, ((X0.past ((below_thru (below_thru (below_thru (below_thru (hbV0) hbV1) hbV2) hbV3) hbV4).trans (hOV5.below (by omega)))).only (only3 _ _ _ _ _) (by omega)).e3⟩ (fun _ => ?_)
            refine anyH_put3 P (fun V6 hOV6 P => ?_)
            have hzV6 := Nat.le_of_eq hOV6.size
            have hyV6 := Nat.le_of_eq hOV6.size.symm
            clear hK K
            try simp only [List.getElem_toArray, List.getElem_cons_succ, List.getElem_cons_zero, Act.put, List.setIfInBounds_toArray, List.set_cons_zero, List.set_cons_succ]
            refine wpAnyH_done (by kernel_rfl) ?_ _
            go_wp2_with fail
            go_meet
            exact ⟨V3.heap.size, V1.heap.size, xl, xh, xp, rfl, rfl, HXL.out, HXH.out, HXP.out, (B.only hOV6 (by omega)), P, (hfl.past (((below_thru (below_thru (hbV2) hbV3) hbV4).trans (hOV5.below (by omega))).trans (hOV6.below (by omega)))).mono (by omega), (hfh.past (((below_thru (below_thru (hbV2) hbV3) hbV4).trans (hOV5.below (by omega))).trans (hOV6.below (by omega)))).mono (by omega), ((hfp.past ((hbV4).trans (hOV5.below (by omega)))).only hOV6 (fun h => by have := ahfp h; have := lhfp h; omega)).mono (by omega), (((below_thru (below_thru (below_thru (below_thru (hbV0) hbV1) hbV2) hbV3) hbV4).trans (hOV5.below (by omega))).trans (hOV6.below (by omega)))⟩
          refine AllReadyH.cons rfl (fun K hK => ?_) AllReadyH.nil
          go_simp
          refine hK.out _ _ ⟨((A.past (below_thru (below_thru (hbV0) hbV1) hbV2)).laid _).e6, ((X0.past (below_thru (below_thru (hbV0) hbV1) hbV2)).laid _).e3⟩ (fun _ => ?_)
          refine anyH_lay (fun V3 hbV3 hzV3 B => ?_)
          clear hK K
          try simp only [List.getElem_toArray, List.getElem_cons_succ, List.getElem_cons_zero, Act.put, List.setIfInBounds_toArray, List.set_cons_zero, List.set_cons_succ]
          refine wpAnyH_ready (rs := [3]) (by kernel_rfl) (by simp) ?_
          refine AllReadyH.cons rfl (fun K hK => ?_) AllReadyH.nil
          go_simp
          go_at_call 27; ((with_reducible refine ((HOX _ (hx.past (below_thru (below_thru (below_thru (hbV0) hbV1) hbV2) hbV3))).out).mono ?_)); rintro exV4 V4 ⟨xp, hxp, rfl, hfp, hbV4⟩
          have HXP := Lib.hid hxp
          clear hxp
          have ahfp := hfp.at_
          have lhfp := hfp.lt
          have hzV4 := hbV4.size
          refine hK.out _ _ ⟨(A.past (below_thru (below_thru (below_thru (below_thru (hbV0) hbV1) hbV2) hbV3) hbV4)).e6, (X0.past (below_thru (below_thru (below_thru (below_thru (hbV0) hbV1) hbV2) hbV3) hbV4)).e3⟩ (fun _ => ?_)
          clear hK K
          try simp only [List.getElem_toArray, List.getElem_cons_succ, List.getElem_cons_zero, Act.put, List.setIfInBounds_toArray, List.set_cons_zero, List.set_cons_succ]
          refine wpAnyH_ready (rs := [6]) (by kernel_rfl) (by simp) ?_
          refine AllReadyH.cons rfl (fun K hK => ?_) AllReadyH.nil
          replace B := (B.past (hbV4))
          obtain ⟨B_0, B_1, B_2, B_3, B_4, B_5⟩ := B.e6
          have B_f0 := B.f 0
          have B_f1 := B.f 1
          have B_f2 := B.f 2
          have B_f3 := B.f 3
          have B_f4 := B.f 4
          have B_f5 := B.f 5
          go_simp
          clear B_0 B_1 B_2 B_3 B_4 B_5 B_f0 B_f1 B_f2 B_f3 B_f4 B_f5
          refine hK.out _ _ ⟨((A.past (below_thru (below_thru (below_thru (below_thru (hbV0) hbV1) hbV2) hbV3) hbV4)).only (only6 _ _ _ _ _ _ _ _) (by omega)).e6, ((X0.past (below_thru (below_thru (below_thru (below_thru (hbV0) hbV1) hbV2) hbV3) hbV4)).only (only6 _ _ _ _ _ _ _ _) (by omega)).e3⟩ (fun _ => ?_)
          refine anyH_put6 B (fun V5 hOV5 B => ?_)
          have hzV5 := Nat.le_of_eq hOV5.size
          have hyV5 := Nat.le_of_eq hOV5.size.symm
          clear hK K
          try simp only [List.getElem_toArray, List.getElem_cons_succ, List.getElem_cons_zero, Act.put, List.setIfInBounds_toArray, List.set_cons_zero, List.set_cons_succ]
          refine wpAnyH_ready (rs := [7]) (by kernel_rfl) (by simp) ?_
          refine AllReadyH.cons rfl (fun K hK => ?_) AllReadyH.nil
          replace P := (P.past ((below_thru (hbV3) hbV4).trans (hOV5.below (by omega))))
          obtain ⟨P_0, P_1, P_2⟩ := P.e3
          have P_f0 := P.f 0
          have P_f1 := P.f 1
          have P_f2 := P.f 2
          go_simp
          clear P_0 P_1 P_2 P_f0 P_f1 P_f2
          refine hK.out _ _ ⟨((A.past ((below_thru (below_thru (below_thru (below_thru (hbV0) hbV1) hbV2) hbV3) hbV4).trans (hOV5.below (by omega)))).only (only3 _ _ _ _ _) (by omega)).e6, ((X0.past ((below_thru (below_thru (below_thru (below_thru (hbV0) hbV1) hbV2) hbV3) hbV4).trans (hOV5.below (by omega)))).only (only3 _ _ _ _ _) (by omega)).e3⟩ (fun _ => ?_)
          refine anyH_put3 P (fun V6 hOV6 P => ?_)
          have hzV6 := Nat.le_of_eq hOV6.size
          have hyV6 := Nat.le_of_eq hOV6.size.symm
          clear hK K
          try simp only [List.getElem_toArray, List.getElem_cons_succ, List.getElem_cons_zero, Act.put, List.setIfInBounds_toArray, List.set_cons_zero, List.set_cons_succ]
          refine wpAnyH_done (by kernel_rfl) ?_ _
          go_wp2_with fail
          go_meet
          exact ⟨V2.heap.size, V1.heap.size, xl, xh, xp, rfl, rfl, HXL.out, HXH.out, HXP.out, (B.only hOV6 (by omega)), P, (hfl.past (((below_thru (below_thru (hbV2) hbV3) hbV4).trans (hOV5.below (by omega))).trans (hOV6.below (by omega)))).mono (by omega), (hfh.past (((below_thru (below_thru (hbV2) hbV3) hbV4).trans (hOV5.below (by omega))).trans (hOV6.below (by omega)))).mono (by omega), ((hfp.only hOV5 (fun h => by have := ahfp h; have := lhfp h; omega)).only hOV6 (fun h => by have := ahfp h; have := lhfp h; omega)).mono (by omega), (((below_thru (below_thru (below_thru (below_thru (hbV0) hbV1) hbV2) hbV3) hbV4).trans (hOV5.below (by omega))).trans (hOV6.below (by omega)))⟩
        refine AllReadyH.cons rfl (fun K hK => ?_) ?_
        · skip
          go_simp
          refine hK.out _ _ ⟨((A.past (hbV0)).laid _).e6, ((X0.past (hbV0)).laid _).e3⟩ (fun _ => ?_)
          refine anyH_lay (fun V1 hbV1 hzV1 B => ?_)
          clear hK K
          try simp only [List.getElem_toArray, List.getElem_cons_succ, List.getElem_cons_zero, Act.put, List.setIfInBounds_toArray, List.set_cons_zero, List.set_cons_succ]
          refine wpAnyH_ready (rs := [1, 5]) (by kernel_rfl) (by simp) ?_
          refine AllReadyH.cons rfl (fun K hK => ?_) ?_
          · skip
            go_simp
            go_at_call 19; ((with_reducible refine ((HOA _ (ha.past (below_thru (hbV0) hbV1)) (hb.past (below_thru (hbV0) hbV1))).out).mono ?_)); rintro exV2 V2 ⟨xl, xh, hxl, hxh, rfl, hfl, hfh, hbV2⟩
            have HXL := Lib.hid hxl
            have HXH := Lib.hid hxh
            clear hxl hxh
            have ahfl := hfl.at_
            have lhfl := hfl.lt
            have ahfh := hfh.at_
            have lhfh := hfh.lt
            have hzV2 := hbV2.size
            refine hK.out _ _ ⟨(A.past (below_thru (below_thru (hbV0) hbV1) hbV2)).e6, (X0.past (below_thru (below_thru (hbV0) hbV1) hbV2)).e3⟩ (fun _ => ?_)
            clear hK K
            try simp only [List.getElem_toArray, List.getElem_cons_succ, List.getElem_cons_zero, Act.put, List.setIfInBounds_toArray, List.set_cons_zero, List.set_cons_succ]
            refine wpAnyH_ready (rs := [3, 5]) (by kernel_rfl) (by simp) ?_
            refine AllReadyH.cons rfl (fun K hK => ?_) ?_
            · skip
              go_simp
              go_at_call 27; ((with_reducible refine ((HOX _ (hx.past (below_thru (below_thru (hbV0) hbV1) hbV2))).out).mono ?_)); rintro exV3 V3 ⟨xp, hxp, rfl, hfp, hbV3⟩
              have HXP := Lib.hid hxp
              clear hxp
              have ahfp := hfp.at_
              have lhfp := hfp.lt
              have hzV3 := hbV3.size
              refine hK.out _ _ ⟨(A.past (below_thru (below_thru (below_thru (hbV0) hbV1) hbV2) hbV3)).e6, (X0.past (below_thru (below_thru (below_thru (hbV0) hbV1) hbV2) hbV3)).e3⟩ (fun _ => ?_)
              clear hK K
              try simp only [List.getElem_toArray, List.getElem_cons_succ, List.getElem_cons_zero, Act.put, List.setIfInBounds_toArray, List.set_cons_zero, List.set_cons_succ]
              refine wpAnyH_ready (rs := [5]) (by kernel_rfl) (by simp) ?_
              refine AllReadyH.cons rfl (fun K hK => ?_) AllReadyH.nil
              go_simp
              refine hK.out _ _ ⟨((A.past (below_thru (below_thru (below_thru (hbV0) hbV1) hbV2) hbV3)).laid _).e6, ((X0.past (below_thru (below_thru (below_thru (hbV0) hbV1) hbV2) hbV3)).laid _).e3⟩ (fun _ => ?_)
              refine anyH_lay (fun V4 hbV4 hzV4 P => ?_)
              clear hK K
              try simp only [List.getElem_toArray, List.getElem_cons_succ, List.getElem_cons_zero, Act.put, List.setIfInBounds_toArray, List.set_cons_zero, List.set_cons_succ]
              refine wpAnyH_ready (rs := [6]) (by kernel_rfl) (by simp) ?_
              refine AllReadyH.cons rfl (fun K hK => ?_) AllReadyH.nil
              replace B := (B.past (below_thru (below_thru (hbV2) hbV3) hbV4))
              obtain ⟨B_0, B_1, B_2, B_3, B_4, B_5⟩ := B.e6
              have B_f0 := B.f 0
              have B_f1 := B.f 1
              have B_f2 := B.f 2
              have B_f3 := B.f 3
              have B_f4 := B.f 4
              have B_f5 := B.f 5
              go_simp
              clear B_0 B_1 B_2 B_3 B_4 B_5 B_f0 B_f1 B_f2 B_f3 B_f4 B_f5
              refine hK.out _ _ ⟨((A.past (below_thru (below_thru (below_thru (below_thru (hbV0) hbV1) hbV2) hbV3) hbV4)).only (only6 _ _ _ _ _ _ _ _) (by omega)).e6, ((X0.past (below_thru (below_thru (below_thru (below_thru (hbV0) hbV1) hbV2) hbV3) hbV4)).only (only6 _ _ _ _ _ _ _ _) (by omega)).e3⟩ (fun _ => ?_)
              refine anyH_put6 B (fun V5 hOV5 B => ?_)
              have hzV5 := Nat.le_of_eq hOV5.size
              have hyV5 := Nat.le_of_eq hOV5.size.symm
              clear hK K
              try simp only [List.getElem_toArray, List.getElem_cons_succ, List.getElem_cons_zero, Act.put, List.setIfInBounds_toArray, List.set_cons_zero, List.set_cons_succ]
              refine wpAnyH_ready (rs := [7]) (by kernel_rfl) (by simp) ?_
              refine AllReadyH.cons rfl (fun K hK => ?_) AllReadyH.nil
              replace P := (P.only hOV5 (by omega))
              obtain ⟨P_0, P_1, P_2⟩ := P.e3
              have P_f0 := P.f 0
              have P_f1 := P.f 1
              have P_f2 := P.f 2
              go_simp
              clear P_0 P_1 P_2 P_f0 P_f1 P_f2
              refine hK.out _ _ ⟨((A.past ((below_thru (below_thru (below_thru (below_thru (hbV0) hbV1) hbV2) hbV3) hbV4).trans (hOV5.below (by omega)))).only (only3 _ _ _ _ _) (by omega)).e6, ((X0.past ((below_thru (below_thru (below_thru (below_thru (hbV0) hbV1) hbV2) hbV3) hbV4).trans (hOV5.below (by omega)))).only (only3 _ _ _ _ _) (by omega)).e3⟩ (fun _ => ?_)
              refine anyH_put3 P (fun V6 hOV6 P => ?_)
              have hzV6 := Nat.le_of_eq hOV6.size
              have hyV6 := Nat.le_of_eq hOV6.size.symm
              clear hK K
              try simp only [List.getElem_toArray, List.getElem_cons_succ, List.getElem_cons_zero, Act.put, List.setIfInBounds_toArray, List.set_cons_zero, List.set_cons_succ]
              refine wpAnyH_done (by kernel_rfl) ?_ _
              go_wp2_with fail
              go_meet
              exact ⟨V0.heap.size, V3.heap.size, xl, xh, xp, rfl, rfl, HXL.out, HXH.out, HXP.out, (B.only hOV6 (by omega)), P, (((hfl.past (below_thru (hbV3) hbV4)).only hOV5 (fun h => by have := ahfl h; have := lhfl h; omega)).only hOV6 (fun h => by have := ahfl h; have := lhfl h; omega)).mono (by omega), (((hfh.past (below_thru (hbV3) hbV4)).only hOV5 (fun h => by have := ahfh h; have := lhfh h; omega)).only hOV6 (fun h => by have := ahfh h; have := lhfh h; omega)).mono (by omega), (((hfp.past (hbV4)).only hOV5 (fun h => by have := ahfp h; have := lhfp h; omega)).only hOV6 (fun h => by have := ahfp h; have := lhfp h; omega)).mono (by omega), (((below_thru (below_thru (below_thru (below_thru (hbV0) hbV1) hbV2) hbV3) hbV4).trans (hOV5.below (by omega))).trans (hOV6.below (by omega)))⟩
            refine AllReadyH.cons rfl (fun K hK => ?_) AllReadyH.nil
            go_simp
            refine hK.out _ _ ⟨((A.past (below_thru (below_thru (hbV0) hbV1) hbV2)).laid _).e6, ((X0.past (below_thru (below_thru (hbV0) hbV1) hbV2)).laid _).e3⟩ (fun _ => ?_)
            refine anyH_lay (fun V3 hbV3 hzV3 P => ?_)
            clear hK K
            try simp only [List.getElem_toArray, List.getElem_cons_succ, List.getElem_cons_zero, Act.put, List.setIfInBounds_toArray, List.set_cons_zero, List.set_cons_succ]
            refine wpAnyH_ready (rs := [3]) (by kernel_rfl) (by simp) ?_
            refine AllReadyH.cons rfl (fun K hK => ?_) AllReadyH.nil
            go_simp
            go_at_call 27; ((with_reducible refine ((HOX _ (hx.past (below_thru (below_thru (below_thru (hbV0) hbV1) hbV2) hbV3))).out).mono ?_)); rintro exV4 V4 ⟨xp, hxp, rfl, hfp, hbV4⟩
            have HXP := Lib.hid hxp
            clear hxp
            have ahfp := hfp.at_
            have lhfp := hfp.lt
            have hzV4 := hbV4.size
            refine hK.out _ _ ⟨(A.past (below_thru (below_thru (below_thru (below_thru (hbV0) hbV1) hbV2) hbV3) hbV4)).e6, (X0.past (below_thru (below_thru (below_thru (below_thru (hbV0) hbV1) hbV2) hbV3) hbV4)).e3⟩ (fun _ => ?_)
            clear hK K
            try simp only [List.getElem_toArray, List.getElem_cons_succ, List.getElem_cons_zero, Act.put, List.setIfInBounds_toArray, List.set_cons_zero, List.set_cons_succ]
            refine wpAnyH_ready (rs := [6]) (by kernel_rfl) (by simp) ?_
            refine AllReadyH.cons rfl (fun K hK => ?_) AllReadyH.nil
            replace B := (B.past (below_thru (below_thru (hbV2) hbV3) hbV4))
            obtain ⟨B_0, B_1, B_2, B_3, B_4, B_5⟩ := B.e6
            have B_f0 := B.f 0
            have B_f1 := B.f 1
            have B_f2 := B.f 2
            have B_f3 := B.f 3
            have B_f4 := B.f 4
            have B_f5 := B.f 5
            go_simp
            clear B_0 B_1 B_2 B_3 B_4 B_5 B_f0 B_f1 B_f2 B_f3 B_f4 B_f5
            refine hK.out _ _ ⟨((A.past (below_thru (below_thru (below_thru (below_thru (hbV0) hbV1) hbV2) hbV3) hbV4)).only (only6 _ _ _ _ _ _ _ _) (by omega)).e6, ((X0.past (below_thru (below_thru (below_thru (below_thru (hbV0) hbV1) hbV2) hbV3) hbV4)).only (only6 _ _ _ _ _ _ _ _) (by omega)).e3⟩ (fun _ => ?_)
            refine anyH_put6 B (fun V5 hOV5 B => ?_)
            have hzV5 := Nat.le_of_eq hOV5.size
            have hyV5 := Nat.le_of_eq hOV5.size.symm
            clear hK K
            try simp only [List.getElem_toArray, List.getElem_cons_succ, List.getElem_cons_zero, Act.put, List.setIfInBounds_toArray, List.set_cons_zero, List.set_cons_succ]
            refine wpAnyH_ready (rs := [7]) (by kernel_rfl) (by simp) ?_
            refine AllReadyH.cons rfl (fun K hK => ?_) AllReadyH.nil
            replace P := ((P.past (hbV4)).only hOV5 (by omega))
            obtain ⟨P_0, P_1, P_2⟩ := P.e3
            have P_f0 := P.f 0
            have P_f1 := P.f 1
            have P_f2 := P.f 2
            go_simp
            clear P_0 P_1 P_2 P_f0 P_f1 P_f2
            refine hK.out _ _ ⟨((A.past ((below_thru (below_thru (below_thru (below_thru (hbV0) hbV1) hbV2) hbV3) hbV4).trans (hOV5.below (by omega)))).only (only3 _ _ _ _ _) (by omega)).e6, ((X0.past ((below_thru (below_thru (below_thru (below_thru (hbV0) hbV1) hbV2) hbV3) hbV4).trans (hOV5.below (by omega)))).only (only3 _ _ _ _ _) (by omega)).e3⟩ (fun _ => ?_)
            refine anyH_put3 P (fun V6 hOV6 P => ?_)
            have hzV6 := Nat.le_of_eq hOV6.size
            have hyV6 := Nat.le_of_eq hOV6.size.symm
            clear hK K
            try simp only [List.getElem_toArray, List.getElem_cons_succ, List.getElem_cons_zero, Act.put, List.setIfInBounds_toArray, List.set_cons_zero, List.set_cons_succ]
            refine wpAnyH_done (by kernel_rfl) ?_ _
            go_wp2_with fail
            go_meet
            exact ⟨V0.heap.size, V2.heap.size, xl, xh, xp, rfl, rfl, HXL.out, HXH.out, HXP.out, (B.only hOV6 (by omega)), P, (((hfl.past (below_thru (hbV3) hbV4)).only hOV5 (fun h => by have := ahfl h; have := lhfl h; omega)).only hOV6 (fun h => by have := ahfl h; have := lhfl h; omega)).mono (by omega), (((hfh.past (below_thru (hbV3) hbV4)).only hOV5 (fun h => by have := ahfh h; have := lhfh h; omega)).only hOV6 (fun h => by have := ahfh h; have := lhfh h; omega)).mono (by omega), ((hfp.only hOV5 (fun h => by have := ahfp h; have := lhfp h; omega)).only hOV6 (fun h => by have := ahfp h; have := lhfp h; omega)).mono (by omega), (((below_thru (below_thru (below_thru (below_thru (hbV0) hbV1) hbV2) hbV3) hbV4).trans (hOV5.below (by omega))).trans (hOV6.below (by omega)))⟩
          refine AllReadyH.cons rfl (fun K hK => ?_) AllReadyH.nil
          go_simp
          refine hK.out _ _ ⟨((A.past (below_thru (hbV0) hbV1)).laid _).e6, ((X0.past (below_thru (hbV0) hbV1)).laid _).e3⟩ (fun _ => ?_)
          refine anyH_lay (fun V2 hbV2 hzV2 P => ?_)
          clear hK K
          try simp only [List.getElem_toArray, List.getElem_cons_succ, List.getElem_cons_zero, Act.put, List.setIfInBounds_toArray, List.set_cons_zero, List.set_cons_succ]
          refine wpAnyH_ready (rs := [1]) (by kernel_rfl) (by simp) ?_
          refine AllReadyH.cons rfl (fun K hK => ?_) AllReadyH.nil
          go_simp
          go_at_call 19; ((with_reducible refine ((HOA _ (ha.past (below_thru (below_thru (hbV0) hbV1) hbV2)) (hb.past (below_thru (below_thru (hbV0) hbV1) hbV2))).out).mono ?_)); rintro exV3 V3 ⟨xl, xh, hxl, hxh, rfl, hfl, hfh, hbV3⟩
          have HXL := Lib.hid hxl
          have HXH := Lib.hid hxh
          clear hxl hxh
          have ahfl := hfl.at_
          have lhfl := hfl.lt
          have ahfh := hfh.at_
          have lhfh := hfh.lt
          have hzV3 := hbV3.size
          refine hK.out _ _ ⟨(A.past (below_thru (below_thru (below_thru (hbV0) hbV1) hbV2) hbV3)).e6, (X0.past (below_thru (below_thru (below_thru (hbV0) hbV1) hbV2) hbV3)).e3⟩ (fun _ => ?_)
          clear hK K
          try simp only [List.getElem_toArray, List.getElem_cons_succ, List.getElem_cons_zero, Act.put, List.setIfInBounds_toArray, List.set_cons_zero, List.set_cons_succ]
          refine wpAnyH_ready (rs := [3]) (by kernel_rfl) (by simp) ?_
          refine AllReadyH.cons rfl (fun K hK => ?_) AllReadyH.nil
          go_simp
          go_at_call 27; ((with_reducible refine ((HOX _ (hx.past (below_thru (below_thru (below_thru (hbV0) hbV1) hbV2) hbV3))).out).mono ?_)); rintro exV4 V4 ⟨xp, hxp, rfl, hfp, hbV4⟩
          have HXP := Lib.hid hxp
          clear hxp
          have ahfp := hfp.at_
          have lhfp := hfp.lt
          have hzV4 := hbV4.size
          refine hK.out _ _ ⟨(A.past (below_thru (below_thru (below_thru (below_thru (hbV0) hbV1) hbV2) hbV3) hbV4)).e6, (X0.past (below_thru (below_thru (below_thru (below_thru (hbV0) hbV1) hbV2) hbV3) hbV4)).e3⟩ (fun _ => ?_)
          clear hK K
          try simp only [List.getElem_toArray, List.getElem_cons_succ, List.getElem_cons_zero, Act.put, List.setIfInBounds_toArray, List.set_cons_zero, List.set_cons_succ]
          refine wpAnyH_ready (rs := [6]) (by kernel_rfl) (by simp) ?_
          refine AllReadyH.cons rfl (fun K hK => ?_) AllReadyH.nil
          replace B := (B.past (below_thru (below_thru (hbV2) hbV3) hbV4))
          obtain ⟨B_0, B_1, B_2, B_3, B_4, B_5⟩ := B.e6
          have B_f0 := B.f 0
          have B_f1 := B.f 1
          have B_f2 := B.f 2
          have B_f3 := B.f 3
          have B_f4 := B.f 4
          have B_f5 := B.f 5
          go_simp
          clear B_0 B_1 B_2 B_3 B_4 B_5 B_f0 B_f1 B_f2 B_f3 B_f4 B_f5
          refine hK.out _ _ ⟨((A.past (below_thru (below_thru (below_thru (below_thru (hbV0) hbV1) hbV2) hbV3) hbV4)).only (only6 _ _ _ _ _ _ _ _) (by omega)).e6, ((X0.past (below_thru (below_thru (below_thru (below_thru (hbV0) hbV1) hbV2) hbV3) hbV4)).only (only6 _ _ _ _ _ _ _ _) (by omega)).e3⟩ (fun _ => ?_)
          refine anyH_put6 B (fun V5 hOV5 B => ?_)
          have hzV5 := Nat.le_of_eq hOV5.size
          have hyV5 := Nat.le_of_eq hOV5.size.symm
          clear hK K
          try simp only [List.getElem_toArray, List.getElem_cons_succ, List.getElem_cons_zero, Act.put, List.setIfInBounds_toArray, List.set_cons_zero, List.set_cons_succ]
          refine wpAnyH_ready (rs := [7]) (by kernel_rfl) (by simp) ?_
          refine AllReadyH.cons rfl (fun K hK => ?_) AllReadyH.nil
          replace P := ((P.past (below_thru (hbV3) hbV4)).only hOV5 (by omega))
          obtain ⟨P_0, P_1, P_2⟩ := P.e3
          have P_f0 := P.f 0
          have P_f1 := P.f 1
          have P_f2 := P.f 2
          go_simp
          clear P_0 P_1 P_2 P_f0 P_f1 P_f2
          refine hK.out _ _ ⟨((A.past ((below_thru (below_thru (below_thru (below_thru (hbV0) hbV1) hbV2) hbV3) hbV4).trans (hOV5.below (by omega)))).only (only3 _ _ _ _ _) (by omega)).e6, ((X0.past ((below_thru (below_thru (below_thru (below_thru (hbV0) hbV1) hbV2) hbV3) hbV4).trans (hOV5.below (by omega)))).only (only3 _ _ _ _ _) (by omega)).e3⟩ (fun _ => ?_)
          refine anyH_put3 P (fun V6 hOV6 P => ?_)
          have hzV6 := Nat.le_of_eq hOV6.size
          have hyV6 := Nat.le_of_eq hOV6.size.symm
          clear hK K
          try simp only [List.getElem_toArray, List.getElem_cons_succ, List.getElem_cons_zero, Act.put, List.setIfInBounds_toArray, List.set_cons_zero, List.set_cons_succ]
          refine wpAnyH_done (by kernel_rfl) ?_ _
          go_wp2_with fail
          go_meet
          exact ⟨V0.heap.size, V1.heap.size, xl, xh, xp, rfl, rfl, HXL.out, HXH.out, HXP.out, (B.only hOV6 (by omega)), P, (((hfl.past (hbV4)).only hOV5 (fun h => by have := ahfl h; have := lhfl h; omega)).only hOV6 (fun h => by have := ahfl h; have := lhfl h; omega)).mono (by omega), (((hfh.past (hbV4)).only hOV5 (fun h => by have := ahfh h; have := lhfh h; omega)).only hOV6 (fun h => by have := ahfh h; have := lhfh h; omega)).mono (by omega), ((hfp.only hOV5 (fun h => by have := ahfp h; have := lhfp h; omega)).only hOV6 (fun h => by have := ahfp h; have := lhfp h; omega)).mono (by omega), (((below_thru (below_thru (below_thru (below_thru (hbV0) hbV1) hbV2) hbV3) hbV4).trans (hOV5.below (by omega))).trans (hOV6.below (by omega)))⟩
        refine AllReadyH.cons rfl (fun K hK => ?_) AllReadyH.nil
        go_simp
        refine hK.out _ _ ⟨((A.past (hbV0)).laid _).e6, ((X0.past (hbV0)).laid _).e3⟩ (fun _ => ?_)
        refine anyH_lay (fun V1 hbV1 hzV1 P => ?_)
        clear hK K
        try simp only [List.getElem_toArray, List.getElem_cons_succ, List.getElem_cons_zero, Act.put, List.setIfInBounds_toArray, List.set_cons_zero, List.set_cons_succ]
        refine wpAnyH_ready (rs := [1, 4]) (by kernel_rfl) (by simp) ?_
        refine AllReadyH.cons rfl (fun K hK => ?_) ?_
        · skip
          go_simp
          go_at_call 19; ((with_reducible refine ((HOA _ (ha.past (below_thru (hbV0) hbV1)) (hb.past (below_thru (hbV0) hbV1))).out).mono ?_)); rintro exV2 V2 ⟨xl, xh, hxl, hxh, rfl, hfl, hfh, hbV2⟩
          have HXL := Lib.hid hxl
          have HXH := Lib.hid hxh
          clear hxl hxh
          have ahfl := hfl.at_
          have lhfl := hfl.lt
          have ahfh := hfh.at_
          have lhfh := hfh.lt
          have hzV2 := hbV2.size
          refine hK.out _ _ ⟨(A.past (below_thru (below_thru (hbV0) hbV1) hbV2)).e6, (X0.past (below_thru (below_thru (hbV0) hbV1) hbV2)).e3⟩ (fun _ => ?_)
          clear hK K
          try simp only [List.getElem_toArray, List.getElem_cons_succ, List.getElem_cons_zero, Act.put, List.setIfInBounds_toArray, List.set_cons_zero, List.set_cons_succ]
          refine wpAnyH_ready (rs := [3, 4]) (by kernel_rfl) (by simp) ?_
          refine AllReadyH.cons rfl (fun K hK => ?_) ?_
          · skip
            go_simp
            go_at_call 27; ((with_reducible refine ((HOX _ (hx.past (below_thru (below_thru (hbV0) hbV1) hbV2))).out).mono ?_)); rintro exV3 V3 ⟨xp, hxp, rfl, hfp, hbV3⟩
            have HXP := Lib.hid hxp
            clear hxp
            have ahfp := hfp.at_
            have lhfp := hfp.lt
            have hzV3 := hbV3.size
            refine hK.out _ _ ⟨(A.past (below_thru (below_thru (below_thru (hbV0) hbV1) hbV2) hbV3)).e6, (X0.past (below_thru (below_thru (below_thru (hbV0) hbV1) hbV2) hbV3)).e3⟩ (fun _ => ?_)
            clear hK K
            try simp only [List.getElem_toArray, List.getElem_cons_succ, List.getElem_cons_zero, Act.put, List.setIfInBounds_toArray, List.set_cons_zero, List.set_cons_succ]
            refine wpAnyH_ready (rs := [4]) (by kernel_rfl) (by simp) ?_
            refine AllReadyH.cons rfl (fun K hK => ?_) AllReadyH.nil
            go_simp
            refine hK.out _ _ ⟨((A.past (below_thru (below_thru (below_thru (hbV0) hbV1) hbV2) hbV3)).laid _).e6, ((X0.past (below_thru (below_thru (below_thru (hbV0) hbV1) hbV2) hbV3)).laid _).e3⟩ (fun _ => ?_)
            refine anyH_lay (fun V4 hbV4 hzV4 B => ?_)
            clear hK K
            try simp only [List.getElem_toArray, List.getElem_cons_succ, List.getElem_cons_zero, Act.put, List.setIfInBounds_toArray, List.set_cons_zero, List.set_cons_succ]
            refine wpAnyH_ready (rs := [6]) (by kernel_rfl) (by simp) ?_
            refine AllReadyH.cons rfl (fun K hK => ?_) AllReadyH.nil
            obtain ⟨B_0, B_1, B_2, B_3, B_4, B_5⟩ := B.e6
            have B_f0 := B.f 0
            have B_f1 := B.f 1
            have B_f2 := B.f 2
            have B_f3 := B.f 3
            have B_f4 := B.f 4
            have B_f5 := B.f 5
            go_simp
            clear B_0 B_1 B_2 B_3 B_4 B_5 B_f0 B_f1 B_f2 B_f3 B_f4 B_f5
            refine hK.out _ _ ⟨((A.past (below_thru (below_thru (below_thru (below_thru (hbV0) hbV1) hbV2) hbV3) hbV4)).only (only6 _ _ _ _ _ _ _ _) (by omega)).e6, ((X0.past (below_thru (below_thru (below_thru (below_thru (hbV0) hbV1) hbV2) hbV3) hbV4)).only (only6 _ _ _ _ _ _ _ _) (by omega)).e3⟩ (fun _ => ?_)
            refine anyH_put6 B (fun V5 hOV5 B => ?_)
            have hzV5 := Nat.le_of_eq hOV5.size
            have hyV5 := Nat.le_of_eq hOV5.size.symm
            clear hK K
            try simp only [List.getElem_toArray, List.getElem_cons_succ, List.getElem_cons_zero, Act.put, List.setIfInBounds_toArray, List.set_cons_zero, List.set_cons_succ]
            refine wpAnyH_ready (rs := [7]) (by kernel_rfl) (by simp) ?_
            refine AllReadyH.cons rfl (fun K hK => ?_) AllReadyH.nil
            replace P := (P.past ((below_thru (below_thru (hbV2) hbV3) hbV4).trans (hOV5.below (by omega))))
            obtain ⟨P_0, P_1, P_2⟩ := P.e3
            have P_f0 := P.f 0
            have P_f1 := P.f 1
            have P_f2 := P.f 2
            go_simp
            clear P_0 P_1 P_2 P_f0 P_f1 P_f2
            refine hK.out _ _ ⟨((A.past ((below_thru (below_thru (below_thru (below_thru (hbV0) hbV1) hbV2) hbV3) hbV4).trans (hOV5.below (by omega)))).only (only3 _ _ _ _ _) (by omega)).e6, ((X0.past ((below_thru (below_thru (below_thru (below_thru (hbV0) hbV1) hbV2) hbV3) hbV4).trans (hOV5.below (by omega)))).only (only3 _ _ _ _ _) (by omega)).e3⟩ (fun _ => ?_)
            refine anyH_put3 P (fun V6 hOV6 P => ?_)
            have hzV6 := Nat.le_of_eq hOV6.size
            have hyV6 := Nat.le_of_eq hOV6.size.symm
            clear hK K
            try simp only [List.getElem_toArray, List.getElem_cons_succ, List.getElem_cons_zero, Act.put, List.setIfInBounds_toArray, List.set_cons_zero, List.set_cons_succ]
            refine wpAnyH_done (by kernel_rfl) ?_ _
            go_wp2_with fail
            go_meet
            exact ⟨V3.heap.size, V0.heap.size, xl, xh, xp, rfl, rfl, HXL.out, HXH.out, HXP.out, (B.only hOV6 (by omega)), P, ((hfl.past ((below_thru (hbV3) hbV4).trans (hOV5.below (by omega)))).only hOV6 (fun h => by have := ahfl h; have := lhfl h; omega)).mono (by omega), ((hfh.past ((below_thru (hbV3) hbV4).trans (hOV5.below (by omega)))).only hOV6 (fun h => by have := ahfh h; have := lhfh h; omega)).mono (by omega), ((hfp.past ((hbV4).trans (hOV5.below (by omega)))).only hOV6 (fun h => by have := ahfp h; have := lhfp h; omega)).mono (by omega), (((below_thru (below_thru (below_thru (below_thru (hbV0) hbV1) hbV2) hbV3) hbV4).trans (hOV5.below (by omega))).trans (hOV6.below (by omega)))⟩
          refine AllReadyH.cons rfl (fun K hK => ?_) AllReadyH.nil
          go_simp
          refine hK.out _ _ ⟨((A.past (below_thru (below_thru (hbV0) hbV1) hbV2)).laid _).e6, ((X0.past (below_thru (below_thru (hbV0) hbV1) hbV2)).laid _).e3⟩ (fun _ => ?_)
          refine anyH_lay (fun V3 hbV3 hzV3 B => ?_)
          clear hK K
          try simp only [List.getElem_toArray, List.getElem_cons_succ, List.getElem_cons_zero, Act.put, List.setIfInBounds_toArray, List.set_cons_zero, List.set_cons_succ]
          refine wpAnyH_ready (rs := [3]) (by kernel_rfl) (by simp) ?_
          refine AllReadyH.cons rfl (fun K hK => ?_) AllReadyH.nil
          go_simp
          go_at_call 27; ((with_reducible refine ((HOX _ (hx.past (below_thru (below_thru (below_thru (hbV0) hbV1) hbV2) hbV3))).out).mono ?_)); rintro exV4 V4 ⟨xp, hxp, rfl, hfp, hbV4⟩
          have HXP := Lib.hid hxp
          clear hxp
          have ahfp := hfp.at_
          have lhfp := hfp.lt
          have hzV4 := hbV4.size
          refine hK.out _ _ ⟨(A.past (below_thru (below_thru (below_thru (below_thru (hbV0) hbV1) hbV2) hbV3) hbV4)).e6, (X0.past (below_thru (below_thru (below_thru (below_thru (hbV0) hbV1) hbV2) hbV3) hbV4)).e3⟩ (fun _ => ?_)
          clear hK K
          try simp only [List.getElem_toArray, List.getElem_cons_succ, List.getElem_cons_zero, Act.put, List.setIfInBounds_toArray, List.set_cons_zero, List.set_cons_succ]
          refine wpAnyH_ready (rs := [6]) (by kernel_rfl) (by simp) ?_
          refine AllReadyH.cons rfl (fun K hK => ?_) AllReadyH.nil
          replace B := (B.past (hbV4))
          obtain ⟨B_0, B_1, B_2, B_3, B_4, B_5⟩ := B.e6
          have B_f0 := B.f 0
          have B_f1 := B.f 1
          have B_f2 := B.f 2
          have B_f3 := B.f 3
          have B_f4 := B.f 4
          have B_f5 := B.f 5
          go_simp
          clear B_0 B_1 B_2 B_3 B_4 B_5 B_f0 B_f1 B_f2 B_f3 B_f4 B_f5
          refine hK.out _ _ ⟨((A.past (below_thru (below_thru (below_thru (below_thru (hbV0) hbV1) hbV2) hbV3) hbV4)).only (only6 _ _ _ _ _ _ _ _) (by omega)).e6, ((X0.past (below_thru (below_thru (below_thru (below_thru (hbV0) hbV1) hbV2) hbV3) hbV4)).only (only6 _ _ _ _ _ _ _ _) (by omega)).e3⟩ (fun _ => ?_)
          refine anyH_put6 B (fun V5 hOV5 B => ?_)
          have hzV5 := Nat.le_of_eq hOV5.size
          have hyV5 := Nat.le_of_eq hOV5.size.symm
          clear hK K
          try simp only [List.getElem_toArray, List.getElem_cons_succ, List.getElem_cons_zero, Act.put, List.setIfInBounds_toArray, List.set_cons_zero, List.set_cons_succ]
          refine wpAnyH_ready (rs := [7]) (by kernel_rfl) (by simp) ?_
          refine AllReadyH.cons rfl (fun K hK => ?_) AllReadyH.nil
          replace P := (P.past ((below_thru (below_thru (hbV2) hbV3) hbV4).trans (hOV5.below (by omega))))
          obtain ⟨P_0, P_1, P_2⟩ := P.e3
          have P_f0 := P.f 0
          have P_f1 := P.f 1
          have P_f2 := P.f 2
          go_simp
          clear P_0 P_1 P_2 P_f0 P_f1 P_f2
          refine hK.out _ _ ⟨((A.past ((below_thru (below_thru (below_thru (below_thru (hbV0) hbV1) hbV2) hbV3) hbV4).trans (hOV5.below (by omega)))).only (only3 _ _ _ _ _) (by omega)).e6, ((X0.past ((below_thru (below_thru (below_thru (below_thru (hbV0) hbV1) hbV2) hbV3) hbV4).trans (hOV5.below (by omega)))).only (only3 _ _ _ _ _) (by omega)).e3⟩ (fun _ => ?_)
          refine anyH_put3 P (fun V6 hOV6 P => ?_)
          have hzV6 := Nat.le_of_eq hOV6.size
          have hyV6 := Nat.le_of_eq hOV6.size.symm
          clear hK K
          try simp only [List.getElem_toArray, List.getElem_cons_succ, List.getElem_cons_zero, Act.put, List.setIfInBounds_toArray, List.set_cons_zero, List.set_cons_succ]
          refine wpAnyH_done (by kernel_rfl) ?_ _
          go_wp2_with fail
          go_meet
          exact ⟨V2.heap.size, V0.heap.size, xl, xh, xp, rfl, rfl, HXL.out, HXH.out, HXP.out, (B.only hOV6 (by omega)), P, ((hfl.past ((below_thru (hbV3) hbV4).trans (hOV5.below (by omega)))).only hOV6 (fun h => by have := ahfl h; have := lhfl h; omega)).mono (by omega), ((hfh.past ((below_thru (hbV3) hbV4).trans (hOV5.below (by omega)))).only hOV6 (fun h => by have := ahfh h; have := lhfh h; omega)).mono (by omega), ((hfp.only hOV5 (fun h => by have := ahfp h; have := lhfp h; omega)).only hOV6 (fun h => by have := ahfp h; have := lhfp h; omega)).mono (by omega), (((below_thru (below_thru (below_thru (below_thru (hbV0) hbV1) hbV2) hbV3) hbV4).trans (hOV5.below (by omega))).trans (hOV6.below (by omega)))⟩
        refine AllReadyH.cons rfl (fun K hK => ?_) AllReadyH.nil
        go_simp
        refine hK.out _ _ ⟨((A.past (below_thru (hbV0) hbV1)).laid _).e6, ((X0.past (below_thru (hbV0) hbV1)).laid _).e3⟩ (fun _ => ?_)
        refine anyH_lay (fun V2 hbV2 hzV2 B => ?_)
        clear hK K
        try simp only [List.getElem_toArray, List.getElem_cons_succ, List.getElem_cons_zero, Act.put, List.setIfInBounds_toArray, List.set_cons_zero, List.set_cons_succ]
        refine wpAnyH_ready (rs := [1]) (by kernel_rfl) (by simp) ?_
        refine AllReadyH.cons rfl (fun K hK => ?_) AllReadyH.nil
        go_simp
        go_at_call 19; ((with_reducible refine ((HOA _ (ha.past (below_thru (below_thru (hbV0) hbV1) hbV2)) (hb.past (below_thru (below_thru (hbV0) hbV1) hbV2))).out).mono ?_)); rintro exV3 V3 ⟨xl, xh, hxl, hxh, rfl, hfl, hfh, hbV3⟩
        have HXL := Lib.hid hxl
        have HXH := Lib.hid hxh
        clear hxl hxh
        have ahfl := hfl.at_
        have lhfl := hfl.lt
        have ahfh := hfh.at_
        have lhfh := hfh.lt
        have hzV3 := hbV3.size
        refine hK.out _ _ ⟨(A.past (below_thru (below_thru (below_thru (hbV0) hbV1) hbV2) hbV3)).e6, (X0.past (below_thru (below_thru (below_thru (hbV0) hbV1) hbV2) hbV3)).e3⟩ (fun _ => ?_)
        clear hK K
        try simp only [List.getElem_toArray, List.getElem_cons_succ, List.getElem_cons_zero, Act.put, List.setIfInBounds_toArray, List.set_cons_zero, List.set_cons_succ]
        refine wpAnyH_ready (rs := [3]) (by kernel_rfl) (by simp) ?_
        refine AllReadyH.cons rfl (fun K hK => ?_) AllReadyH.nil
        go_simp
        go_at_call 27; ((with_reducible refine ((HOX _ (hx.past (below_thru (below_thru (below_thru (hbV0) hbV1) hbV2) hbV3))).out).mono ?_)); rintro exV4 V4 ⟨xp, hxp, rfl, hfp, hbV4⟩
        have HXP := Lib.hid hxp
        clear hxp
        have ahfp := hfp.at_
        have lhfp := hfp.lt
        have hzV4 := hbV4.size
        refine hK.out _ _ ⟨(A.past (below_thru (below_thru (below_thru (below_thru (hbV0) hbV1) hbV2) hbV3) hbV4)).e6, (X0.past (below_thru (below_thru (below_thru (below_thru (hbV0) hbV1) hbV2) hbV3) hbV4)).e3⟩ (fun _ => ?_)
        clear hK K
        try simp only [List.getElem_toArray, List.getElem_cons_succ, List.getElem_cons_zero, Act.put, List.setIfInBounds_toArray, List.set_cons_zero, List.set_cons_succ]
        refine wpAnyH_ready (rs := [6]) (by kernel_rfl) (by simp) ?_
        refine AllReadyH.cons rfl (fun K hK => ?_) AllReadyH.nil
        replace B := (B.past (below_thru (hbV3) hbV4))
        obtain ⟨B_0, B_1, B_2, B_3, B_4, B_5⟩ := B.e6
        have B_f0 := B.f 0
        have B_f1 := B.f 1
        have B_f2 := B.f 2
        have B_f3 := B.f 3
        have B_f4 := B.f 4
        have B_f5 := B.f 5
        go_simp
        clear B_0 B_1 B_2 B_3 B_4 B_5 B_f0 B_f1 B_f2 B_f3 B_f4 B_f5
        refine hK.out _ _ ⟨((A.past (below_thru (below_thru (below_thru (below_thru (hbV0) hbV1) hbV2) hbV3) hbV4)).only (only6 _ _ _ _ _ _ _ _) (by omega)).e6, ((X0.past (below_thru (below_thru (below_thru (below_thru (hbV0) hbV1) hbV2) hbV3) hbV4)).only (only6 _ _ _ _ _ _ _ _) (by omega)).e3⟩ (fun _ => ?_)
        refine anyH_put6 B (fun V5 hOV5 B => ?_)
        have hzV5 := Nat.le_of_eq hOV5.size
        have hyV5 := Nat.le_of_eq hOV5.size.symm
        clear hK K
        try simp only [List.getElem_toArray, List.getElem_cons_succ, List.getElem_cons_zero, Act.put, List.setIfInBounds_toArray, List.set_cons_zero, List.set_cons_succ]
        refine wpAnyH_ready (rs := [7]) (by kernel_rfl) (by simp) ?_
        refine AllReadyH.cons rfl (fun K hK => ?_) AllReadyH.nil
        replace P := (P.past ((below_thru (below_thru (hbV2) hbV3) hbV4).trans (hOV5.below (by omega))))
        obtain ⟨P_0, P_1, P_2⟩ := P.e3
        have P_f0 := P.f 0
        have P_f1 := P.f 1
        have P_f2 := P.f 2
        go_simp
        clear P_0 P_1 P_2 P_f0 P_f1 P_f2
        refine hK.out _ _ ⟨((A.past ((below_thru (below_thru (below_thru (below_thru (hbV0) hbV1) hbV2) hbV3) hbV4).trans (hOV5.below (by omega)))).only (only3 _ _ _ _ _) (by omega)).e6, ((X0.past ((below_thru (below_thru (below_thru (below_thru (hbV0) hbV1) hbV2) hbV3) hbV4).trans (hOV5.below (by omega)))).only (only3 _ _ _ _ _) (by omega)).e3⟩ (fun _ => ?_)
        refine anyH_put3 P (fun V6 hOV6 P => ?_)
        have hzV6 := Nat.le_of_eq hOV6.size
        have hyV6 := Nat.le_of_eq hOV6.size.symm
        clear hK K
        try simp only [List.getElem_toArray, List.getElem_cons_succ, List.getElem_cons_zero, Act.put, List.setIfInBounds_toArray, List.set_cons_zero, List.set_cons_succ]
        refine wpAnyH_done (by kernel_rfl) ?_ _
        go_wp2_with fail
        go_meet
        exact ⟨V1.heap.size, V0.heap.size, xl, xh, xp, rfl, rfl, HXL.out, HXH.out, HXP.out, (B.only hOV6 (by omega)), P, (((hfl.past (hbV4)).only hOV5 (fun h => by have := ahfl h; have := lhfl h; omega)).only hOV6 (fun h => by have := ahfl h; have := lhfl h; omega)).mono (by omega), (((hfh.past (hbV4)).only hOV5 (fun h => by have := ahfh h; have := lhfh h; omega)).only hOV6 (fun h => by have := ahfh h; have := lhfh h; omega)).mono (by omega), ((hfp.only hOV5 (fun h => by have := ahfp h; have := lhfp h; omega)).only hOV6 (fun h => by have := ahfp h; have := lhfp h; omega)).mono (by omega), (((below_thru (below_thru (below_thru (below_thru (hbV0) hbV1) hbV2) hbV3) hbV4).trans (hOV5.below (by omega))).trans (hOV6.below (by omega)))⟩
      case rest =>
        obtain ⟨kb, kp, xl, xh, xp, rfl, rfl, hxl, hxh, hxp, B, P, fxl, fxh, fxp, hb5⟩ := hcut
        have HXL := Lib.hid hxl
        have HXH := Lib.hid hxh
        have HXP := Lib.hid hxp
        clear hxl hxh hxp
        replace A := A.past hb5
        replace X0 := X0.past hb5
        replace ha := ha.past hb5
        replace hb := hb.past hb5
        replace hx := hx.past hb5
        replace hT := hT.past hb5
        have hs5 := hs4.trans (hb5.mono hs4.size)
        clear A X0 ha hb hx HOA HOX HX
        have C1 := fun W k1 k2 => Lib.hid (show Calls _ _ _ W fun en w' => en = .returned (.int .i64 (rCmp va vx)) ∧ Below W.heap.size W w' by have h := dcmpF_any xl xp w4.heap.size w4.heap.size W k1 k2; rw [HXL.out, HXP.out] at h; exact h)
        have C2 := fun W k1 k2 => Lib.hid (show Calls _ _ _ W fun en w' => en = .returned (.int .i64 (rCmp vx vb)) ∧ Below W.heap.size W w' by have h := dcmpF_any xp xh w4.heap.size w4.heap.size W k1 k2; rw [HXH.out, HXP.out] at h; exact h)
        generalize rCmp va vx = c1 at *
        generalize rCmp vx vb = c2 at *
        by_cases g1 : c1 ≤ 0
        · have t5 : decide (c1 ≤ 0) = true := decide_eq_true g1
          rw [t5, Bool.true_and] at HV
          have tw : (hv == decide (c2 ≤ 0)) = true := by rw [HV.out]; simp
          obtain ⟨B_0, B_1, B_2, B_3, B_4, B_5⟩ := B.e6
          obtain ⟨P_0, P_1, P_2⟩ := P.e3
          go_wp2_with fail
          clear B_0 B_1 B_2 B_3 B_4 B_5 P_0 P_1 P_2
          ((with_reducible refine ((C1 _ fxl fxp).out).mono ?_))
          rintro e6 w6 ⟨rfl, hb6⟩
          replace B := B.past hb6
          replace P := P.past hb6
          replace hT := hT.past hb6
          replace fxl := fxl.past hb6
          replace fxh := fxh.past hb6
          replace fxp := fxp.past hb6
          have hs6 := hs5.trans (hb6.mono hs5.size)
          obtain ⟨B_0, B_1, B_2, B_3, B_4, B_5⟩ := B.e6
          obtain ⟨P_0, P_1, P_2⟩ := P.e3
          go_wp2_with fail
          clear B_0 B_1 B_2 B_3 B_4 B_5 P_0 P_1 P_2
          ((with_reducible refine ((C2 _ fxp fxh).out).mono ?_))
          rintro e7 w7 ⟨rfl, hb7⟩
          replace B := B.past hb7
          replace P := P.past hb7
          replace hT := hT.past hb7
          replace fxl := fxl.past hb7
          replace fxh := fxh.past hb7
          replace fxp := fxp.past hb7
          have hs7 := hs6.trans (hb7.mono hs6.size)
          go_wp2_with fail
          ((with_reducible refine (ballBegun_any _ hT).mono ?_))
          rintro e20 w20 ⟨rfl, hb20⟩
          replace B := B.past hb20
          replace P := P.past hb20
          replace hT := hT.past hb20
          replace fxl := fxl.past hb20
          replace fxh := fxh.past hb20
          replace fxp := fxp.past hb20
          have hs20 := hs7.trans (hb20.mono hs7.size)
          go_wp2
          go_ret
          exact ⟨rfl, hs20⟩
        · have t5 : decide (c1 ≤ 0) = false := decide_eq_false g1
          rw [t5, Bool.false_and] at HV
          have tw : (hv == false) = true := by rw [HV.out]; rfl
          obtain ⟨B_0, B_1, B_2, B_3, B_4, B_5⟩ := B.e6
          obtain ⟨P_0, P_1, P_2⟩ := P.e3
          go_wp2_with fail
          clear B_0 B_1 B_2 B_3 B_4 B_5 P_0 P_1 P_2
          ((with_reducible refine ((C1 _ fxl fxp).out).mono ?_))
          rintro e6 w6 ⟨rfl, hb6⟩
          replace B := B.past hb6
          replace P := P.past hb6
          replace hT := hT.past hb6
          replace fxl := fxl.past hb6
          replace fxh := fxh.past hb6
          replace fxp := fxp.past hb6
          have hs6 := hs5.trans (hb6.mono hs5.size)
          go_wp2_with fail
          ((with_reducible refine (ballBegun_any _ hT).mono ?_))
          rintro e20 w20 ⟨rfl, hb20⟩
          replace B := B.past hb20
          replace P := P.past hb20
          replace hT := hT.past hb20
          replace fxl := fxl.past hb20
          replace fxh := fxh.past hb20
          replace fxp := fxp.past hb20
          have hs20 := hs6.trans (hb20.mono hs6.size)
          go_wp2
          go_ret
          exact ⟨rfl, hs20⟩
    · have HV := Lib.hid (HV.out.trans (if_neg (by rw [HEP.out]; exact h1)))
      have t2 : (errDy x == 0) = false := beq_eq_false_iff_ne.2 h1
      have t3 : (errDy x == errDy x) = true := by simp
      rw [HEP.out, HV.out] at HP
      clear h0 h1 HV HEP
      generalize errBall a b = eb at *
      generalize errDy x = ex at *
      go_enter Tryd.func6, Tryd.ntmps6
      go_upto_region 1 with (fail)
      refine wp_lay2 (fun W1 hb1 hz1 A X0 => ?_)
      replace ha := ha.past hb1
      replace hb := hb.past hb1
      replace hx := hx.past hb1
      replace hT := hT.past hb1
      have hs1 := hb1
      obtain ⟨A_0, A_1, A_2, A_3, A_4, A_5⟩ := A.e6
      obtain ⟨X0_0, X0_1, X0_2⟩ := X0.e3
      go_wp2_with fail
      clear A_0 A_1 A_2 A_3 A_4 A_5 X0_0 X0_1 X0_2
      ((with_reducible refine ((HP _ ha hb hx hT).out).mono ?_))
      rintro e2 w2 ⟨rfl, hb2⟩
      replace A := A.past hb2
      replace X0 := X0.past hb2
      replace ha := ha.past hb2
      replace hb := hb.past hb2
      replace hx := hx.past hb2
      replace hT := hT.past hb2
      have hs2 := hs1.trans (hb2.mono hs1.size)
      obtain ⟨A_0, A_1, A_2, A_3, A_4, A_5⟩ := A.e6
      go_wp2_with fail
      clear A_0 A_1 A_2 A_3 A_4 A_5
      ((with_reducible refine ((HC _ ha hb).out).mono ?_))
      rintro e3 w3 ⟨rfl, hb3⟩
      replace A := A.past hb3
      replace X0 := X0.past hb3
      replace ha := ha.past hb3
      replace hb := hb.past hb3
      replace hx := hx.past hb3
      replace hT := hT.past hb3
      have hs3 := hs2.trans (hb3.mono hs2.size)
      obtain ⟨X0_0, X0_1, X0_2⟩ := X0.e3
      go_wp2_with fail
      clear X0_0 X0_1 X0_2
      ((with_reducible refine ((HX _ hx.rd).out).mono ?_))
      rintro e4 w4 ⟨rfl, hb4⟩
      replace A := A.past hb4
      replace X0 := X0.past hb4
      replace ha := ha.past hb4
      replace hb := hb.past hb4
      replace hx := hx.past hb4
      replace hT := hT.past hb4
      have hs4 := hs3.trans (hb4.mono hs3.size)
      go_wp2_with fail
      ((with_reducible refine (ballBegun_any _ hT).mono ?_))
      rintro e20 w20 ⟨rfl, hb20⟩
      replace A := A.past hb20
      replace X0 := X0.past hb20
      replace ha := ha.past hb20
      replace hb := hb.past hb20
      replace hx := hx.past hb20
      replace hT := hT.past hb20
      have hs20 := hs4.trans (hb20.mono hs4.size)
      go_wp2
      go_ret
      exact ⟨rfl, hs20⟩
  · have HEN := Lib.hid (HE.out.trans (if_neg h0))
    clear HE
    have HV := Lib.hid (HV.out.trans (if_neg (by rw [HEN.out]; exact h0)))
    have t1 : (errBall a b == 0) = false := beq_eq_false_iff_ne.2 h0
    have t3 : (errBall a b == errBall a b) = true := by simp
    rw [HEN.out, HV.out] at HP
    clear h0 HV HEN HX
    generalize errBall a b = eb at *
    go_enter Tryd.func6, Tryd.ntmps6
    go_upto_region 1 with (fail)
    refine wp_lay2 (fun W1 hb1 hz1 A X0 => ?_)
    replace ha := ha.past hb1
    replace hb := hb.past hb1
    replace hx := hx.past hb1
    replace hT := hT.past hb1
    have hs1 := hb1
    obtain ⟨A_0, A_1, A_2, A_3, A_4, A_5⟩ := A.e6
    obtain ⟨X0_0, X0_1, X0_2⟩ := X0.e3
    go_wp2_with fail
    clear A_0 A_1 A_2 A_3 A_4 A_5 X0_0 X0_1 X0_2
    ((with_reducible refine ((HP _ ha hb hx hT).out).mono ?_))
    rintro e2 w2 ⟨rfl, hb2⟩
    replace A := A.past hb2
    replace X0 := X0.past hb2
    replace ha := ha.past hb2
    replace hb := hb.past hb2
    replace hx := hx.past hb2
    replace hT := hT.past hb2
    have hs2 := hs1.trans (hb2.mono hs1.size)
    obtain ⟨A_0, A_1, A_2, A_3, A_4, A_5⟩ := A.e6
    go_wp2_with fail
    clear A_0 A_1 A_2 A_3 A_4 A_5
    ((with_reducible refine ((HC _ ha hb).out).mono ?_))
    rintro e3 w3 ⟨rfl, hb3⟩
    replace A := A.past hb3
    replace X0 := X0.past hb3
    replace ha := ha.past hb3
    replace hb := hb.past hb3
    replace hx := hx.past hb3
    replace hT := hT.past hb3
    have hs3 := hs2.trans (hb3.mono hs2.size)
    go_wp2_with fail
    ((with_reducible refine (ballBegun_any _ hT).mono ?_))
    rintro e20 w20 ⟨rfl, hb20⟩
    replace A := A.past hb20
    replace X0 := X0.past hb20
    replace ha := ha.past hb20
    replace hb := hb.past hb20
    replace hx := hx.past hb20
    replace hT := hT.past hb20
    have hs20 := hs3.trans (hb20.mono hs3.size)
    go_wp2
    go_ret
    exact ⟨rfl, hs20⟩

end Go.Proofs.YtkooikgplpamlaaDoor
