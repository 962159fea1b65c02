/- The law BallDivs: its walk. -/
import Derived.Test.YtkooikgplpamlaaDoorZLawB1
import Derived.Test.YtkooikgplpamlaaDoorZP
namespace Go.Proofs.YtkooikgplpamlaaDoor
open Go.RowKit Go.Slip




set_option maxHeartbeats 8000000 in
set_option maxRecDepth 100000 in
theorem lawBDiv_row (a b a' b' : Din) (n : Int) (w : World) (ha : InD w a) (hb : InD w b) (ha' : InD w a') (hb' : InD w b') (hT : TabW w) :
    Calls Tryd.prog 4 #[.agg #[.bool a.g, .slice a.p a.xs.length a.c, .int .i64 a.e, .bool b.g, .slice b.p b.xs.length b.c, .int .i64 b.e], .agg #[.bool a'.g, .slice a'.p a'.xs.length a'.c, .int .i64 a'.e, .bool b'.g, .slice b'.p b'.xs.length b'.c, .int .i64 b'.e], .int .i64 n] w fun e w' => e = .returned (.bool true) ∧ Below w.heap.size w w' := by
  have HP := fun W k1 k2 k3 k4 k5 => Lib.hid (bDiv_any a b a' b' n W k1 k2 k3 k4 k5)
  have HTW := fun W k1 k2 k3 k4 => Lib.hid (twoBalls_any n a b a' b' W k1 k2 k3 k4)
  by_cases h0 : errC n [(a, b), (a', b')] = 0
  · obtain ⟨k1, k2, k3, k4⟩ := errC_ok2 h0
    obtain ⟨q1, q2, -⟩ := errBall_ok k1
    obtain ⟨q3, q4, q5⟩ := errBall_ok k2
    have HOA := fun W k1 k2 => Lib.hid (refOfBall_any a b W k1 k2 q1 q2)
    have HOB := fun W k1 k2 => Lib.hid (refOfBall_any a' b' W k1 k2 q3 q4)
    have sa := dyV_smD ha q1
    have sb := dyV_smD hb q2
    have sa' := dyV_smD ha' q3
    have sb' := dyV_smD hb' q4
    have Ba := dyV_bare a
    have Bb := dyV_bare b
    have HNE := Lib.hid (fun h => ends_ne (dyV_bare a') (dyV_bare b') q5 h)
    rw [h0] at HTW
    unfold divL divH divE divC at HP
    simp only [h0, if_true] at HP
    clear q1 q2 q3 q4 q5 k1 k2 h0
    generalize dyV a = va at *
    generalize dyV b = vb at *
    generalize dyV a' = va' at *
    generalize dyV b' = vb' at *
    by_cases g : dSign va' ≤ 0 ∧ 0 ≤ dSign vb'
    · rw [if_pos g] at HP
      simp only [show ¬ ((5 : Int) = 0) by omega, if_false] at HP
      obtain ⟨g1, g2⟩ := g
      have t1 : decide (dSign va' ≤ 0) = true := decide_eq_true g1
      have t2 : decide (0 ≤ dSign vb') = true := decide_eq_true g2
      go_enter Tryd.func4, Tryd.ntmps4
      go_upto_region 1 with (fail)
      refine wp_lay2 (fun W1 hb1 hz1 A B => ?_)
      replace ha := ha.past hb1
      replace hb := hb.past hb1
      replace ha' := ha'.past hb1
      replace hb' := hb'.past hb1
      replace hT := hT.past hb1
      have hs1 := hb1
      obtain ⟨A_0, A_1, A_2, A_3, A_4, A_5⟩ := A.e6
      obtain ⟨B_0, B_1, B_2, B_3, B_4, B_5⟩ := B.e6
      go_wp2_with fail
      clear A_0 A_1 A_2 A_3 A_4 A_5 B_0 B_1 B_2 B_3 B_4 B_5
      ((with_reducible refine (HP _ ha hb ha' hb' hT).out.mono ?_))
      rintro e2 w2 ⟨p2, c2, q2, d2, rfl, ho2, hq2, hb2⟩
      simp only [zeroD, dig_zero, List.length_nil] at ho2 hq2 ⊢
      replace A := A.past hb2
      replace B := B.past hb2
      replace ha := ha.past hb2
      replace hb := hb.past hb2
      replace ha' := ha'.past hb2
      replace hb' := hb'.past hb2
      replace hT := hT.past hb2
      have hs2 := hs1.trans (hb2.mono hs1.size)
      go_upto_region 2 with (fail)
      have bho2 := ho2.blk_lt
      have bhq2 := hq2.blk_lt
      refine wp_lay1 (fun W3 hb3 hz3 C => ?_)
      replace A := A.past hb3
      replace B := B.past hb3
      replace ha := ha.past hb3
      replace hb := hb.past hb3
      replace ha' := ha'.past hb3
      replace hb' := hb'.past hb3
      replace hT := hT.past hb3
      replace ho2 := ho2.past hb3
      replace hq2 := hq2.past hb3
      have hs3 := hs2.trans (hb3.mono hs2.size)
      obtain ⟨A_0, A_1, A_2, A_3, A_4, A_5⟩ := A.e6
      obtain ⟨B_0, B_1, B_2, B_3, B_4, B_5⟩ := B.e6
      go_wp2_with fail
      clear A_0 A_1 A_2 A_3 A_4 A_5 B_0 B_1 B_2 B_3 B_4 B_5
      ((with_reducible refine ((HTW _ ha hb ha' hb').out).mono ?_))
      rintro e4 w4 ⟨rfl, hb4⟩
      replace A := A.past hb4
      replace B := B.past hb4
      replace C := C.past hb4
      replace ha := ha.past hb4
      replace hb := hb.past hb4
      replace ha' := ha'.past hb4
      replace hb' := hb'.past hb4
      replace hT := hT.past hb4
      replace ho2 := ho2.past hb4
      replace hq2 := hq2.past hb4
      have hs4 := hs3.trans (hb4.mono hs3.size)
      go_upto_region 4 with (fail)
      refine wp_lay2 (fun W5 hb5 hz5 X Y => ?_)
      replace A := A.past hb5
      replace B := B.past hb5
      replace C := C.past hb5
      replace ha := ha.past hb5
      replace hb := hb.past hb5
      replace ha' := ha'.past hb5
      replace hb' := hb'.past hb5
      replace hT := hT.past hb5
      replace ho2 := ho2.past hb5
      replace hq2 := hq2.past hb5
      have hs5 := hs4.trans (hb5.mono hs4.size)
      go_upto_region 5 with (fail)
      have hz1 := hs1.size
      have hz2 := hb2.size
      have hz3 := hb3.size
      have hz4 := hb4.size
      have hz5 := hb5.size
      have hXl := X.lt
      obtain ⟨V0, hV0⟩ : ∃ V0, V0 = (W5).drew := ⟨_, rfl⟩
      have hbV0 : Below (W5).heap.size (W5) V0 := by rw [hV0]; exact (Below.refl _ _).drew
      have hzV0 := hbV0.size
      refine wp_region_held_drew (S := fun w' => (w'.cell? ⟨w.heap.size, 0, none⟩ = some (.bool a.g) ∧ w'.cell? ⟨w.heap.size, 1, none⟩ = some (.slice a.p a.xs.length a.c) ∧ w'.cell? ⟨w.heap.size, 2, none⟩ = some (.int .i64 a.e) ∧ w'.cell? ⟨w.heap.size, 3, none⟩ = some (.bool b.g) ∧ w'.cell? ⟨w.heap.size, 4, none⟩ = some (.slice b.p b.xs.length b.c) ∧ w'.cell? ⟨w.heap.size, 5, none⟩ = some (.int .i64 b.e)) ∧ (w'.cell? ⟨w.heap.size + 1, 0, none⟩ = some (.bool a'.g) ∧ w'.cell? ⟨w.heap.size + 1, 1, none⟩ = some (.slice a'.p a'.xs.length a'.c) ∧ w'.cell? ⟨w.heap.size + 1, 2, none⟩ = some (.int .i64 a'.e) ∧ w'.cell? ⟨w.heap.size + 1, 3, none⟩ = some (.bool b'.g) ∧ w'.cell? ⟨w.heap.size + 1, 4, none⟩ = some (.slice b'.p b'.xs.length b'.c) ∧ w'.cell? ⟨w.heap.size + 1, 5, none⟩ = some (.int .i64 b'.e))) (by kernel_rfl) (by rw [← hV0]; exact ⟨(A.past (hbV0)).e6, (B.past (hbV0)).e6⟩) (fun hHeld => ?_)
      clear hHeld
      rw [← hV0]
      clear hV0
      refine wpAnyH_take (i := 0) (v := .agg #[.bool a.g, .slice a.p a.xs.length a.c, .int .i64 a.e, .bool b.g, .slice b.p b.xs.length b.c, .int .i64 b.e]) rfl (by kernel_rfl) (by kernel_rfl) (by kernel_rfl) (fun _ _ _ h => h) (.inl ⟨by rfl, fun w' hSw => ?_⟩) ⟨(A.past (hbV0)).e6, (B.past (hbV0)).e6⟩ ?_
      · (try dsimp only at hSw)
        first | (go_simp; done) | (go_simp; with_reducible rfl)
      try simp only [List.getElem_toArray, List.getElem_cons_zero, Act.put, List.setIfInBounds_toArray, List.set_cons_zero, List.set_cons_succ]
      refine wpAnyH_take (i := 2) (v := .agg #[.bool a'.g, .slice a'.p a'.xs.length a'.c, .int .i64 a'.e, .bool b'.g, .slice b'.p b'.xs.length b'.c, .int .i64 b'.e]) rfl (by kernel_rfl) (by kernel_rfl) (by kernel_rfl) (fun _ _ _ h => h) (.inl ⟨by rfl, fun w' hSw => ?_⟩) ⟨(A.past (hbV0)).e6, (B.past (hbV0)).e6⟩ ?_
      · (try dsimp only at hSw)
        first | (go_simp; done) | (go_simp; with_reducible rfl)
      try simp only [List.getElem_toArray, List.getElem_cons_succ, List.getElem_cons_zero, Act.put, List.setIfInBounds_toArray, List.set_cons_zero, List.set_cons_succ]
      refine wpAnyH_ready (rs := [1]) (by kernel_rfl) (by simp) ?_
      refine AllReadyH.cons rfl (fun K hK => ?_) AllReadyH.nil
      go_simp
      go_at_call 19; ((with_reducible refine ((HOA _ (ha.past (hbV0)) (hb.past (hbV0))).out).mono ?_)); rintro exV1 V1 ⟨xl, xh, hxl, hxh, rfl, fxl, fxh, hbV1⟩
      have HXL := Lib.hid hxl
      have HXH := Lib.hid hxh
      clear hxl hxh
      have afxl := fxl.at_
      have lfxl := fxl.lt
      have afxh := fxh.at_
      have lfxh := fxh.lt
      have hzV1 := hbV1.size
      refine hK.out _ _ ⟨(A.past (below_thru (hbV0) hbV1)).e6, (B.past (below_thru (hbV0) hbV1)).e6⟩ (fun _ => ?_)
      clear hK K
      try simp only [List.getElem_toArray, List.getElem_cons_succ, List.getElem_cons_zero, Act.put, List.setIfInBounds_toArray, List.set_cons_zero, List.set_cons_succ]
      refine wpAnyH_ready (rs := [3]) (by kernel_rfl) (by simp) ?_
      refine AllReadyH.cons rfl (fun K hK => ?_) AllReadyH.nil
      go_simp
      go_at_call 19; ((with_reducible refine ((HOB _ (ha'.past (below_thru (hbV0) hbV1)) (hb'.past (below_thru (hbV0) hbV1))).out).mono ?_)); rintro exV2 V2 ⟨yl, yh, hyl, hyh, rfl, fyl, fyh, hbV2⟩
      have HYL := Lib.hid hyl
      have HYH := Lib.hid hyh
      clear hyl hyh
      have afyl := fyl.at_
      have lfyl := fyl.lt
      have afyh := fyh.at_
      have lfyh := fyh.lt
      have hzV2 := hbV2.size
      refine hK.out _ _ ⟨(A.past (below_thru (below_thru (hbV0) hbV1) hbV2)).e6, (B.past (below_thru (below_thru (hbV0) hbV1) hbV2)).e6⟩ (fun _ => ?_)
      clear hK K
      try simp only [List.getElem_toArray, List.getElem_cons_succ, List.getElem_cons_zero, Act.put, List.setIfInBounds_toArray, List.set_cons_zero, List.set_cons_succ]
      refine wpAnyH_ready (rs := [4]) (by kernel_rfl) (by simp) ?_
      refine AllReadyH.cons rfl (fun K hK => ?_) AllReadyH.nil
      replace X := (X.past (below_thru (below_thru (hbV0) hbV1) hbV2))
      obtain ⟨X_0, X_1, X_2, X_3, X_4, X_5⟩ := X.e6
      have X_f0 := X.f 0
      have X_f1 := X.f 1
      have X_f2 := X.f 2
      have X_f3 := X.f 3
      have X_f4 := X.f 4
      have X_f5 := X.f 5
      go_simp
      clear X_0 X_1 X_2 X_3 X_4 X_5 X_f0 X_f1 X_f2 X_f3 X_f4 X_f5
      refine hK.out _ _ ⟨((A.past (below_thru (below_thru (hbV0) hbV1) hbV2)).only (only6 _ _ _ _ _ _ _ _) (by omega)).e6, ((B.past (below_thru (below_thru (hbV0) hbV1) hbV2)).only (only6 _ _ _ _ _ _ _ _) (by omega)).e6⟩ (fun _ => ?_)
      refine anyH_put6 X (fun V3 hOV3 X => ?_)
      have hzV3 := Nat.le_of_eq hOV3.size
      have hyV3 := Nat.le_of_eq hOV3.size.symm
      clear hK K
      try simp only [List.getElem_toArray, List.getElem_cons_succ, List.getElem_cons_zero, Act.put, List.setIfInBounds_toArray, List.set_cons_zero, List.set_cons_succ]
      refine wpAnyH_ready (rs := [5]) (by kernel_rfl) (by simp) ?_
      refine AllReadyH.cons rfl (fun K hK => ?_) AllReadyH.nil
      replace Y := ((Y.past (below_thru (below_thru (hbV0) hbV1) hbV2)).only hOV3 (by omega))
      obtain ⟨Y_0, Y_1, Y_2, Y_3, Y_4, Y_5⟩ := Y.e6
      have Y_f0 := Y.f 0
      have Y_f1 := Y.f 1
      have Y_f2 := Y.f 2
      have Y_f3 := Y.f 3
      have Y_f4 := Y.f 4
      have Y_f5 := Y.f 5
      go_simp
      clear Y_0 Y_1 Y_2 Y_3 Y_4 Y_5 Y_f0 Y_f1 Y_f2 Y_f3 Y_f4 Y_f5
      refine hK.out _ _ ⟨(((A.past (below_thru (below_thru (hbV0) hbV1) hbV2)).only hOV3 (by omega)).only (only6 _ _ _ _ _ _ _ _) (by omega)).e6, (((B.past (below_thru (below_thru (hbV0) hbV1) hbV2)).only hOV3 (by omega)).only (only6 _ _ _ _ _ _ _ _) (by omega)).e6⟩ (fun _ => ?_)
      refine anyH_put6 Y (fun V4 hOV4 Y => ?_)
      have hzV4 := Nat.le_of_eq hOV4.size
      have hyV4 := Nat.le_of_eq hOV4.size.symm
      clear hK K
      try simp only [List.getElem_toArray, List.getElem_cons_succ, List.getElem_cons_zero, Act.put, List.setIfInBounds_toArray, List.set_cons_zero, List.set_cons_succ]
      refine wpAnyH_done (by kernel_rfl) ?_ _
      replace X := (X.only hOV4 (by omega))
      replace C := (((C.past (below_thru (below_thru (hbV0) hbV1) hbV2)).only hOV3 (by omega)).only hOV4 (by omega))
      replace hT := (((((hT.past hbV0).past hbV1).past hbV2).below (hOV3.below (Nat.le_refl _)) (by omega)).below (hOV4.below (Nat.le_refl _)) (by omega))
      replace ho2 := (((ho2.past (below_thru (below_thru (hbV0) hbV1) hbV2)).only hOV3 (fun h => by have := bho2 h; omega)).only hOV4 (fun h => by have := bho2 h; omega))
      replace hq2 := (((hq2.past (below_thru (below_thru (hbV0) hbV1) hbV2)).only hOV3 (fun h => by have := bhq2 h; omega)).only hOV4 (fun h => by have := bhq2 h; omega))
      replace hs5 := (((below_thru (below_thru (below_thru hs5 hbV0) hbV1) hbV2).trans (hOV3.below (by omega))).trans (hOV4.below (by omega)))
      replace fxl := (((fxl.past (hbV2)).only hOV3 (fun h => by have := afxl h; have := lfxl h; omega)).only hOV4 (fun h => by have := afxl h; have := lfxl h; omega))
      replace fxh := (((fxh.past (hbV2)).only hOV3 (fun h => by have := afxh h; have := lfxh h; omega)).only hOV4 (fun h => by have := afxh h; have := lfxh h; omega))
      replace fyl := ((fyl.only hOV3 (fun h => by have := afyl h; have := lfyl h; omega)).only hOV4 (fun h => by have := afyl h; have := lfyl h; omega))
      replace fyh := ((fyh.only hOV3 (fun h => by have := afyh h; have := lfyh h; omega)).only hOV4 (fun h => by have := afyh h; have := lfyh h; omega))
      clear A B ha hb ha' hb'
      clear HOA HOB HTW HP
      have D1 := fun B W k => Lib.hid (show Calls _ _ _ W fun en w' => en = .returned (.int .i64 (dSign va')) ∧ Below W.heap.size W w' by have h := dsignF_any yl B W k; rw [HYL.out] at h; exact h)
      have D2 := fun B W k => Lib.hid (show Calls _ _ _ W fun en w' => en = .returned (.int .i64 (dSign vb')) ∧ Below W.heap.size W w' by have h := dsignF_any yh B W k; rw [HYH.out] at h; exact h)
      go_upto_region 6 with (fail)
      generalize dSign va' = S1 at *
      generalize dSign vb' = S2 at *
      obtain ⟨Y_0, Y_1, Y_2, Y_3, Y_4, Y_5⟩ := Y.e6
      go_wp2_with fail
      clear Y_0 Y_1 Y_2 Y_3 Y_4 Y_5
      ((with_reducible refine ((D1 _ _ fyl).out).mono ?_))
      rintro e10 w10 ⟨rfl, hb10⟩
      replace X := X.past hb10
      replace Y := Y.past hb10
      replace C := C.past hb10
      replace hT := hT.past hb10
      replace ho2 := ho2.past hb10
      replace hq2 := hq2.past hb10
      replace fxl := fxl.past hb10
      replace fxh := fxh.past hb10
      replace fyl := fyl.past hb10
      replace fyh := fyh.past hb10
      have hs10 := hs5.trans (hb10.mono hs5.size)
      obtain ⟨Y_0, Y_1, Y_2, Y_3, Y_4, Y_5⟩ := Y.e6
      go_wp2_with fail
      clear Y_0 Y_1 Y_2 Y_3 Y_4 Y_5
      ((with_reducible refine ((D2 _ _ fyh).out).mono ?_))
      rintro e11 w11 ⟨rfl, hb11⟩
      replace X := X.past hb11
      replace Y := Y.past hb11
      replace C := C.past hb11
      replace hT := hT.past hb11
      replace ho2 := ho2.past hb11
      replace hq2 := hq2.past hb11
      replace fxl := fxl.past hb11
      replace fxh := fxh.past hb11
      replace fyl := fyl.past hb11
      replace fyh := fyh.past hb11
      have hs11 := hs10.trans (hb11.mono hs10.size)
      go_upto_region 9 with (fail)
      refine wp_lay2 (fun W13 hb13 hz13 LO HI => ?_)
      replace C := C.past hb13
      replace hT := hT.past hb13
      replace ho2 := ho2.past hb13
      replace hq2 := hq2.past hb13
      have hs13 := hs11.trans (hb13.mono hs11.size)
      go_wp2_with fail
      ((with_reducible refine (ballBegun_any _ hT).mono ?_))
      rintro e20 w20 ⟨rfl, hb20⟩
      replace C := C.past hb20
      replace LO := LO.past hb20
      replace HI := HI.past hb20
      replace hT := hT.past hb20
      replace ho2 := ho2.past hb20
      replace hq2 := hq2.past hb20
      have hs20 := hs13.trans (hb20.mono hs13.size)
      obtain ⟨C_0, C_1, C_2, C_3, C_4, C_5⟩ := C.e6
      obtain ⟨LO_0, LO_1, LO_2⟩ := LO.e3
      obtain ⟨HI_0, HI_1, HI_2⟩ := HI.e3
      go_wp2_with fail
      clear C_0 C_1 C_2 C_3 C_4 C_5 LO_0 LO_1 LO_2 HI_0 HI_1 HI_2
      ((with_reducible refine (ballIs_err 5 n p2 q2 c2 d2 w20 (by first | omega | exact H0.out)).mono ?_))
      rintro e21 w21 ⟨rfl, hb21⟩
      go_wp2
      go_ret
      exact ⟨rfl, hs20.trans (hb21.mono hs20.size)⟩
    · rw [if_neg g] at HP
      obtain ⟨n1, n2⟩ := HNE.out g
      obtain ⟨dl, dh, eL, eH, hlx, hly, HD⟩ := overEnds Ba Bb sa sb sa' sb' n1 n2 n k4
      simp only [if_true, eL, eH] at HP
      have HLX := Lib.hid hlx
      have HLY := Lib.hid hly
      obtain ⟨pv1, pv2, pv3, pv4, rv1, rv2, rv3, rv4, zl, zh, hpv1, hpv2, hpv3, hpv4, hrv1, hrv2, hrv3, hrv4, hdl, hzh, hzl, hdh⟩ := HD
      have HDpv1 := Lib.hid hpv1
      have HDpv2 := Lib.hid hpv2
      have HDpv3 := Lib.hid hpv3
      have HDpv4 := Lib.hid hpv4
      have HDrv1 := Lib.hid hrv1
      have HDrv2 := Lib.hid hrv2
      have HDrv3 := Lib.hid hrv3
      have HDrv4 := Lib.hid hrv4
      have HDdl := Lib.hid hdl
      have HDzh := Lib.hid hzh
      have HDzl := Lib.hid hzl
      have HDdh := Lib.hid hdh
      clear eL eH hlx hly hpv1 hpv2 hpv3 hpv4 hrv1 hrv2 hrv3 hrv4 hdl hzh hzl hdh HNE
      go_enter Tryd.func4, Tryd.ntmps4
      go_upto_region 1 with (fail)
      refine wp_lay2 (fun W1 hb1 hz1 A B => ?_)
      replace ha := ha.past hb1
      replace hb := hb.past hb1
      replace ha' := ha'.past hb1
      replace hb' := hb'.past hb1
      replace hT := hT.past hb1
      have hs1 := hb1
      obtain ⟨A_0, A_1, A_2, A_3, A_4, A_5⟩ := A.e6
      obtain ⟨B_0, B_1, B_2, B_3, B_4, B_5⟩ := B.e6
      go_wp2_with fail
      clear A_0 A_1 A_2 A_3 A_4 A_5 B_0 B_1 B_2 B_3 B_4 B_5
      ((with_reducible refine (HP _ ha hb ha' hb' hT).out.mono ?_))
      rintro e2 w2 ⟨p2, c2, q2, d2, rfl, ho2, hq2, hb2⟩
      replace A := A.past hb2
      replace B := B.past hb2
      replace ha := ha.past hb2
      replace hb := hb.past hb2
      replace ha' := ha'.past hb2
      replace hb' := hb'.past hb2
      replace hT := hT.past hb2
      have hs2 := hs1.trans (hb2.mono hs1.size)
      go_upto_region 2 with (fail)
      have bho2 := ho2.blk_lt
      have bhq2 := hq2.blk_lt
      refine wp_lay1 (fun W3 hb3 hz3 C => ?_)
      replace A := A.past hb3
      replace B := B.past hb3
      replace ha := ha.past hb3
      replace hb := hb.past hb3
      replace ha' := ha'.past hb3
      replace hb' := hb'.past hb3
      replace hT := hT.past hb3
      replace ho2 := ho2.past hb3
      replace hq2 := hq2.past hb3
      have hs3 := hs2.trans (hb3.mono hs2.size)
      obtain ⟨A_0, A_1, A_2, A_3, A_4, A_5⟩ := A.e6
      obtain ⟨B_0, B_1, B_2, B_3, B_4, B_5⟩ := B.e6
      go_wp2_with fail
      clear A_0 A_1 A_2 A_3 A_4 A_5 B_0 B_1 B_2 B_3 B_4 B_5
      ((with_reducible refine ((HTW _ ha hb ha' hb').out).mono ?_))
      rintro e4 w4 ⟨rfl, hb4⟩
      replace A := A.past hb4
      replace B := B.past hb4
      replace C := C.past hb4
      replace ha := ha.past hb4
      replace hb := hb.past hb4
      replace ha' := ha'.past hb4
      replace hb' := hb'.past hb4
      replace hT := hT.past hb4
      replace ho2 := ho2.past hb4
      replace hq2 := hq2.past hb4
      have hs4 := hs3.trans (hb4.mono hs3.size)
      go_upto_region 4 with (fail)
      refine wp_lay2 (fun W5 hb5 hz5 X Y => ?_)
      replace A := A.past hb5
      replace B := B.past hb5
      replace C := C.past hb5
      replace ha := ha.past hb5
      replace hb := hb.past hb5
      replace ha' := ha'.past hb5
      replace hb' := hb'.past hb5
      replace hT := hT.past hb5
      replace ho2 := ho2.past hb5
      replace hq2 := hq2.past hb5
      have hs5 := hs4.trans (hb5.mono hs4.size)
      go_upto_region 5 with (fail)
      have hz1 := hs1.size
      have hz2 := hb2.size
      have hz3 := hb3.size
      have hz4 := hb4.size
      have hz5 := hb5.size
      have hXl := X.lt
      obtain ⟨V0, hV0⟩ : ∃ V0, V0 = (W5).drew := ⟨_, rfl⟩
      have hbV0 : Below (W5).heap.size (W5) V0 := by rw [hV0]; exact (Below.refl _ _).drew
      have hzV0 := hbV0.size
      refine wp_region_held_drew (S := fun w' => (w'.cell? ⟨w.heap.size, 0, none⟩ = some (.bool a.g) ∧ w'.cell? ⟨w.heap.size, 1, none⟩ = some (.slice a.p a.xs.length a.c) ∧ w'.cell? ⟨w.heap.size, 2, none⟩ = some (.int .i64 a.e) ∧ w'.cell? ⟨w.heap.size, 3, none⟩ = some (.bool b.g) ∧ w'.cell? ⟨w.heap.size, 4, none⟩ = some (.slice b.p b.xs.length b.c) ∧ w'.cell? ⟨w.heap.size, 5, none⟩ = some (.int .i64 b.e)) ∧ (w'.cell? ⟨w.heap.size + 1, 0, none⟩ = some (.bool a'.g) ∧ w'.cell? ⟨w.heap.size + 1, 1, none⟩ = some (.slice a'.p a'.xs.length a'.c) ∧ w'.cell? ⟨w.heap.size + 1, 2, none⟩ = some (.int .i64 a'.e) ∧ w'.cell? ⟨w.heap.size + 1, 3, none⟩ = some (.bool b'.g) ∧ w'.cell? ⟨w.heap.size + 1, 4, none⟩ = some (.slice b'.p b'.xs.length b'.c) ∧ w'.cell? ⟨w.heap.size + 1, 5, none⟩ = some (.int .i64 b'.e))) (by kernel_rfl) (by rw [← hV0]; exact ⟨(A.past (hbV0)).e6, (B.past (hbV0)).e6⟩) (fun hHeld => ?_)
      clear hHeld
      rw [← hV0]
      clear hV0
      refine wpAnyH_take (i := 0) (v := .agg #[.bool a.g, .slice a.p a.xs.length a.c, .int .i64 a.e, .bool b.g, .slice b.p b.xs.length b.c, .int .i64 b.e]) rfl (by kernel_rfl) (by kernel_rfl) (by kernel_rfl) (fun _ _ _ h => h) (.inl ⟨by rfl, fun w' hSw => ?_⟩) ⟨(A.past (hbV0)).e6, (B.past (hbV0)).e6⟩ ?_
      · (try dsimp only at hSw)
        first | (go_simp; done) | (go_simp; with_reducible rfl)
      try simp only [List.getElem_toArray, List.getElem_cons_zero, Act.put, List.setIfInBounds_toArray, List.set_cons_zero, List.set_cons_succ]
      refine wpAnyH_take (i := 2) (v := .agg #[.bool a'.g, .slice a'.p a'.xs.length a'.c, .int .i64 a'.e, .bool b'.g, .slice b'.p b'.xs.length b'.c, .int .i64 b'.e]) rfl (by kernel_rfl) (by kernel_rfl) (by kernel_rfl) (fun _ _ _ h => h) (.inl ⟨by rfl, fun w' hSw => ?_⟩) ⟨(A.past (hbV0)).e6, (B.past (hbV0)).e6⟩ ?_
      · (try dsimp only at hSw)
        first | (go_simp; done) | (go_simp; with_reducible rfl)
      try simp only [List.getElem_toArray, List.getElem_cons_succ, List.getElem_cons_zero, Act.put, List.setIfInBounds_toArray, List.set_cons_zero, List.set_cons_succ]
      refine wpAnyH_ready (rs := [1]) (by kernel_rfl) (by simp) ?_
      refine AllReadyH.cons rfl (fun K hK => ?_) AllReadyH.nil
      go_simp
      go_at_call 19; ((with_reducible refine ((HOA _ (ha.past (hbV0)) (hb.past (hbV0))).out).mono ?_)); rintro exV1 V1 ⟨xl, xh, hxl, hxh, rfl, fxl, fxh, hbV1⟩
      have HXL := Lib.hid hxl
      have HXH := Lib.hid hxh
      clear hxl hxh
      have afxl := fxl.at_
      have lfxl := fxl.lt
      have afxh := fxh.at_
      have lfxh := fxh.lt
      have hzV1 := hbV1.size
      refine hK.out _ _ ⟨(A.past (below_thru (hbV0) hbV1)).e6, (B.past (below_thru (hbV0) hbV1)).e6⟩ (fun _ => ?_)
      clear hK K
      try simp only [List.getElem_toArray, List.getElem_cons_succ, List.getElem_cons_zero, Act.put, List.setIfInBounds_toArray, List.set_cons_zero, List.set_cons_succ]
      refine wpAnyH_ready (rs := [3]) (by kernel_rfl) (by simp) ?_
      refine AllReadyH.cons rfl (fun K hK => ?_) AllReadyH.nil
      go_simp
      go_at_call 19; ((with_reducible refine ((HOB _ (ha'.past (below_thru (hbV0) hbV1)) (hb'.past (below_thru (hbV0) hbV1))).out).mono ?_)); rintro exV2 V2 ⟨yl, yh, hyl, hyh, rfl, fyl, fyh, hbV2⟩
      have HYL := Lib.hid hyl
      have HYH := Lib.hid hyh
      clear hyl hyh
      have afyl := fyl.at_
      have lfyl := fyl.lt
      have afyh := fyh.at_
      have lfyh := fyh.lt
      have hzV2 := hbV2.size
      refine hK.out _ _ ⟨(A.past (below_thru (below_thru (hbV0) hbV1) hbV2)).e6, (B.past (below_thru (below_thru (hbV0) hbV1) hbV2)).e6⟩ (fun _ => ?_)
      clear hK K
      try simp only [List.getElem_toArray, List.getElem_cons_succ, List.getElem_cons_zero, Act.put, List.setIfInBounds_toArray, List.set_cons_zero, List.set_cons_succ]
      refine wpAnyH_ready (rs := [4]) (by kernel_rfl) (by simp) ?_
      refine AllReadyH.cons rfl (fun K hK => ?_) AllReadyH.nil
      replace X := (X.past (below_thru (below_thru (hbV0) hbV1) hbV2))
      obtain ⟨X_0, X_1, X_2, X_3, X_4, X_5⟩ := X.e6
      have X_f0 := X.f 0
      have X_f1 := X.f 1
      have X_f2 := X.f 2
      have X_f3 := X.f 3
      have X_f4 := X.f 4
      have X_f5 := X.f 5
      go_simp
      clear X_0 X_1 X_2 X_3 X_4 X_5 X_f0 X_f1 X_f2 X_f3 X_f4 X_f5
      refine hK.out _ _ ⟨((A.past (below_thru (below_thru (hbV0) hbV1) hbV2)).only (only6 _ _ _ _ _ _ _ _) (by omega)).e6, ((B.past (below_thru (below_thru (hbV0) hbV1) hbV2)).only (only6 _ _ _ _ _ _ _ _) (by omega)).e6⟩ (fun _ => ?_)
      refine anyH_put6 X (fun V3 hOV3 X => ?_)
      have hzV3 := Nat.le_of_eq hOV3.size
      have hyV3 := Nat.le_of_eq hOV3.size.symm
      clear hK K
      try simp only [List.getElem_toArray, List.getElem_cons_succ, List.getElem_cons_zero, Act.put, List.setIfInBounds_toArray, List.set_cons_zero, List.set_cons_succ]
      refine wpAnyH_ready (rs := [5]) (by kernel_rfl) (by simp) ?_
      refine AllReadyH.cons rfl (fun K hK => ?_) AllReadyH.nil
      replace Y := ((Y.past (below_thru (below_thru (hbV0) hbV1) hbV2)).only hOV3 (by omega))
      obtain ⟨Y_0, Y_1, Y_2, Y_3, Y_4, Y_5⟩ := Y.e6
      have Y_f0 := Y.f 0
      have Y_f1 := Y.f 1
      have Y_f2 := Y.f 2
      have Y_f3 := Y.f 3
      have Y_f4 := Y.f 4
      have Y_f5 := Y.f 5
      go_simp
      clear Y_0 Y_1 Y_2 Y_3 Y_4 Y_5 Y_f0 Y_f1 Y_f2 Y_f3 Y_f4 Y_f5
      refine hK.out _ _ ⟨(((A.past (below_thru (below_thru (hbV0) hbV1) hbV2)).only hOV3 (by omega)).only (only6 _ _ _ _ _ _ _ _) (by omega)).e6, (((B.past (below_thru (below_thru (hbV0) hbV1) hbV2)).only hOV3 (by omega)).only (only6 _ _ _ _ _ _ _ _) (by omega)).e6⟩ (fun _ => ?_)
      refine anyH_put6 Y (fun V4 hOV4 Y => ?_)
      have hzV4 := Nat.le_of_eq hOV4.size
      have hyV4 := Nat.le_of_eq hOV4.size.symm
      clear hK K
      try simp only [List.getElem_toArray, List.getElem_cons_succ, List.getElem_cons_zero, Act.put, List.setIfInBounds_toArray, List.set_cons_zero, List.set_cons_succ]
      refine wpAnyH_done (by kernel_rfl) ?_ _
      replace X := (X.only hOV4 (by omega))
      replace C := (((C.past (below_thru (below_thru (hbV0) hbV1) hbV2)).only hOV3 (by omega)).only hOV4 (by omega))
      replace hT := (((((hT.past hbV0).past hbV1).past hbV2).below (hOV3.below (Nat.le_refl _)) (by omega)).below (hOV4.below (Nat.le_refl _)) (by omega))
      replace ho2 := (((ho2.past (below_thru (below_thru (hbV0) hbV1) hbV2)).only hOV3 (fun h => by have := bho2 h; omega)).only hOV4 (fun h => by have := bho2 h; omega))
      replace hq2 := (((hq2.past (below_thru (below_thru (hbV0) hbV1) hbV2)).only hOV3 (fun h => by have := bhq2 h; omega)).only hOV4 (fun h => by have := bhq2 h; omega))
      replace hs5 := (((below_thru (below_thru (below_thru hs5 hbV0) hbV1) hbV2).trans (hOV3.below (by omega))).trans (hOV4.below (by omega)))
      replace fxl := (((fxl.past (hbV2)).only hOV3 (fun h => by have := afxl h; have := lfxl h; omega)).only hOV4 (fun h => by have := afxl h; have := lfxl h; omega))
      replace fxh := (((fxh.past (hbV2)).only hOV3 (fun h => by have := afxh h; have := lfxh h; omega)).only hOV4 (fun h => by have := afxh h; have := lfxh h; omega))
      replace fyl := ((fyl.only hOV3 (fun h => by have := afyl h; have := lfyl h; omega)).only hOV4 (fun h => by have := afyl h; have := lfyl h; omega))
      replace fyh := ((fyh.only hOV3 (fun h => by have := afyh h; have := lfyh h; omega)).only hOV4 (fun h => by have := afyh h; have := lfyh h; omega))
      clear A B ha hb ha' hb'
      clear HOA HOB HTW HP
      have D1 := fun B W k => Lib.hid (show Calls _ _ _ W fun en w' => en = .returned (.int .i64 (dSign va')) ∧ Below W.heap.size W w' by have h := dsignF_any yl B W k; rw [HYL.out] at h; exact h)
      have D2 := fun B W k => Lib.hid (show Calls _ _ _ W fun en w' => en = .returned (.int .i64 (dSign vb')) ∧ Below W.heap.size W w' by have h := dsignF_any yh B W k; rw [HYH.out] at h; exact h)
      have hzV := hs5.size
      go_upto_region 6 with (fail)
      go_cut [42] (fun s42 wx => s42 = .bool false ∧ Below V4.heap.size V4 wx)
      case first =>
        by_cases g1 : dSign va' ≤ 0
        · have t1 : decide (dSign va' ≤ 0) = true := decide_eq_true g1
          have t2 : decide (0 ≤ dSign vb') = false := decide_eq_false (fun h => g ⟨g1, h⟩)
          generalize dSign va' = S1 at *
          generalize dSign vb' = S2 at *
          obtain ⟨Y_0, Y_1, Y_2, Y_3, Y_4, Y_5⟩ := Y.e6
          go_wp2_with fail
          clear Y_0 Y_1 Y_2 Y_3 Y_4 Y_5
          ((with_reducible refine ((D1 _ _ fyl).out).mono ?_))
          rintro e10 w10 ⟨rfl, hb10⟩
          replace Y := Y.past hb10
          replace fyl := fyl.past hb10
          replace fyh := fyh.past hb10
          have hs10 := hb10
          obtain ⟨Y_0, Y_1, Y_2, Y_3, Y_4, Y_5⟩ := Y.e6
          go_wp2_with fail
          clear Y_0 Y_1 Y_2 Y_3 Y_4 Y_5
          ((with_reducible refine ((D2 _ _ fyh).out).mono ?_))
          rintro e11 w11 ⟨rfl, hb11⟩
          replace Y := Y.past hb11
          replace fyl := fyl.past hb11
          replace fyh := fyh.past hb11
          have hs11 := hs10.trans (hb11.mono hs10.size)
          go_wp2_with fail
          go_meet
          exact ⟨rfl, hs11⟩
        · have t1 : decide (dSign va' ≤ 0) = false := decide_eq_false g1
          generalize dSign va' = S1 at *
          generalize dSign vb' = S2 at *
          obtain ⟨Y_0, Y_1, Y_2, Y_3, Y_4, Y_5⟩ := Y.e6
          go_wp2_with fail
          clear Y_0 Y_1 Y_2 Y_3 Y_4 Y_5
          ((with_reducible refine ((D1 _ _ fyl).out).mono ?_))
          rintro e10 w10 ⟨rfl, hb10⟩
          replace Y := Y.past hb10
          replace fyl := fyl.past hb10
          replace fyh := fyh.past hb10
          have hs10 := hb10
          go_wp2_with fail
          go_meet
          exact ⟨rfl, hs10⟩
      case rest =>
        obtain ⟨rfl, hb12⟩ := hcut
        clear D1 D2 g
        replace X := X.past hb12
        replace Y := Y.past hb12
        replace C := C.past hb12
        replace hT := hT.past hb12
        replace ho2 := ho2.past hb12
        replace hq2 := hq2.past hb12
        replace fxl := fxl.past hb12
        replace fxh := fxh.past hb12
        replace fyl := fyl.past hb12
        replace fyh := fyh.past hb12
        have hs12 := hs5.trans (hb12.mono hs5.size)
        have hz12 := hb12.size
        go_upto_region 9 with (fail)
        refine wp_lay2 (fun W13 hb13 hz13 LO HI => ?_)
        replace X := X.past hb13
        replace Y := Y.past hb13
        replace C := C.past hb13
        replace hT := hT.past hb13
        replace ho2 := ho2.past hb13
        replace hq2 := hq2.past hb13
        replace fxl := fxl.past hb13
        replace fxh := fxh.past hb13
        replace fyl := fyl.past hb13
        replace fyh := fyh.past hb13
        have hs13 := hs12.trans (hb13.mono hs12.size)
        have hz14 := hb13.size
        go_upto_region 10 with (fail)
        obtain ⟨U0, hV0⟩ : ∃ V0, V0 = (W13).drew := ⟨_, rfl⟩
        have hbU0 : Below (W13).heap.size (W13) U0 := by rw [hV0]; exact (Below.refl _ _).drew
        have hzU0 := hbU0.size
        refine wp_region_held_drew (S := fun w' => (w'.cell? ⟨w4.heap.size, 0, none⟩ = some (.bool xl.g) ∧ w'.cell? ⟨w4.heap.size, 1, none⟩ = some (.slice xl.p (dig B16 xl.m).length xl.c) ∧ w'.cell? ⟨w4.heap.size, 2, none⟩ = some (.int .i64 xl.e) ∧ w'.cell? ⟨w4.heap.size, 3, none⟩ = some (.bool xh.g) ∧ w'.cell? ⟨w4.heap.size, 4, none⟩ = some (.slice xh.p (dig B16 xh.m).length xh.c) ∧ w'.cell? ⟨w4.heap.size, 5, none⟩ = some (.int .i64 xh.e)) ∧ (w'.cell? ⟨w4.heap.size + 1, 0, none⟩ = some (.bool yl.g) ∧ w'.cell? ⟨w4.heap.size + 1, 1, none⟩ = some (.slice yl.p (dig B16 yl.m).length yl.c) ∧ w'.cell? ⟨w4.heap.size + 1, 2, none⟩ = some (.int .i64 yl.e) ∧ w'.cell? ⟨w4.heap.size + 1, 3, none⟩ = some (.bool yh.g) ∧ w'.cell? ⟨w4.heap.size + 1, 4, none⟩ = some (.slice yh.p (dig B16 yh.m).length yh.c) ∧ w'.cell? ⟨w4.heap.size + 1, 5, none⟩ = some (.int .i64 yh.e))) (by kernel_rfl) (by rw [← hV0]; exact ⟨(X.past (hbU0)).e6, (Y.past (hbU0)).e6⟩) (fun hHeld => ?_)
        clear hHeld
        rw [← hV0]
        clear hV0
        refine wpAnyH_take (i := 0) (v := .pointer (some ⟨w4.heap.size, 0, none⟩)) rfl (by kernel_rfl) (by kernel_rfl) (by kernel_rfl) (fun _ _ _ h => h) (.inl ⟨by rfl, fun w' hSw => ?_⟩) ⟨(X.past (hbU0)).e6, (Y.past (hbU0)).e6⟩ ?_
        · (try dsimp only at hSw)
          first | (go_simp; done) | (go_simp; with_reducible rfl)
        try simp only [List.getElem_toArray, List.getElem_cons_zero, Act.put, List.setIfInBounds_toArray, List.set_cons_zero, List.set_cons_succ]
        refine wpAnyH_take (i := 1) (v := .agg #[.bool xl.g, .slice xl.p (dig B16 xl.m).length xl.c, .int .i64 xl.e]) rfl (by kernel_rfl) (by kernel_rfl) (by kernel_rfl) (fun _ _ _ h => h) (.inl ⟨by rfl, fun w' hSw => ?_⟩) ⟨(X.past (hbU0)).e6, (Y.past (hbU0)).e6⟩ ?_
        · (try dsimp only at hSw)
          first | (go_simp; done) | (go_simp; with_reducible rfl)
        try simp only [List.getElem_toArray, List.getElem_cons_succ, List.getElem_cons_zero, Act.put, List.setIfInBounds_toArray, List.set_cons_zero, List.set_cons_succ]
        refine wpAnyH_take (i := 2) (v := .pointer (some ⟨w4.heap.size + 1, 0, none⟩)) rfl (by kernel_rfl) (by kernel_rfl) (by kernel_rfl) (fun _ _ _ h => h) (.inl ⟨by rfl, fun w' hSw => ?_⟩) ⟨(X.past (hbU0)).e6, (Y.past (hbU0)).e6⟩ ?_
        · (try dsimp only at hSw)
          first | (go_simp; done) | (go_simp; with_reducible rfl)
        try simp only [List.getElem_toArray, List.getElem_cons_succ, List.getElem_cons_zero, Act.put, List.setIfInBounds_toArray, List.set_cons_zero, List.set_cons_succ]
        refine wpAnyH_take (i := 3) (v := .agg #[.bool yl.g, .slice yl.p (dig B16 yl.m).length yl.c, .int .i64 yl.e]) rfl (by kernel_rfl) (by kernel_rfl) (by kernel_rfl) (fun _ _ _ h => h) (.inl ⟨by rfl, fun w' hSw => ?_⟩) ⟨(X.past (hbU0)).e6, (Y.past (hbU0)).e6⟩ ?_
        · (try dsimp only at hSw)
          first | (go_simp; done) | (go_simp; with_reducible rfl)
        try simp only [List.getElem_toArray, List.getElem_cons_succ, List.getElem_cons_zero, Act.put, List.setIfInBounds_toArray, List.set_cons_zero, List.set_cons_succ]
        refine wpAnyH_take (i := 4) (v := .int .i64 n) rfl (by kernel_rfl) (by kernel_rfl) (by kernel_rfl) (fun _ _ _ h => h) (.inl ⟨by rfl, fun w' hSw => ?_⟩) ⟨(X.past (hbU0)).e6, (Y.past (hbU0)).e6⟩ ?_
        · (try dsimp only at hSw)
          first | (go_simp; done) | (go_simp; with_reducible rfl)
        try simp only [List.getElem_toArray, List.getElem_cons_succ, List.getElem_cons_zero, Act.put, List.setIfInBounds_toArray, List.set_cons_zero, List.set_cons_succ]
        refine wpAnyH_take (i := 6) (v := .pointer (some ⟨w4.heap.size, 0, none⟩)) rfl (by kernel_rfl) (by kernel_rfl) (by kernel_rfl) (fun _ _ _ h => h) (.inl ⟨by rfl, fun w' hSw => ?_⟩) ⟨(X.past (hbU0)).e6, (Y.past (hbU0)).e6⟩ ?_
        · (try dsimp only at hSw)
          first | (go_simp; done) | (go_simp; with_reducible rfl)
        try simp only [List.getElem_toArray, List.getElem_cons_succ, List.getElem_cons_zero, Act.put, List.setIfInBounds_toArray, List.set_cons_zero, List.set_cons_succ]
        refine wpAnyH_take (i := 7) (v := .agg #[.bool xl.g, .slice xl.p (dig B16 xl.m).length xl.c, .int .i64 xl.e]) rfl (by kernel_rfl) (by kernel_rfl) (by kernel_rfl) (fun _ _ _ h => h) (.inl ⟨by rfl, fun w' hSw => ?_⟩) ⟨(X.past (hbU0)).e6, (Y.past (hbU0)).e6⟩ ?_
        · (try dsimp only at hSw)
          first | (go_simp; done) | (go_simp; with_reducible rfl)
        try simp only [List.getElem_toArray, List.getElem_cons_succ, List.getElem_cons_zero, Act.put, List.setIfInBounds_toArray, List.set_cons_zero, List.set_cons_succ]
        refine wpAnyH_take (i := 8) (v := .pointer (some ⟨w4.heap.size + 1, 3, none⟩)) rfl (by kernel_rfl) (by kernel_rfl) (by kernel_rfl) (fun _ _ _ h => h) (.inl ⟨by rfl, fun w' hSw => ?_⟩) ⟨(X.past (hbU0)).e6, (Y.past (hbU0)).e6⟩ ?_
        · (try dsimp only at hSw)
          first | (go_simp; done) | (go_simp; with_reducible rfl)
        try simp only [List.getElem_toArray, List.getElem_cons_succ, List.getElem_cons_zero, Act.put, List.setIfInBounds_toArray, List.set_cons_zero, List.set_cons_succ]
        refine wpAnyH_take (i := 9) (v := .agg #[.bool yh.g, .slice yh.p (dig B16 yh.m).length yh.c, .int .i64 yh.e]) rfl (by kernel_rfl) (by kernel_rfl) (by kernel_rfl) (fun _ _ _ h => h) (.inl ⟨by rfl, fun w' hSw => ?_⟩) ⟨(X.past (hbU0)).e6, (Y.past (hbU0)).e6⟩ ?_
        · (try dsimp only at hSw)
          first | (go_simp; done) | (go_simp; with_reducible rfl)
        try simp only [List.getElem_toArray, List.getElem_cons_succ, List.getElem_cons_zero, Act.put, List.setIfInBounds_toArray, List.set_cons_zero, List.set_cons_succ]
        refine wpAnyH_take (i := 10) (v := .int .i64 n) rfl (by kernel_rfl) (by kernel_rfl) (by kernel_rfl) (fun _ _ _ h => h) (.inl ⟨by rfl, fun w' hSw => ?_⟩) ⟨(X.past (hbU0)).e6, (Y.past (hbU0)).e6⟩ ?_
        · (try dsimp only at hSw)
          first | (go_simp; done) | (go_simp; with_reducible rfl)
        try simp only [List.getElem_toArray, List.getElem_cons_succ, List.getElem_cons_zero, Act.put, List.setIfInBounds_toArray, List.set_cons_zero, List.set_cons_succ]
        refine wpAnyH_take (i := 12) (v := .pointer (some ⟨w4.heap.size, 3, none⟩)) rfl (by kernel_rfl) (by kernel_rfl) (by kernel_rfl) (fun _ _ _ h => h) (.inl ⟨by rfl, fun w' hSw => ?_⟩) ⟨(X.past (hbU0)).e6, (Y.past (hbU0)).e6⟩ ?_
        · (try dsimp only at hSw)
          first | (go_simp; done) | (go_simp; with_reducible rfl)
        try simp only [List.getElem_toArray, List.getElem_cons_succ, List.getElem_cons_zero, Act.put, List.setIfInBounds_toArray, List.set_cons_zero, List.set_cons_succ]
        refine wpAnyH_take (i := 13) (v := .agg #[.bool xh.g, .slice xh.p (dig B16 xh.m).length xh.c, .int .i64 xh.e]) rfl (by kernel_rfl) (by kernel_rfl) (by kernel_rfl) (fun _ _ _ h => h) (.inl ⟨by rfl, fun w' hSw => ?_⟩) ⟨(X.past (hbU0)).e6, (Y.past (hbU0)).e6⟩ ?_
        · (try dsimp only at hSw)
          first | (go_simp; done) | (go_simp; with_reducible rfl)
        try simp only [List.getElem_toArray, List.getElem_cons_succ, List.getElem_cons_zero, Act.put, List.setIfInBounds_toArray, List.set_cons_zero, List.set_cons_succ]
        refine wpAnyH_take (i := 14) (v := .pointer (some ⟨w4.heap.size + 1, 0, none⟩)) rfl (by kernel_rfl) (by kernel_rfl) (by kernel_rfl) (fun _ _ _ h => h) (.inl ⟨by rfl, fun w' hSw => ?_⟩) ⟨(X.past (hbU0)).e6, (Y.past (hbU0)).e6⟩ ?_
        · (try dsimp only at hSw)
          first | (go_simp; done) | (go_simp; with_reducible rfl)
        try simp only [List.getElem_toArray, List.getElem_cons_succ, List.getElem_cons_zero, Act.put, List.setIfInBounds_toArray, List.set_cons_zero, List.set_cons_succ]
        refine wpAnyH_take (i := 15) (v := .agg #[.bool yl.g, .slice yl.p (dig B16 yl.m).length yl.c, .int .i64 yl.e]) rfl (by kernel_rfl) (by kernel_rfl) (by kernel_rfl) (fun _ _ _ h => h) (.inl ⟨by rfl, fun w' hSw => ?_⟩) ⟨(X.past (hbU0)).e6, (Y.past (hbU0)).e6⟩ ?_
        · (try dsimp only at hSw)
          first | (go_simp; done) | (go_simp; with_reducible rfl)
        try simp only [List.getElem_toArray, List.getElem_cons_succ, List.getElem_cons_zero, Act.put, List.setIfInBounds_toArray, List.set_cons_zero, List.set_cons_succ]
        refine wpAnyH_take (i := 16) (v := .int .i64 n) rfl (by kernel_rfl) (by kernel_rfl) (by kernel_rfl) (fun _ _ _ h => h) (.inl ⟨by rfl, fun w' hSw => ?_⟩) ⟨(X.past (hbU0)).e6, (Y.past (hbU0)).e6⟩ ?_
        · (try dsimp only at hSw)
          first | (go_simp; done) | (go_simp; with_reducible rfl)
        try simp only [List.getElem_toArray, List.getElem_cons_succ, List.getElem_cons_zero, Act.put, List.setIfInBounds_toArray, List.set_cons_zero, List.set_cons_succ]
        refine wpAnyH_take (i := 18) (v := .pointer (some ⟨w4.heap.size, 3, none⟩)) rfl (by kernel_rfl) (by kernel_rfl) (by kernel_rfl) (fun _ _ _ h => h) (.inl ⟨by rfl, fun w' hSw => ?_⟩) ⟨(X.past (hbU0)).e6, (Y.past (hbU0)).e6⟩ ?_
        · (try dsimp only at hSw)
          first | (go_simp; done) | (go_simp; with_reducible rfl)
        try simp only [List.getElem_toArray, List.getElem_cons_succ, List.getElem_cons_zero, Act.put, List.setIfInBounds_toArray, List.set_cons_zero, List.set_cons_succ]
        refine wpAnyH_take (i := 19) (v := .agg #[.bool xh.g, .slice xh.p (dig B16 xh.m).length xh.c, .int .i64 xh.e]) rfl (by kernel_rfl) (by kernel_rfl) (by kernel_rfl) (fun _ _ _ h => h) (.inl ⟨by rfl, fun w' hSw => ?_⟩) ⟨(X.past (hbU0)).e6, (Y.past (hbU0)).e6⟩ ?_
        · (try dsimp only at hSw)
          first | (go_simp; done) | (go_simp; with_reducible rfl)
        try simp only [List.getElem_toArray, List.getElem_cons_succ, List.getElem_cons_zero, Act.put, List.setIfInBounds_toArray, List.set_cons_zero, List.set_cons_succ]
        refine wpAnyH_take (i := 20) (v := .pointer (some ⟨w4.heap.size + 1, 3, none⟩)) rfl (by kernel_rfl) (by kernel_rfl) (by kernel_rfl) (fun _ _ _ h => h) (.inl ⟨by rfl, fun w' hSw => ?_⟩) ⟨(X.past (hbU0)).e6, (Y.past (hbU0)).e6⟩ ?_
        · (try dsimp only at hSw)
          first | (go_simp; done) | (go_simp; with_reducible rfl)
        try simp only [List.getElem_toArray, List.getElem_cons_succ, List.getElem_cons_zero, Act.put, List.setIfInBounds_toArray, List.set_cons_zero, List.set_cons_succ]
        refine wpAnyH_take (i := 21) (v := .agg #[.bool yh.g, .slice yh.p (dig B16 yh.m).length yh.c, .int .i64 yh.e]) rfl (by kernel_rfl) (by kernel_rfl) (by kernel_rfl) (fun _ _ _ h => h) (.inl ⟨by rfl, fun w' hSw => ?_⟩) ⟨(X.past (hbU0)).e6, (Y.past (hbU0)).e6⟩ ?_
        · (try dsimp only at hSw)
          first | (go_simp; done) | (go_simp; with_reducible rfl)
        try simp only [List.getElem_toArray, List.getElem_cons_succ, List.getElem_cons_zero, Act.put, List.setIfInBounds_toArray, List.set_cons_zero, List.set_cons_succ]
        refine wpAnyH_take (i := 22) (v := .int .i64 n) rfl (by kernel_rfl) (by kernel_rfl) (by kernel_rfl) (fun _ _ _ h => h) (.inl ⟨by rfl, fun w' hSw => ?_⟩) ⟨(X.past (hbU0)).e6, (Y.past (hbU0)).e6⟩ ?_
        · (try dsimp only at hSw)
          first | (go_simp; done) | (go_simp; with_reducible rfl)
        try simp only [List.getElem_toArray, List.getElem_cons_succ, List.getElem_cons_zero, Act.put, List.setIfInBounds_toArray, List.set_cons_zero, List.set_cons_succ]
        refine wpAnyH_ready (rs := [5]) (by kernel_rfl) (by simp) ?_
        refine AllReadyH.cons rfl (fun K hK => ?_) AllReadyH.nil
        go_simp
        go_at_call 22; ((with_reducible refine (doverG_any xl yl n _ _ false _ _ pv1 _ HXL.out HYL.out (fxl.past (hbU0)) (fyl.past (hbU0)) sa sa' Ba n1 (by omega) (by omega) HDpv1.out).mono ?_)); rintro exU1 U1 ⟨u1, hu1, rfl, fu1, hbU1⟩
        have HU1 := Lib.hid hu1
        clear hu1
        have hzU1 := hbU1.size
        refine hK.out _ _ ⟨(X.past (below_thru (hbU0) hbU1)).e6, (Y.past (below_thru (hbU0) hbU1)).e6⟩ (fun _ => ?_)
        clear hK K
        try simp only [List.getElem_toArray, List.getElem_cons_succ, List.getElem_cons_zero, Act.put, List.setIfInBounds_toArray, List.set_cons_zero, List.set_cons_succ]
        refine wpAnyH_ready (rs := [11]) (by kernel_rfl) (by simp) ?_
        refine AllReadyH.cons rfl (fun K hK => ?_) AllReadyH.nil
        go_simp
        go_at_call 22; ((with_reducible refine (doverG_any xl yh n _ _ false _ _ pv2 _ HXL.out HYH.out (fxl.past (below_thru (hbU0) hbU1)) (fyh.past (below_thru (hbU0) hbU1)) sa sb' Ba n2 (by omega) (by omega) HDpv2.out).mono ?_)); rintro exU2 U2 ⟨u2, hu2, rfl, fu2, hbU2⟩
        have HU2 := Lib.hid hu2
        clear hu2
        have hzU2 := hbU2.size
        refine hK.out _ _ ⟨(X.past (below_thru (below_thru (hbU0) hbU1) hbU2)).e6, (Y.past (below_thru (below_thru (hbU0) hbU1) hbU2)).e6⟩ (fun _ => ?_)
        clear hK K
        try simp only [List.getElem_toArray, List.getElem_cons_succ, List.getElem_cons_zero, Act.put, List.setIfInBounds_toArray, List.set_cons_zero, List.set_cons_succ]
        refine wpAnyH_ready (rs := [17]) (by kernel_rfl) (by simp) ?_
        refine AllReadyH.cons rfl (fun K hK => ?_) AllReadyH.nil
        go_simp
        go_at_call 22; ((with_reducible refine (doverG_any xh yl n _ _ false _ _ pv3 _ HXH.out HYL.out (fxh.past (below_thru (below_thru (hbU0) hbU1) hbU2)) (fyl.past (below_thru (below_thru (hbU0) hbU1) hbU2)) sb sa' Bb n1 (by omega) (by omega) HDpv3.out).mono ?_)); rintro exU3 U3 ⟨u3, hu3, rfl, fu3, hbU3⟩
        have HU3 := Lib.hid hu3
        clear hu3
        have hzU3 := hbU3.size
        refine hK.out _ _ ⟨(X.past (below_thru (below_thru (below_thru (hbU0) hbU1) hbU2) hbU3)).e6, (Y.past (below_thru (below_thru (below_thru (hbU0) hbU1) hbU2) hbU3)).e6⟩ (fun _ => ?_)
        clear hK K
        try simp only [List.getElem_toArray, List.getElem_cons_succ, List.getElem_cons_zero, Act.put, List.setIfInBounds_toArray, List.set_cons_zero, List.set_cons_succ]
        refine wpAnyH_ready (rs := [23]) (by kernel_rfl) (by simp) ?_
        refine AllReadyH.cons rfl (fun K hK => ?_) AllReadyH.nil
        go_simp
        go_at_call 22; ((with_reducible refine (doverG_any xh yh n _ _ false _ _ pv4 _ HXH.out HYH.out (fxh.past (below_thru (below_thru (below_thru (hbU0) hbU1) hbU2) hbU3)) (fyh.past (below_thru (below_thru (below_thru (hbU0) hbU1) hbU2) hbU3)) sb sb' Bb n2 (by omega) (by omega) HDpv4.out).mono ?_)); rintro exU4 U4 ⟨u4, hu4, rfl, fu4, hbU4⟩
        have HU4 := Lib.hid hu4
        clear hu4
        have hzU4 := hbU4.size
        refine hK.out _ _ ⟨(X.past (below_thru (below_thru (below_thru (below_thru (hbU0) hbU1) hbU2) hbU3) hbU4)).e6, (Y.past (below_thru (below_thru (below_thru (below_thru (hbU0) hbU1) hbU2) hbU3) hbU4)).e6⟩ (fun _ => ?_)
        clear hK K
        try simp only [List.getElem_toArray, List.getElem_cons_succ, List.getElem_cons_zero, Act.put, List.setIfInBounds_toArray, List.set_cons_zero, List.set_cons_succ]
        refine wpAnyH_ready (rs := [24]) (by kernel_rfl) (by simp) ?_
        refine AllReadyH.cons rfl (fun K hK => ?_) AllReadyH.nil
        go_simp
        refine hK.out _ _ ⟨((X.past (below_thru (below_thru (below_thru (below_thru (hbU0) hbU1) hbU2) hbU3) hbU4)).laid _).e6, ((Y.past (below_thru (below_thru (below_thru (below_thru (hbU0) hbU1) hbU2) hbU3) hbU4)).laid _).e6⟩ (fun _ => ?_)
        refine anyH_lay (fun U5 hbU5 hzU5 E => ?_)
        clear hK K
        try simp only [List.getElem_toArray, List.getElem_cons_succ, List.getElem_cons_zero, Act.put, List.setIfInBounds_toArray, List.set_cons_zero, List.set_cons_succ]
        refine wpAnyH_ready (rs := [25]) (by kernel_rfl) (by simp) ?_
        refine AllReadyH.cons rfl (fun K hK => ?_) AllReadyH.nil
        go_simp
        go_at_call 21; ((with_reducible refine (endsF4_any _ _ W13.heap.size u1 u2 u3 u4 pv1 pv2 pv3 pv4 dl zh _ HU1.out HU2.out HU3.out HU4.out HDdl.out HDzh.out E ((fu1.past (below_thru (below_thru (below_thru (hbU2) hbU3) hbU4) hbU5)).mono (by omega)) ((fu2.past (below_thru (below_thru (hbU3) hbU4) hbU5)).mono (by omega)) ((fu3.past (below_thru (hbU4) hbU5)).mono (by omega)) ((fu4.past (hbU5)).mono (by omega))).mono ?_)); rintro exU6 U6 ⟨rl, rx, hrl, -, rfl, frl, -, hbU6⟩
        have HRL := Lib.hid hrl
        clear hrl
        have afrl := frl.at_
        have lfrl := frl.lt
        have hzU6 := hbU6.size
        refine hK.out _ _ ⟨(X.past (below_thru (below_thru (below_thru (below_thru (below_thru (below_thru (hbU0) hbU1) hbU2) hbU3) hbU4) hbU5) hbU6)).e6, (Y.past (below_thru (below_thru (below_thru (below_thru (below_thru (below_thru (hbU0) hbU1) hbU2) hbU3) hbU4) hbU5) hbU6)).e6⟩ (fun _ => ?_)
        clear hK K
        try simp only [List.getElem_toArray, List.getElem_cons_succ, List.getElem_cons_zero, Act.put, List.setIfInBounds_toArray, List.set_cons_zero, List.set_cons_succ]
        refine wpAnyH_take (i := 26) (v := .tuple #[.agg #[.bool rl.g, .slice rl.p (dig B16 rl.m).length rl.c, .int .i64 rl.e], .agg #[.bool rx.g, .slice rx.p (dig B16 rx.m).length rx.c, .int .i64 rx.e]]) rfl (by kernel_rfl) (by kernel_rfl) (by kernel_rfl) (fun _ _ _ h => h) (.inl ⟨by rfl, fun w' hSw => ?_⟩) ⟨(X.past (below_thru (below_thru (below_thru (below_thru (below_thru (below_thru (hbU0) hbU1) hbU2) hbU3) hbU4) hbU5) hbU6)).e6, (Y.past (below_thru (below_thru (below_thru (below_thru (below_thru (below_thru (hbU0) hbU1) hbU2) hbU3) hbU4) hbU5) hbU6)).e6⟩ ?_
        · (try dsimp only at hSw)
          first | (go_simp; done) | (go_simp; with_reducible rfl)
        try simp only [List.getElem_toArray, List.getElem_cons_succ, List.getElem_cons_zero, Act.put, List.setIfInBounds_toArray, List.set_cons_zero, List.set_cons_succ]
        refine wpAnyH_take (i := 27) (v := .agg #[.bool rl.g, .slice rl.p (dig B16 rl.m).length rl.c, .int .i64 rl.e]) rfl (by kernel_rfl) (by kernel_rfl) (by kernel_rfl) (fun _ _ _ h => h) (.inl ⟨by rfl, fun w' hSw => ?_⟩) ⟨(X.past (below_thru (below_thru (below_thru (below_thru (below_thru (below_thru (hbU0) hbU1) hbU2) hbU3) hbU4) hbU5) hbU6)).e6, (Y.past (below_thru (below_thru (below_thru (below_thru (below_thru (below_thru (hbU0) hbU1) hbU2) hbU3) hbU4) hbU5) hbU6)).e6⟩ ?_
        · (try dsimp only at hSw)
          first | (go_simp; done) | (go_simp; with_reducible rfl)
        try simp only [List.getElem_toArray, List.getElem_cons_succ, List.getElem_cons_zero, Act.put, List.setIfInBounds_toArray, List.set_cons_zero, List.set_cons_succ]
        refine wpAnyH_take (i := 28) (v := .agg #[.bool rx.g, .slice rx.p (dig B16 rx.m).length rx.c, .int .i64 rx.e]) rfl (by kernel_rfl) (by kernel_rfl) (by kernel_rfl) (fun _ _ _ h => h) (.inl ⟨by rfl, fun w' hSw => ?_⟩) ⟨(X.past (below_thru (below_thru (below_thru (below_thru (below_thru (below_thru (hbU0) hbU1) hbU2) hbU3) hbU4) hbU5) hbU6)).e6, (Y.past (below_thru (below_thru (below_thru (below_thru (below_thru (below_thru (hbU0) hbU1) hbU2) hbU3) hbU4) hbU5) hbU6)).e6⟩ ?_
        · (try dsimp only at hSw)
          first | (go_simp; done) | (go_simp; with_reducible rfl)
        try simp only [List.getElem_toArray, List.getElem_cons_succ, List.getElem_cons_zero, Act.put, List.setIfInBounds_toArray, List.set_cons_zero, List.set_cons_succ]
        refine wpAnyH_ready (rs := [29]) (by kernel_rfl) (by simp) ?_
        refine AllReadyH.cons rfl (fun K hK => ?_) AllReadyH.nil
        replace LO := (LO.past (below_thru (below_thru (below_thru (below_thru (below_thru (below_thru (hbU0) hbU1) hbU2) hbU3) hbU4) hbU5) hbU6))
        obtain ⟨LO_0, LO_1, LO_2⟩ := LO.e3
        have LO_f0 := LO.f 0
        have LO_f1 := LO.f 1
        have LO_f2 := LO.f 2
        go_simp
        clear LO_0 LO_1 LO_2 LO_f0 LO_f1 LO_f2
        refine hK.out _ _ ⟨((X.past (below_thru (below_thru (below_thru (below_thru (below_thru (below_thru (hbU0) hbU1) hbU2) hbU3) hbU4) hbU5) hbU6)).only (only3 _ _ _ _ _) (by omega)).e6, ((Y.past (below_thru (below_thru (below_thru (below_thru (below_thru (below_thru (hbU0) hbU1) hbU2) hbU3) hbU4) hbU5) hbU6)).only (only3 _ _ _ _ _) (by omega)).e6⟩ (fun _ => ?_)
        refine anyH_put3 LO (fun U7 hOU7 LO => ?_)
        have hzU7 := Nat.le_of_eq hOU7.size
        have hyU7 := Nat.le_of_eq hOU7.size.symm
        clear hK K
        try simp only [List.getElem_toArray, List.getElem_cons_succ, List.getElem_cons_zero, Act.put, List.setIfInBounds_toArray, List.set_cons_zero, List.set_cons_succ]
        refine wpAnyH_done (by kernel_rfl) ?_ _
        replace X := ((X.past (below_thru (below_thru (below_thru (below_thru (below_thru (below_thru (hbU0) hbU1) hbU2) hbU3) hbU4) hbU5) hbU6)).only hOU7 (by omega))
        replace Y := ((Y.past (below_thru (below_thru (below_thru (below_thru (below_thru (below_thru (hbU0) hbU1) hbU2) hbU3) hbU4) hbU5) hbU6)).only hOU7 (by omega))
        replace C := ((C.past (below_thru (below_thru (below_thru (below_thru (below_thru (below_thru (hbU0) hbU1) hbU2) hbU3) hbU4) hbU5) hbU6)).only hOU7 (by omega))
        replace HI := ((HI.past (below_thru (below_thru (below_thru (below_thru (below_thru (below_thru (hbU0) hbU1) hbU2) hbU3) hbU4) hbU5) hbU6)).only hOU7 (by omega))
        replace hT := ((((((((hT.past hbU0).past hbU1).past hbU2).past hbU3).past hbU4).past hbU5).past hbU6).below (hOU7.below (Nat.le_refl _)) (by omega))
        replace ho2 := ((ho2.past (below_thru (below_thru (below_thru (below_thru (below_thru (below_thru (hbU0) hbU1) hbU2) hbU3) hbU4) hbU5) hbU6)).only hOU7 (fun h => by have := bho2 h; omega))
        replace hq2 := ((hq2.past (below_thru (below_thru (below_thru (below_thru (below_thru (below_thru (hbU0) hbU1) hbU2) hbU3) hbU4) hbU5) hbU6)).only hOU7 (fun h => by have := bhq2 h; omega))
        replace hs13 := ((below_thru (below_thru (below_thru (below_thru (below_thru (below_thru (below_thru hs13 hbU0) hbU1) hbU2) hbU3) hbU4) hbU5) hbU6).trans (hOU7.below (by omega)))
        replace fxl := ((fxl.past (below_thru (below_thru (below_thru (below_thru (below_thru (below_thru (hbU0) hbU1) hbU2) hbU3) hbU4) hbU5) hbU6)).only hOU7 (fun h => by have := afxl h; have := lfxl h; omega))
        replace fxh := ((fxh.past (below_thru (below_thru (below_thru (below_thru (below_thru (below_thru (hbU0) hbU1) hbU2) hbU3) hbU4) hbU5) hbU6)).only hOU7 (fun h => by have := afxh h; have := lfxh h; omega))
        replace fyl := ((fyl.past (below_thru (below_thru (below_thru (below_thru (below_thru (below_thru (hbU0) hbU1) hbU2) hbU3) hbU4) hbU5) hbU6)).only hOU7 (fun h => by have := afyl h; have := lfyl h; omega))
        replace fyh := ((fyh.past (below_thru (below_thru (below_thru (below_thru (below_thru (below_thru (hbU0) hbU1) hbU2) hbU3) hbU4) hbU5) hbU6)).only hOU7 (fun h => by have := afyh h; have := lfyh h; omega))
        replace frl := (frl.only hOU7 (fun h => by have := afrl h; have := lfrl h; omega))
        clear fu1 fu2 fu3 fu4 E
        go_upto_region 11 with (fail)
        obtain ⟨T0, hV0⟩ : ∃ V0, V0 = (U7).drew := ⟨_, rfl⟩
        have hbT0 : Below (U7).heap.size (U7) T0 := by rw [hV0]; exact (Below.refl _ _).drew
        have hzT0 := hbT0.size
        refine wp_region_held_drew (S := fun w' => (w'.cell? ⟨w4.heap.size, 0, none⟩ = some (.bool xl.g) ∧ w'.cell? ⟨w4.heap.size, 1, none⟩ = some (.slice xl.p (dig B16 xl.m).length xl.c) ∧ w'.cell? ⟨w4.heap.size, 2, none⟩ = some (.int .i64 xl.e) ∧ w'.cell? ⟨w4.heap.size, 3, none⟩ = some (.bool xh.g) ∧ w'.cell? ⟨w4.heap.size, 4, none⟩ = some (.slice xh.p (dig B16 xh.m).length xh.c) ∧ w'.cell? ⟨w4.heap.size, 5, none⟩ = some (.int .i64 xh.e)) ∧ (w'.cell? ⟨w4.heap.size + 1, 0, none⟩ = some (.bool yl.g) ∧ w'.cell? ⟨w4.heap.size + 1, 1, none⟩ = some (.slice yl.p (dig B16 yl.m).length yl.c) ∧ w'.cell? ⟨w4.heap.size + 1, 2, none⟩ = some (.int .i64 yl.e) ∧ w'.cell? ⟨w4.heap.size + 1, 3, none⟩ = some (.bool yh.g) ∧ w'.cell? ⟨w4.heap.size + 1, 4, none⟩ = some (.slice yh.p (dig B16 yh.m).length yh.c) ∧ w'.cell? ⟨w4.heap.size + 1, 5, none⟩ = some (.int .i64 yh.e))) (by kernel_rfl) (by rw [← hV0]; exact ⟨(X.past (hbT0)).e6, (Y.past (hbT0)).e6⟩) (fun hHeld => ?_)
        clear hHeld
        rw [← hV0]
        clear hV0
        refine wpAnyH_take (i := 0) (v := .pointer (some ⟨w4.heap.size, 0, none⟩)) rfl (by kernel_rfl) (by kernel_rfl) (by kernel_rfl) (fun _ _ _ h => h) (.inl ⟨by rfl, fun w' hSw => ?_⟩) ⟨(X.past (hbT0)).e6, (Y.past (hbT0)).e6⟩ ?_
        · (try dsimp only at hSw)
          first | (go_simp; done) | (go_simp; with_reducible rfl)
        try simp only [List.getElem_toArray, List.getElem_cons_zero, Act.put, List.setIfInBounds_toArray, List.set_cons_zero, List.set_cons_succ]
        refine wpAnyH_take (i := 1) (v := .agg #[.bool xl.g, .slice xl.p (dig B16 xl.m).length xl.c, .int .i64 xl.e]) rfl (by kernel_rfl) (by kernel_rfl) (by kernel_rfl) (fun _ _ _ h => h) (.inl ⟨by rfl, fun w' hSw => ?_⟩) ⟨(X.past (hbT0)).e6, (Y.past (hbT0)).e6⟩ ?_
        · (try dsimp only at hSw)
          first | (go_simp; done) | (go_simp; with_reducible rfl)
        try simp only [List.getElem_toArray, List.getElem_cons_succ, List.getElem_cons_zero, Act.put, List.setIfInBounds_toArray, List.set_cons_zero, List.set_cons_succ]
        refine wpAnyH_take (i := 2) (v := .pointer (some ⟨w4.heap.size + 1, 0, none⟩)) rfl (by kernel_rfl) (by kernel_rfl) (by kernel_rfl) (fun _ _ _ h => h) (.inl ⟨by rfl, fun w' hSw => ?_⟩) ⟨(X.past (hbT0)).e6, (Y.past (hbT0)).e6⟩ ?_
        · (try dsimp only at hSw)
          first | (go_simp; done) | (go_simp; with_reducible rfl)
        try simp only [List.getElem_toArray, List.getElem_cons_succ, List.getElem_cons_zero, Act.put, List.setIfInBounds_toArray, List.set_cons_zero, List.set_cons_succ]
        refine wpAnyH_take (i := 3) (v := .agg #[.bool yl.g, .slice yl.p (dig B16 yl.m).length yl.c, .int .i64 yl.e]) rfl (by kernel_rfl) (by kernel_rfl) (by kernel_rfl) (fun _ _ _ h => h) (.inl ⟨by rfl, fun w' hSw => ?_⟩) ⟨(X.past (hbT0)).e6, (Y.past (hbT0)).e6⟩ ?_
        · (try dsimp only at hSw)
          first | (go_simp; done) | (go_simp; with_reducible rfl)
        try simp only [List.getElem_toArray, List.getElem_cons_succ, List.getElem_cons_zero, Act.put, List.setIfInBounds_toArray, List.set_cons_zero, List.set_cons_succ]
        refine wpAnyH_take (i := 4) (v := .int .i64 n) rfl (by kernel_rfl) (by kernel_rfl) (by kernel_rfl) (fun _ _ _ h => h) (.inl ⟨by rfl, fun w' hSw => ?_⟩) ⟨(X.past (hbT0)).e6, (Y.past (hbT0)).e6⟩ ?_
        · (try dsimp only at hSw)
          first | (go_simp; done) | (go_simp; with_reducible rfl)
        try simp only [List.getElem_toArray, List.getElem_cons_succ, List.getElem_cons_zero, Act.put, List.setIfInBounds_toArray, List.set_cons_zero, List.set_cons_succ]
        refine wpAnyH_take (i := 6) (v := .pointer (some ⟨w4.heap.size, 0, none⟩)) rfl (by kernel_rfl) (by kernel_rfl) (by kernel_rfl) (fun _ _ _ h => h) (.inl ⟨by rfl, fun w' hSw => ?_⟩) ⟨(X.past (hbT0)).e6, (Y.past (hbT0)).e6⟩ ?_
        · (try dsimp only at hSw)
          first | (go_simp; done) | (go_simp; with_reducible rfl)
        try simp only [List.getElem_toArray, List.getElem_cons_succ, List.getElem_cons_zero, Act.put, List.setIfInBounds_toArray, List.set_cons_zero, List.set_cons_succ]
        refine wpAnyH_take (i := 7) (v := .agg #[.bool xl.g, .slice xl.p (dig B16 xl.m).length xl.c, .int .i64 xl.e]) rfl (by kernel_rfl) (by kernel_rfl) (by kernel_rfl) (fun _ _ _ h => h) (.inl ⟨by rfl, fun w' hSw => ?_⟩) ⟨(X.past (hbT0)).e6, (Y.past (hbT0)).e6⟩ ?_
        · (try dsimp only at hSw)
          first | (go_simp; done) | (go_simp; with_reducible rfl)
        try simp only [List.getElem_toArray, List.getElem_cons_succ, List.getElem_cons_zero, Act.put, List.setIfInBounds_toArray, List.set_cons_zero, List.set_cons_succ]
        refine wpAnyH_take (i := 8) (v := .pointer (some ⟨w4.heap.size + 1, 3, none⟩)) rfl (by kernel_rfl) (by kernel_rfl) (by kernel_rfl) (fun _ _ _ h => h) (.inl ⟨by rfl, fun w' hSw => ?_⟩) ⟨(X.past (hbT0)).e6, (Y.past (hbT0)).e6⟩ ?_
        · (try dsimp only at hSw)
          first | (go_simp; done) | (go_simp; with_reducible rfl)
        try simp only [List.getElem_toArray, List.getElem_cons_succ, List.getElem_cons_zero, Act.put, List.setIfInBounds_toArray, List.set_cons_zero, List.set_cons_succ]
        refine wpAnyH_take (i := 9) (v := .agg #[.bool yh.g, .slice yh.p (dig B16 yh.m).length yh.c, .int .i64 yh.e]) rfl (by kernel_rfl) (by kernel_rfl) (by kernel_rfl) (fun _ _ _ h => h) (.inl ⟨by rfl, fun w' hSw => ?_⟩) ⟨(X.past (hbT0)).e6, (Y.past (hbT0)).e6⟩ ?_
        · (try dsimp only at hSw)
          first | (go_simp; done) | (go_simp; with_reducible rfl)
        try simp only [List.getElem_toArray, List.getElem_cons_succ, List.getElem_cons_zero, Act.put, List.setIfInBounds_toArray, List.set_cons_zero, List.set_cons_succ]
        refine wpAnyH_take (i := 10) (v := .int .i64 n) rfl (by kernel_rfl) (by kernel_rfl) (by kernel_rfl) (fun _ _ _ h => h) (.inl ⟨by rfl, fun w' hSw => ?_⟩) ⟨(X.past (hbT0)).e6, (Y.past (hbT0)).e6⟩ ?_
        · (try dsimp only at hSw)
          first | (go_simp; done) | (go_simp; with_reducible rfl)
        try simp only [List.getElem_toArray, List.getElem_cons_succ, List.getElem_cons_zero, Act.put, List.setIfInBounds_toArray, List.set_cons_zero, List.set_cons_succ]
        refine wpAnyH_take (i := 12) (v := .pointer (some ⟨w4.heap.size, 3, none⟩)) rfl (by kernel_rfl) (by kernel_rfl) (by kernel_rfl) (fun _ _ _ h => h) (.inl ⟨by rfl, fun w' hSw => ?_⟩) ⟨(X.past (hbT0)).e6, (Y.past (hbT0)).e6⟩ ?_
        · (try dsimp only at hSw)
          first | (go_simp; done) | (go_simp; with_reducible rfl)
        try simp only [List.getElem_toArray, List.getElem_cons_succ, List.getElem_cons_zero, Act.put, List.setIfInBounds_toArray, List.set_cons_zero, List.set_cons_succ]
        refine wpAnyH_take (i := 13) (v := .agg #[.bool xh.g, .slice xh.p (dig B16 xh.m).length xh.c, .int .i64 xh.e]) rfl (by kernel_rfl) (by kernel_rfl) (by kernel_rfl) (fun _ _ _ h => h) (.inl ⟨by rfl, fun w' hSw => ?_⟩) ⟨(X.past (hbT0)).e6, (Y.past (hbT0)).e6⟩ ?_
        · (try dsimp only at hSw)
          first | (go_simp; done) | (go_simp; with_reducible rfl)
        try simp only [List.getElem_toArray, List.getElem_cons_succ, List.getElem_cons_zero, Act.put, List.setIfInBounds_toArray, List.set_cons_zero, List.set_cons_succ]
        refine wpAnyH_take (i := 14) (v := .pointer (some ⟨w4.heap.size + 1, 0, none⟩)) rfl (by kernel_rfl) (by kernel_rfl) (by kernel_rfl) (fun _ _ _ h => h) (.inl ⟨by rfl, fun w' hSw => ?_⟩) ⟨(X.past (hbT0)).e6, (Y.past (hbT0)).e6⟩ ?_
        · (try dsimp only at hSw)
          first | (go_simp; done) | (go_simp; with_reducible rfl)
        try simp only [List.getElem_toArray, List.getElem_cons_succ, List.getElem_cons_zero, Act.put, List.setIfInBounds_toArray, List.set_cons_zero, List.set_cons_succ]
        refine wpAnyH_take (i := 15) (v := .agg #[.bool yl.g, .slice yl.p (dig B16 yl.m).length yl.c, .int .i64 yl.e]) rfl (by kernel_rfl) (by kernel_rfl) (by kernel_rfl) (fun _ _ _ h => h) (.inl ⟨by rfl, fun w' hSw => ?_⟩) ⟨(X.past (hbT0)).e6, (Y.past (hbT0)).e6⟩ ?_
        · (try dsimp only at hSw)
          first | (go_simp; done) | (go_simp; with_reducible rfl)
        try simp only [List.getElem_toArray, List.getElem_cons_succ, List.getElem_cons_zero, Act.put, List.setIfInBounds_toArray, List.set_cons_zero, List.set_cons_succ]
        refine wpAnyH_take (i := 16) (v := .int .i64 n) rfl (by kernel_rfl) (by kernel_rfl) (by kernel_rfl) (fun _ _ _ h => h) (.inl ⟨by rfl, fun w' hSw => ?_⟩) ⟨(X.past (hbT0)).e6, (Y.past (hbT0)).e6⟩ ?_
        · (try dsimp only at hSw)
          first | (go_simp; done) | (go_simp; with_reducible rfl)
        try simp only [List.getElem_toArray, List.getElem_cons_succ, List.getElem_cons_zero, Act.put, List.setIfInBounds_toArray, List.set_cons_zero, List.set_cons_succ]
        refine wpAnyH_take (i := 18) (v := .pointer (some ⟨w4.heap.size, 3, none⟩)) rfl (by kernel_rfl) (by kernel_rfl) (by kernel_rfl) (fun _ _ _ h => h) (.inl ⟨by rfl, fun w' hSw => ?_⟩) ⟨(X.past (hbT0)).e6, (Y.past (hbT0)).e6⟩ ?_
        · (try dsimp only at hSw)
          first | (go_simp; done) | (go_simp; with_reducible rfl)
        try simp only [List.getElem_toArray, List.getElem_cons_succ, List.getElem_cons_zero, Act.put, List.setIfInBounds_toArray, List.set_cons_zero, List.set_cons_succ]
        refine wpAnyH_take (i := 19) (v := .agg #[.bool xh.g, .slice xh.p (dig B16 xh.m).length xh.c, .int .i64 xh.e]) rfl (by kernel_rfl) (by kernel_rfl) (by kernel_rfl) (fun _ _ _ h => h) (.inl ⟨by rfl, fun w' hSw => ?_⟩) ⟨(X.past (hbT0)).e6, (Y.past (hbT0)).e6⟩ ?_
        · (try dsimp only at hSw)
          first | (go_simp; done) | (go_simp; with_reducible rfl)
        try simp only [List.getElem_toArray, List.getElem_cons_succ, List.getElem_cons_zero, Act.put, List.setIfInBounds_toArray, List.set_cons_zero, List.set_cons_succ]
        refine wpAnyH_take (i := 20) (v := .pointer (some ⟨w4.heap.size + 1, 3, none⟩)) rfl (by kernel_rfl) (by kernel_rfl) (by kernel_rfl) (fun _ _ _ h => h) (.inl ⟨by rfl, fun w' hSw => ?_⟩) ⟨(X.past (hbT0)).e6, (Y.past (hbT0)).e6⟩ ?_
        · (try dsimp only at hSw)
          first | (go_simp; done) | (go_simp; with_reducible rfl)
        try simp only [List.getElem_toArray, List.getElem_cons_succ, List.getElem_cons_zero, Act.put, List.setIfInBounds_toArray, List.set_cons_zero, List.set_cons_succ]
        refine wpAnyH_take (i := 21) (v := .agg #[.bool yh.g, .slice yh.p (dig B16 yh.m).length yh.c, .int .i64 yh.e]) rfl (by kernel_rfl) (by kernel_rfl) (by kernel_rfl) (fun _ _ _ h => h) (.inl ⟨by rfl, fun w' hSw => ?_⟩) ⟨(X.past (hbT0)).e6, (Y.past (hbT0)).e6⟩ ?_
        · (try dsimp only at hSw)
          first | (go_simp; done) | (go_simp; with_reducible rfl)
        try simp only [List.getElem_toArray, List.getElem_cons_succ, List.getElem_cons_zero, Act.put, List.setIfInBounds_toArray, List.set_cons_zero, List.set_cons_succ]
        refine wpAnyH_take (i := 22) (v := .int .i64 n) rfl (by kernel_rfl) (by kernel_rfl) (by kernel_rfl) (fun _ _ _ h => h) (.inl ⟨by rfl, fun w' hSw => ?_⟩) ⟨(X.past (hbT0)).e6, (Y.past (hbT0)).e6⟩ ?_
        · (try dsimp only at hSw)
          first | (go_simp; done) | (go_simp; with_reducible rfl)
        try simp only [List.getElem_toArray, List.getElem_cons_succ, List.getElem_cons_zero, Act.put, List.setIfInBounds_toArray, List.set_cons_zero, List.set_cons_succ]
        refine wpAnyH_ready (rs := [5]) (by kernel_rfl) (by simp) ?_
        refine AllReadyH.cons rfl (fun K hK => ?_) AllReadyH.nil
        go_simp
        go_at_call 22; ((with_reducible refine (doverG_any xl yl n _ _ true _ _ rv1 _ HXL.out HYL.out (fxl.past (hbT0)) (fyl.past (hbT0)) sa sa' Ba n1 (by omega) (by omega) HDrv1.out).mono ?_)); rintro exT1 T1 ⟨u1, hu1, rfl, fu1, hbT1⟩
        have HU1 := Lib.hid hu1
        clear hu1
        have hzT1 := hbT1.size
        refine hK.out _ _ ⟨(X.past (below_thru (hbT0) hbT1)).e6, (Y.past (below_thru (hbT0) hbT1)).e6⟩ (fun _ => ?_)
        clear hK K
        try simp only [List.getElem_toArray, List.getElem_cons_succ, List.getElem_cons_zero, Act.put, List.setIfInBounds_toArray, List.set_cons_zero, List.set_cons_succ]
        refine wpAnyH_ready (rs := [11]) (by kernel_rfl) (by simp) ?_
        refine AllReadyH.cons rfl (fun K hK => ?_) AllReadyH.nil
        go_simp
        go_at_call 22; ((with_reducible refine (doverG_any xl yh n _ _ true _ _ rv2 _ HXL.out HYH.out (fxl.past (below_thru (hbT0) hbT1)) (fyh.past (below_thru (hbT0) hbT1)) sa sb' Ba n2 (by omega) (by omega) HDrv2.out).mono ?_)); rintro exT2 T2 ⟨u2, hu2, rfl, fu2, hbT2⟩
        have HU2 := Lib.hid hu2
        clear hu2
        have hzT2 := hbT2.size
        refine hK.out _ _ ⟨(X.past (below_thru (below_thru (hbT0) hbT1) hbT2)).e6, (Y.past (below_thru (below_thru (hbT0) hbT1) hbT2)).e6⟩ (fun _ => ?_)
        clear hK K
        try simp only [List.getElem_toArray, List.getElem_cons_succ, List.getElem_cons_zero, Act.put, List.setIfInBounds_toArray, List.set_cons_zero, List.set_cons_succ]
        refine wpAnyH_ready (rs := [17]) (by kernel_rfl) (by simp) ?_
        refine AllReadyH.cons rfl (fun K hK => ?_) AllReadyH.nil
        go_simp
        go_at_call 22; ((with_reducible refine (doverG_any xh yl n _ _ true _ _ rv3 _ HXH.out HYL.out (fxh.past (below_thru (below_thru (hbT0) hbT1) hbT2)) (fyl.past (below_thru (below_thru (hbT0) hbT1) hbT2)) sb sa' Bb n1 (by omega) (by omega) HDrv3.out).mono ?_)); rintro exT3 T3 ⟨u3, hu3, rfl, fu3, hbT3⟩
        have HU3 := Lib.hid hu3
        clear hu3
        have hzT3 := hbT3.size
        refine hK.out _ _ ⟨(X.past (below_thru (below_thru (below_thru (hbT0) hbT1) hbT2) hbT3)).e6, (Y.past (below_thru (below_thru (below_thru (hbT0) hbT1) hbT2) hbT3)).e6⟩ (fun _ => ?_)
        clear hK K
        try simp only [List.getElem_toArray, List.getElem_cons_succ, List.getElem_cons_zero, Act.put, List.setIfInBounds_toArray, List.set_cons_zero, List.set_cons_succ]
        refine wpAnyH_ready (rs := [23]) (by kernel_rfl) (by simp) ?_
        refine AllReadyH.cons rfl (fun K hK => ?_) AllReadyH.nil
        go_simp
        go_at_call 22; ((with_reducible refine (doverG_any xh yh n _ _ true _ _ rv4 _ HXH.out HYH.out (fxh.past (below_thru (below_thru (below_thru (hbT0) hbT1) hbT2) hbT3)) (fyh.past (below_thru (below_thru (below_thru (hbT0) hbT1) hbT2) hbT3)) sb sb' Bb n2 (by omega) (by omega) HDrv4.out).mono ?_)); rintro exT4 T4 ⟨u4, hu4, rfl, fu4, hbT4⟩
        have HU4 := Lib.hid hu4
        clear hu4
        have hzT4 := hbT4.size
        refine hK.out _ _ ⟨(X.past (below_thru (below_thru (below_thru (below_thru (hbT0) hbT1) hbT2) hbT3) hbT4)).e6, (Y.past (below_thru (below_thru (below_thru (below_thru (hbT0) hbT1) hbT2) hbT3) hbT4)).e6⟩ (fun _ => ?_)
        clear hK K
        try simp only [List.getElem_toArray, List.getElem_cons_succ, List.getElem_cons_zero, Act.put, List.setIfInBounds_toArray, List.set_cons_zero, List.set_cons_succ]
        refine wpAnyH_ready (rs := [24]) (by kernel_rfl) (by simp) ?_
        refine AllReadyH.cons rfl (fun K hK => ?_) AllReadyH.nil
        go_simp
        refine hK.out _ _ ⟨((X.past (below_thru (below_thru (below_thru (below_thru (hbT0) hbT1) hbT2) hbT3) hbT4)).laid _).e6, ((Y.past (below_thru (below_thru (below_thru (below_thru (hbT0) hbT1) hbT2) hbT3) hbT4)).laid _).e6⟩ (fun _ => ?_)
        refine anyH_lay (fun T5 hbT5 hzT5 E => ?_)
        clear hK K
        try simp only [List.getElem_toArray, List.getElem_cons_succ, List.getElem_cons_zero, Act.put, List.setIfInBounds_toArray, List.set_cons_zero, List.set_cons_succ]
        refine wpAnyH_ready (rs := [25]) (by kernel_rfl) (by simp) ?_
        refine AllReadyH.cons rfl (fun K hK => ?_) AllReadyH.nil
        go_simp
        go_at_call 21; ((with_reducible refine (endsF4_any _ _ U7.heap.size u1 u2 u3 u4 rv1 rv2 rv3 rv4 zl dh _ HU1.out HU2.out HU3.out HU4.out HDzl.out HDdh.out E ((fu1.past (below_thru (below_thru (below_thru (hbT2) hbT3) hbT4) hbT5)).mono (by omega)) ((fu2.past (below_thru (below_thru (hbT3) hbT4) hbT5)).mono (by omega)) ((fu3.past (below_thru (hbT4) hbT5)).mono (by omega)) ((fu4.past (hbT5)).mono (by omega))).mono ?_)); rintro exT6 T6 ⟨ry, rh, -, hrh, rfl, -, frh, hbT6⟩
        have HRH := Lib.hid hrh
        clear hrh
        have afrh := frh.at_
        have lfrh := frh.lt
        have hzT6 := hbT6.size
        refine hK.out _ _ ⟨(X.past (below_thru (below_thru (below_thru (below_thru (below_thru (below_thru (hbT0) hbT1) hbT2) hbT3) hbT4) hbT5) hbT6)).e6, (Y.past (below_thru (below_thru (below_thru (below_thru (below_thru (below_thru (hbT0) hbT1) hbT2) hbT3) hbT4) hbT5) hbT6)).e6⟩ (fun _ => ?_)
        clear hK K
        try simp only [List.getElem_toArray, List.getElem_cons_succ, List.getElem_cons_zero, Act.put, List.setIfInBounds_toArray, List.set_cons_zero, List.set_cons_succ]
        refine wpAnyH_take (i := 26) (v := .tuple #[.agg #[.bool ry.g, .slice ry.p (dig B16 ry.m).length ry.c, .int .i64 ry.e], .agg #[.bool rh.g, .slice rh.p (dig B16 rh.m).length rh.c, .int .i64 rh.e]]) rfl (by kernel_rfl) (by kernel_rfl) (by kernel_rfl) (fun _ _ _ h => h) (.inl ⟨by rfl, fun w' hSw => ?_⟩) ⟨(X.past (below_thru (below_thru (below_thru (below_thru (below_thru (below_thru (hbT0) hbT1) hbT2) hbT3) hbT4) hbT5) hbT6)).e6, (Y.past (below_thru (below_thru (below_thru (below_thru (below_thru (below_thru (hbT0) hbT1) hbT2) hbT3) hbT4) hbT5) hbT6)).e6⟩ ?_
        · (try dsimp only at hSw)
          first | (go_simp; done) | (go_simp; with_reducible rfl)
        try simp only [List.getElem_toArray, List.getElem_cons_succ, List.getElem_cons_zero, Act.put, List.setIfInBounds_toArray, List.set_cons_zero, List.set_cons_succ]
        refine wpAnyH_take (i := 27) (v := .agg #[.bool ry.g, .slice ry.p (dig B16 ry.m).length ry.c, .int .i64 ry.e]) rfl (by kernel_rfl) (by kernel_rfl) (by kernel_rfl) (fun _ _ _ h => h) (.inl ⟨by rfl, fun w' hSw => ?_⟩) ⟨(X.past (below_thru (below_thru (below_thru (below_thru (below_thru (below_thru (hbT0) hbT1) hbT2) hbT3) hbT4) hbT5) hbT6)).e6, (Y.past (below_thru (below_thru (below_thru (below_thru (below_thru (below_thru (hbT0) hbT1) hbT2) hbT3) hbT4) hbT5) hbT6)).e6⟩ ?_
        · (try dsimp only at hSw)
          first | (go_simp; done) | (go_simp; with_reducible rfl)
        try simp only [List.getElem_toArray, List.getElem_cons_succ, List.getElem_cons_zero, Act.put, List.setIfInBounds_toArray, List.set_cons_zero, List.set_cons_succ]
        refine wpAnyH_take (i := 28) (v := .agg #[.bool rh.g, .slice rh.p (dig B16 rh.m).length rh.c, .int .i64 rh.e]) rfl (by kernel_rfl) (by kernel_rfl) (by kernel_rfl) (fun _ _ _ h => h) (.inl ⟨by rfl, fun w' hSw => ?_⟩) ⟨(X.past (below_thru (below_thru (below_thru (below_thru (below_thru (below_thru (hbT0) hbT1) hbT2) hbT3) hbT4) hbT5) hbT6)).e6, (Y.past (below_thru (below_thru (below_thru (below_thru (below_thru (below_thru (hbT0) hbT1) hbT2) hbT3) hbT4) hbT5) hbT6)).e6⟩ ?_
        · (try dsimp only at hSw)
          first | (go_simp; done) | (go_simp; with_reducible rfl)
        try simp only [List.getElem_toArray, List.getElem_cons_succ, List.getElem_cons_zero, Act.put, List.setIfInBounds_toArray, List.set_cons_zero, List.set_cons_succ]
        refine wpAnyH_ready (rs := [29]) (by kernel_rfl) (by simp) ?_
        refine AllReadyH.cons rfl (fun K hK => ?_) AllReadyH.nil
        replace HI := (HI.past (below_thru (below_thru (below_thru (below_thru (below_thru (below_thru (hbT0) hbT1) hbT2) hbT3) hbT4) hbT5) hbT6))
        obtain ⟨HI_0, HI_1, HI_2⟩ := HI.e3
        have HI_f0 := HI.f 0
        have HI_f1 := HI.f 1
        have HI_f2 := HI.f 2
        go_simp
        clear HI_0 HI_1 HI_2 HI_f0 HI_f1 HI_f2
        refine hK.out _ _ ⟨((X.past (below_thru (below_thru (below_thru (below_thru (below_thru (below_thru (hbT0) hbT1) hbT2) hbT3) hbT4) hbT5) hbT6)).only (only3 _ _ _ _ _) (by omega)).e6, ((Y.past (below_thru (below_thru (below_thru (below_thru (below_thru (below_thru (hbT0) hbT1) hbT2) hbT3) hbT4) hbT5) hbT6)).only (only3 _ _ _ _ _) (by omega)).e6⟩ (fun _ => ?_)
        refine anyH_put3 HI (fun T7 hOT7 HI => ?_)
        have hzT7 := Nat.le_of_eq hOT7.size
        have hyT7 := Nat.le_of_eq hOT7.size.symm
        clear hK K
        try simp only [List.getElem_toArray, List.getElem_cons_succ, List.getElem_cons_zero, Act.put, List.setIfInBounds_toArray, List.set_cons_zero, List.set_cons_succ]
        refine wpAnyH_done (by kernel_rfl) ?_ _
        replace C := ((C.past (below_thru (below_thru (below_thru (below_thru (below_thru (below_thru (hbT0) hbT1) hbT2) hbT3) hbT4) hbT5) hbT6)).only hOT7 (by omega))
        replace LO := ((LO.past (below_thru (below_thru (below_thru (below_thru (below_thru (below_thru (hbT0) hbT1) hbT2) hbT3) hbT4) hbT5) hbT6)).only hOT7 (by omega))
        replace hT := ((((((((hT.past hbT0).past hbT1).past hbT2).past hbT3).past hbT4).past hbT5).past hbT6).below (hOT7.below (Nat.le_refl _)) (by omega))
        replace ho2 := ((ho2.past (below_thru (below_thru (below_thru (below_thru (below_thru (below_thru (hbT0) hbT1) hbT2) hbT3) hbT4) hbT5) hbT6)).only hOT7 (fun h => by have := bho2 h; omega))
        replace hq2 := ((hq2.past (below_thru (below_thru (below_thru (below_thru (below_thru (below_thru (hbT0) hbT1) hbT2) hbT3) hbT4) hbT5) hbT6)).only hOT7 (fun h => by have := bhq2 h; omega))
        replace hs13 := ((below_thru (below_thru (below_thru (below_thru (below_thru (below_thru (below_thru hs13 hbT0) hbT1) hbT2) hbT3) hbT4) hbT5) hbT6).trans (hOT7.below (by omega)))
        replace frl := ((frl.past (below_thru (below_thru (below_thru (below_thru (below_thru (below_thru (hbT0) hbT1) hbT2) hbT3) hbT4) hbT5) hbT6)).only hOT7 (fun h => by have := afrl h; have := lfrl h; omega))
        replace frh := (frh.only hOT7 (fun h => by have := afrh h; have := lfrh h; omega))
        clear X Y fxl fxh fyl fyh fu1 fu2 fu3 fu4 E
        go_wp2_with fail
        replace frl := frl.mono (base' := w.heap.size + 1) (by omega)
        replace frh := frh.mono (base' := w.heap.size + 1) (by omega)
        have hz13 := hs13.size
        ((with_reducible refine (ballBegun_any _ hT).mono ?_))
        rintro e20 w20 ⟨rfl, hb20⟩
        replace C := C.past hb20
        replace LO := LO.past hb20
        replace HI := HI.past hb20
        replace hT := hT.past hb20
        replace ho2 := ho2.past hb20
        replace hq2 := hq2.past hb20
        replace frl := frl.past hb20
        replace frh := frh.past hb20
        have hs20 := hs13.trans (hb20.mono hs13.size)
        obtain ⟨C_0, C_1, C_2, C_3, C_4, C_5⟩ := C.e6
        obtain ⟨LO_0, LO_1, LO_2⟩ := LO.e3
        obtain ⟨HI_0, HI_1, HI_2⟩ := HI.e3
        go_wp2_with fail
        clear C_0 C_1 C_2 C_3 C_4 C_5 LO_0 LO_1 LO_2 HI_0 HI_1 HI_2
        have HI := Lib.hid (ballIs_of rl rh dl dh n (w.heap.size + 1) p2 q2 c2 d2 w20 HRL.out HRH.out frl frh (by omega) (by omega) HLX.out HLY.out ho2.rd hq2.rd)
        ((with_reducible refine HI.out.mono ?_))
        rintro e21 w21 ⟨rfl, hb21⟩
        go_wp2
        go_ret
        exact ⟨rfl, hs20.trans (hb21.mono hs20.size)⟩
  · unfold divL divH divE divC at HP
    simp only [h0, if_false] at HP
    generalize errC n [(a, b), (a', b')] = ec at *
    have t1 : (ec == 0) = false := beq_eq_false_iff_ne.2 h0
    have H0 := Lib.hid h0
    clear h0
    go_enter Tryd.func4, Tryd.ntmps4
    go_upto_region 1 with (fail)
    refine wp_lay2 (fun W1 hb1 hz1 A B => ?_)
    replace ha := ha.past hb1
    replace hb := hb.past hb1
    replace ha' := ha'.past hb1
    replace hb' := hb'.past hb1
    replace hT := hT.past hb1
    have hs1 := hb1
    obtain ⟨A_0, A_1, A_2, A_3, A_4, A_5⟩ := A.e6
    obtain ⟨B_0, B_1, B_2, B_3, B_4, B_5⟩ := B.e6
    go_wp2_with fail
    clear A_0 A_1 A_2 A_3 A_4 A_5 B_0 B_1 B_2 B_3 B_4 B_5
    ((with_reducible refine (HP _ ha hb ha' hb' hT).out.mono ?_))
    intro e2 w2 hg2
    obtain ⟨p2, c2, q2, d2, rfl, hb2⟩ := givesBE_none hg2
    replace A := A.past hb2
    replace B := B.past hb2
    replace ha := ha.past hb2
    replace hb := hb.past hb2
    replace ha' := ha'.past hb2
    replace hb' := hb'.past hb2
    replace hT := hT.past hb2
    have hs2 := hs1.trans (hb2.mono hs1.size)
    go_upto_region 2 with (fail)
    refine wp_lay1 (fun W3 hb3 hz3 C => ?_)
    replace A := A.past hb3
    replace B := B.past hb3
    replace ha := ha.past hb3
    replace hb := hb.past hb3
    replace ha' := ha'.past hb3
    replace hb' := hb'.past hb3
    replace hT := hT.past hb3
    have hs3 := hs2.trans (hb3.mono hs2.size)
    obtain ⟨A_0, A_1, A_2, A_3, A_4, A_5⟩ := A.e6
    obtain ⟨B_0, B_1, B_2, B_3, B_4, B_5⟩ := B.e6
    go_wp2_with fail
    clear A_0 A_1 A_2 A_3 A_4 A_5 B_0 B_1 B_2 B_3 B_4 B_5
    ((with_reducible refine ((HTW _ ha hb ha' hb').out).mono ?_))
    rintro e4 w4 ⟨rfl, hb4⟩
    replace A := A.past hb4
    replace B := B.past hb4
    replace C := C.past hb4
    replace ha := ha.past hb4
    replace hb := hb.past hb4
    replace ha' := ha'.past hb4
    replace hb' := hb'.past hb4
    replace hT := hT.past hb4
    have hs4 := hs3.trans (hb4.mono hs3.size)
    go_upto_region 4 with (fail)
    refine wp_lay2 (fun W5 hb5 hz5 X Y => ?_)
    replace C := C.past hb5
    replace hT := hT.past hb5
    have hs5 := hs4.trans (hb5.mono hs4.size)
    go_upto_region 9 with (fail)
    refine wp_lay2 (fun W6 hb6 hz6 LO HI => ?_)
    replace C := C.past hb6
    replace X := X.past hb6
    replace Y := Y.past hb6
    replace hT := hT.past hb6
    have hs6 := hs5.trans (hb6.mono hs5.size)
    go_wp2_with fail
    ((with_reducible refine (ballBegun_any _ hT).mono ?_))
    rintro e20 w20 ⟨rfl, hb20⟩
    replace C := C.past hb20
    replace X := X.past hb20
    replace Y := Y.past hb20
    replace LO := LO.past hb20
    replace HI := HI.past hb20
    replace hT := hT.past hb20
    have hs20 := hs6.trans (hb20.mono hs6.size)
    obtain ⟨C_0, C_1, C_2, C_3, C_4, C_5⟩ := C.e6
    obtain ⟨LO_0, LO_1, LO_2⟩ := LO.e3
    obtain ⟨HI_0, HI_1, HI_2⟩ := HI.e3
    go_wp2_with fail
    clear C_0 C_1 C_2 C_3 C_4 C_5 LO_0 LO_1 LO_2 HI_0 HI_1 HI_2
    ((with_reducible refine (ballIs_err ec n p2 q2 c2 d2 w20 (by first | omega | exact H0.out)).mono ?_))
    rintro e21 w21 ⟨rfl, hb21⟩
    go_wp2
    go_ret
    exact ⟨rfl, hs20.trans (hb21.mono hs20.size)⟩

end Go.Proofs.YtkooikgplpamlaaDoor
