/- The law BallJoins: its walk. -/
import Derived.Test.YtkooikgplpamlaaDoorZLawB1
import Derived.Test.YtkooikgplpamlaaDoorZL
namespace Go.Proofs.YtkooikgplpamlaaDoor
open Go.RowKit Go.Slip

theorem joinEnds {a b a' b' : Dv} (ha : Bare a) (hb : Bare b) (ha' : Bare a') (hb' : Bare b') (h : leD a b) (h' : leD a' b') (sa : SmD a) (sb : SmD b) (sa' : SmD a') (sb' : SmD b') (n : Int) :
    ∃ dl dh, joinL a b a' b' n = rCut dl n.toNat false ∧ joinH a b a' b' n = rCut dh n.toNat true ∧ (dig B16 (rCut dl n.toNat false).m).length ≤ 100000000 ∧ (dig B16 (rCut dh n.toNat true).m).length ≤ 100000000 ∧ rLow a [a'] = dl ∧ rHigh b [b'] = dh := by
  obtain ⟨m1, m2⟩ := join_ends ha hb ha' hb' h h'
  have h2 : Bare (rLow a [a']) := by rw [← low_eq _ _ ha (by simpa using ha')]; exact bare_mem ha (l := [a']) (by simpa using ha') _ (by rcases low_mem [a'] a with k | k; rw [k]; simp; exact List.mem_cons_of_mem _ k)
  have h3 : Bare (rHigh b [b']) := by rw [← high_eq _ _ hb (by simpa using hb')]; exact bare_mem hb (l := [b']) (by simpa using hb') _ (by rcases high_mem [b'] b with k | k; rw [k]; simp; exact List.mem_cons_of_mem _ k)
  have eL : joinL a b a' b' n = rCut (rLow a [a']) n.toNat false := by unfold joinL; rw [m1, pCut_eq h2]
  have eH : joinH a b a' b' n = rCut (rHigh b [b']) n.toNat true := by unfold joinH; rw [m2, pCut_eq h3]
  have l1 := len16 (joinL_len (n := n) sa sb sa' sb')
  have l2 := len16 (joinH_len (n := n) sa sb sa' sb')
  rw [eL] at l1
  rw [eH] at l2
  exact ⟨_, _, eL, eH, l1, l2, rfl, rfl⟩

set_option maxHeartbeats 8000000 in
set_option maxRecDepth 100000 in
theorem lawBJoin_row (a b a' b' : Din) (n : Int) (w : World) (ha : InD w a) (hb : InD w b) (ha' : InD w a') (hb' : InD w b') (hT : TabW w) :
    Calls Tryd.prog 5 #[.agg #[.bool a.g, .slice a.p a.xs.length a.c, .int .i64 a.e, .bool b.g, .slice b.p b.xs.length b.c, .int .i64 b.e], .agg #[.bool a'.g, .slice a'.p a'.xs.length a'.c, .int .i64 a'.e, .bool b'.g, .slice b'.p b'.xs.length b'.c, .int .i64 b'.e], .int .i64 n] w fun e w' => e = .returned (.bool true) ∧ Below w.heap.size w w' := by
  have HP := fun W k1 k2 k3 k4 k5 => Lib.hid (bJoin_any a b a' b' n W k1 k2 k3 k4 k5)
  have HTW := fun W k1 k2 k3 k4 => Lib.hid (twoBalls_any n a b a' b' W k1 k2 k3 k4)
  by_cases h0 : errC n [(a, b), (a', b')] = 0
  · obtain ⟨k1, k2, k3, k4⟩ := errC_ok2 h0
    obtain ⟨q1, q2, q5⟩ := errBall_ok k1
    obtain ⟨q3, q4, q6⟩ := errBall_ok k2
    have HEN := joinEnds (dyV_bare a) (dyV_bare b) (dyV_bare a') (dyV_bare b') (pCmp_leD (dyV_bare a) (dyV_bare b) q5) (pCmp_leD (dyV_bare a') (dyV_bare b') q6) (dyV_smD ha q1) (dyV_smD hb q2) (dyV_smD ha' q3) (dyV_smD hb' q4) n
    unfold twoL twoH twoE at HP
    simp only [h0, if_true] at HP
    rw [h0] at HTW
    have HOA := fun W k1 k2 => Lib.hid (refOfBall_any a b W k1 k2 q1 q2)
    have HOB := fun W k1 k2 => Lib.hid (refOfBall_any a' b' W k1 k2 q3 q4)
    clear q5 q6 k1 k2 h0
    generalize dyV a = va at *
    generalize dyV b = vb at *
    generalize dyV a' = va' at *
    generalize dyV b' = vb' at *
    obtain ⟨dl, dh, eL, eH, hlx, hly, HD⟩ := HEN
    simp only [eL, eH] at HP
    have HLX := Lib.hid hlx
    have HLY := Lib.hid hly
    clear eL eH hlx hly
    go_enter Tryd.func5, Tryd.ntmps5
    go_upto_region 1 with (fail)
    refine wp_lay2 (fun W1 hb1 hz1 A B => ?_)
    replace ha := ha.past hb1
    replace hb := hb.past hb1
    replace ha' := ha'.past hb1
    replace hb' := hb'.past hb1
    replace hT := hT.past hb1
    have hs1 := hb1
    obtain ⟨A_0, A_1, A_2, A_3, A_4, A_5⟩ := A.e6
    obtain ⟨B_0, B_1, B_2, B_3, B_4, B_5⟩ := B.e6
    go_wp2_with fail
    clear A_0 A_1 A_2 A_3 A_4 A_5 B_0 B_1 B_2 B_3 B_4 B_5
    ((with_reducible refine ((HP _ ha hb ha' hb' hT).out).mono ?_))
    rintro e2 w2 ⟨p2, c2, q2, d2, rfl, ho2, hq2, hb2⟩
    replace A := A.past hb2
    replace B := B.past hb2
    replace ha := ha.past hb2
    replace hb := hb.past hb2
    replace ha' := ha'.past hb2
    replace hb' := hb'.past hb2
    replace hT := hT.past hb2
    have hs2 := hs1.trans (hb2.mono hs1.size)
    have bho2 := ho2.blk_lt
    have bhq2 := hq2.blk_lt
    go_upto_region 2 with (fail)
    refine wp_lay1 (fun W3 hb3 hz3 C => ?_)
    replace A := A.past hb3
    replace B := B.past hb3
    replace ha := ha.past hb3
    replace hb := hb.past hb3
    replace ha' := ha'.past hb3
    replace hb' := hb'.past hb3
    replace hT := hT.past hb3
    replace ho2 := ho2.past hb3
    replace hq2 := hq2.past hb3
    have hs3 := hs2.trans (hb3.mono hs2.size)
    obtain ⟨A_0, A_1, A_2, A_3, A_4, A_5⟩ := A.e6
    obtain ⟨B_0, B_1, B_2, B_3, B_4, B_5⟩ := B.e6
    go_wp2_with fail
    clear A_0 A_1 A_2 A_3 A_4 A_5 B_0 B_1 B_2 B_3 B_4 B_5
    ((with_reducible refine ((HTW _ ha hb ha' hb').out).mono ?_))
    rintro e4 w4 ⟨rfl, hb4⟩
    replace A := A.past hb4
    replace B := B.past hb4
    replace C := C.past hb4
    replace ha := ha.past hb4
    replace hb := hb.past hb4
    replace ha' := ha'.past hb4
    replace hb' := hb'.past hb4
    replace hT := hT.past hb4
    replace ho2 := ho2.past hb4
    replace hq2 := hq2.past hb4
    have hs4 := hs3.trans (hb4.mono hs3.size)
    go_upto_region 5 with (fail)
    refine wp_lay2 (fun W5 hb5 hz5 LO HI => ?_)
    replace A := A.past hb5
    replace B := B.past hb5
    replace C := C.past hb5
    replace ha := ha.past hb5
    replace hb := hb.past hb5
    replace ha' := ha'.past hb5
    replace hb' := hb'.past hb5
    replace hT := hT.past hb5
    replace ho2 := ho2.past hb5
    replace hq2 := hq2.past hb5
    have hs5 := hs4.trans (hb5.mono hs4.size)
    have hz1 := hs1.size
    have hz2 := hb2.size
    have hz3 := hb3.size
    have hz4 := hb4.size
    go_cut [12, 13] (fun s12 s13 wx => ∃ (kx ky : Nat) (xl xh yl yh : Rw), s12 = .pointer (some ⟨kx, 0, none⟩) ∧ s13 = .pointer (some ⟨ky, 0, none⟩) ∧ xl.v = va ∧ xh.v = vb ∧ yl.v = va' ∧ yh.v = vb' ∧ Bx wx kx #[.bool xl.g, .slice xl.p (dig B16 xl.m).length xl.c, .int .i64 xl.e, .bool xh.g, .slice xh.p (dig B16 xh.m).length xh.c, .int .i64 xh.e] ∧ Bx wx ky #[.bool yl.g, .slice yl.p (dig B16 yl.m).length yl.c, .int .i64 yl.e, .bool yh.g, .slice yh.p (dig B16 yh.m).length yh.c, .int .i64 yh.e] ∧ kx ≠ ky ∧ W5.heap.size ≤ kx ∧ W5.heap.size ≤ ky ∧
      InF wx W5.heap.size xl ∧ InF wx W5.heap.size xh ∧ InF wx W5.heap.size yl ∧ InF wx W5.heap.size yh ∧ Below W5.heap.size W5 wx)
    case first =>
      have hWl := B.lt
      obtain ⟨V0, hV0⟩ : ∃ V0, V0 = (W5).drew := ⟨_, rfl⟩
      have hbV0 : Below (W5).heap.size (W5) V0 := by rw [hV0]; exact (Below.refl _ _).drew
      have hzV0 := hbV0.size
      refine wp_region_held_drew (S := fun w' => (w'.cell? ⟨w.heap.size, 0, none⟩ = some (.bool a.g) ∧ w'.cell? ⟨w.heap.size, 1, none⟩ = some (.slice a.p a.xs.length a.c) ∧ w'.cell? ⟨w.heap.size, 2, none⟩ = some (.int .i64 a.e) ∧ w'.cell? ⟨w.heap.size, 3, none⟩ = some (.bool b.g) ∧ w'.cell? ⟨w.heap.size, 4, none⟩ = some (.slice b.p b.xs.length b.c) ∧ w'.cell? ⟨w.heap.size, 5, none⟩ = some (.int .i64 b.e)) ∧ (w'.cell? ⟨w.heap.size + 1, 0, none⟩ = some (.bool a'.g) ∧ w'.cell? ⟨w.heap.size + 1, 1, none⟩ = some (.slice a'.p a'.xs.length a'.c) ∧ w'.cell? ⟨w.heap.size + 1, 2, none⟩ = some (.int .i64 a'.e) ∧ w'.cell? ⟨w.heap.size + 1, 3, none⟩ = some (.bool b'.g) ∧ w'.cell? ⟨w.heap.size + 1, 4, none⟩ = some (.slice b'.p b'.xs.length b'.c) ∧ w'.cell? ⟨w.heap.size + 1, 5, none⟩ = some (.int .i64 b'.e))) (by kernel_rfl) (by rw [← hV0]; exact ⟨(A.past (hbV0)).e6, (B.past (hbV0)).e6⟩) (fun hHeld => ?_)
      clear hHeld
      rw [← hV0]
      clear hV0
      refine wpAnyH_take (i := 0) (v := .agg #[.bool a.g, .slice a.p a.xs.length a.c, .int .i64 a.e, .bool b.g, .slice b.p b.xs.length b.c, .int .i64 b.e]) rfl (by kernel_rfl) (by kernel_rfl) (by kernel_rfl) (fun _ _ _ h => h) (.inl ⟨by rfl, fun w' hSw => ?_⟩) ⟨(A.past (hbV0)).e6, (B.past (hbV0)).e6⟩ ?_
      · (try dsimp only at hSw)
        first | (go_simp; done) | (go_simp; with_reducible rfl)
      try simp only [List.getElem_toArray, List.getElem_cons_zero, Act.put, List.setIfInBounds_toArray, List.set_cons_zero, List.set_cons_succ]
      refine wpAnyH_take (i := 2) (v := .agg #[.bool a'.g, .slice a'.p a'.xs.length a'.c, .int .i64 a'.e, .bool b'.g, .slice b'.p b'.xs.length b'.c, .int .i64 b'.e]) rfl (by kernel_rfl) (by kernel_rfl) (by kernel_rfl) (fun _ _ _ h => h) (.inl ⟨by rfl, fun w' hSw => ?_⟩) ⟨(A.past (hbV0)).e6, (B.past (hbV0)).e6⟩ ?_
      · (try dsimp only at hSw)
        first | (go_simp; done) | (go_simp; with_reducible rfl)
      try simp only [List.getElem_toArray, List.getElem_cons_succ, List.getElem_cons_zero, Act.put, List.setIfInBounds_toArray, List.set_cons_zero, List.set_cons_succ]
      refine wpAnyH_ready (rs := [1, 4, 5]) (by kernel_rfl) (by simp) ?_
      refine AllReadyH.cons rfl (fun K hK => ?_) ?_
      · skip
        go_simp
        go_at_call 19; ((with_reducible refine ((HOA _ (ha.past (hbV0)) (hb.past (hbV0))).out).mono ?_)); rintro exV1 V1 ⟨xl, xh, hxl, hxh, rfl, hfl, hfh, hbV1⟩
        have HXL := Lib.hid hxl
        have HXH := Lib.hid hxh
        clear hxl hxh
        have ahfl := hfl.at_
        have lhfl := hfl.lt
        have ahfh := hfh.at_
        have lhfh := hfh.lt
        have hzV1 := hbV1.size
        refine hK.out _ _ ⟨(A.past (below_thru (hbV0) hbV1)).e6, (B.past (below_thru (hbV0) hbV1)).e6⟩ (fun _ => ?_)
        clear hK K
        try simp only [List.getElem_toArray, List.getElem_cons_succ, List.getElem_cons_zero, Act.put, List.setIfInBounds_toArray, List.set_cons_zero, List.set_cons_succ]
        refine wpAnyH_ready (rs := [3, 4, 5]) (by kernel_rfl) (by simp) ?_
        refine AllReadyH.cons rfl (fun K hK => ?_) ?_
        · skip
          go_simp
          go_at_call 19; ((with_reducible refine ((HOB _ (ha'.past (below_thru (hbV0) hbV1)) (hb'.past (below_thru (hbV0) hbV1))).out).mono ?_)); rintro exV2 V2 ⟨yl, yh, hyl, hyh, rfl, hgl, hgh, hbV2⟩
          have HYL := Lib.hid hyl
          have HYH := Lib.hid hyh
          clear hyl hyh
          have ahgl := hgl.at_
          have lhgl := hgl.lt
          have ahgh := hgh.at_
          have lhgh := hgh.lt
          have hzV2 := hbV2.size
          refine hK.out _ _ ⟨(A.past (below_thru (below_thru (hbV0) hbV1) hbV2)).e6, (B.past (below_thru (below_thru (hbV0) hbV1) hbV2)).e6⟩ (fun _ => ?_)
          clear hK K
          try simp only [List.getElem_toArray, List.getElem_cons_succ, List.getElem_cons_zero, Act.put, List.setIfInBounds_toArray, List.set_cons_zero, List.set_cons_succ]
          refine wpAnyH_ready (rs := [4, 5]) (by kernel_rfl) (by simp) ?_
          refine AllReadyH.cons rfl (fun K hK => ?_) ?_
          · skip
            go_simp
            refine hK.out _ _ ⟨((A.past (below_thru (below_thru (hbV0) hbV1) hbV2)).laid _).e6, ((B.past (below_thru (below_thru (hbV0) hbV1) hbV2)).laid _).e6⟩ (fun _ => ?_)
            refine anyH_lay (fun V3 hbV3 hzV3 X => ?_)
            clear hK K
            try simp only [List.getElem_toArray, List.getElem_cons_succ, List.getElem_cons_zero, Act.put, List.setIfInBounds_toArray, List.set_cons_zero, List.set_cons_succ]
            refine wpAnyH_ready (rs := [5]) (by kernel_rfl) (by simp) ?_
            refine AllReadyH.cons rfl (fun K hK => ?_) AllReadyH.nil
            go_simp
            refine hK.out _ _ ⟨((A.past (below_thru (below_thru (below_thru (hbV0) hbV1) hbV2) hbV3)).laid _).e6, ((B.past (below_thru (below_thru (below_thru (hbV0) hbV1) hbV2) hbV3)).laid _).e6⟩ (fun _ => ?_)
            refine anyH_lay (fun V4 hbV4 hzV4 Y => ?_)
            clear hK K
            try simp only [List.getElem_toArray, List.getElem_cons_succ, List.getElem_cons_zero, Act.put, List.setIfInBounds_toArray, List.set_cons_zero, List.set_cons_succ]
            refine wpAnyH_ready (rs := [6]) (by kernel_rfl) (by simp) ?_
            refine AllReadyH.cons rfl (fun K hK => ?_) AllReadyH.nil
            replace X := (X.past (hbV4))
            obtain ⟨X_0, X_1, X_2, X_3, X_4, X_5⟩ := X.e6
            have X_f0 := X.f 0
            have X_f1 := X.f 1
            have X_f2 := X.f 2
            have X_f3 := X.f 3
            have X_f4 := X.f 4
            have X_f5 := X.f 5
            go_simp
            clear X_0 X_1 X_2 X_3 X_4 X_5 X_f0 X_f1 X_f2 X_f3 X_f4 X_f5
            refine hK.out _ _ ⟨((A.past (below_thru (below_thru (below_thru (below_thru (hbV0) hbV1) hbV2) hbV3) hbV4)).only (only6 _ _ _ _ _ _ _ _) (by omega)).e6, ((B.past (below_thru (below_thru (below_thru (below_thru (hbV0) hbV1) hbV2) hbV3) hbV4)).only (only6 _ _ _ _ _ _ _ _) (by omega)).e6⟩ (fun _ => ?_)
            refine anyH_put6 X (fun V5 hOV5 X => ?_)
            have hzV5 := Nat.le_of_eq hOV5.size
            have hyV5 := Nat.le_of_eq hOV5.size.symm
            clear hK K
            try simp only [List.getElem_toArray, List.getElem_cons_succ, List.getElem_cons_zero, Act.put, List.setIfInBounds_toArray, List.set_cons_zero, List.set_cons_succ]
            refine wpAnyH_ready (rs := [7]) (by kernel_rfl) (by simp) ?_
            refine AllReadyH.cons rfl (fun K hK => ?_) AllReadyH.nil
            replace Y := (Y.only hOV5 (by omega))
            obtain ⟨Y_0, Y_1, Y_2, Y_3, Y_4, Y_5⟩ := Y.e6
            have Y_f0 := Y.f 0
            have Y_f1 := Y.f 1
            have Y_f2 := Y.f 2
            have Y_f3 := Y.f 3
            have Y_f4 := Y.f 4
            have Y_f5 := Y.f 5
            go_simp
            clear Y_0 Y_1 Y_2 Y_3 Y_4 Y_5 Y_f0 Y_f1 Y_f2 Y_f3 Y_f4 Y_f5
            refine hK.out _ _ ⟨((A.past ((below_thru (below_thru (below_thru (below_thru (hbV0) hbV1) hbV2) hbV3) hbV4).trans (hOV5.below (by omega)))).only (only6 _ _ _ _ _ _ _ _) (by omega)).e6, ((B.past ((below_thru (below_thru (below_thru (below_thru (hbV0) hbV1) hbV2) hbV3) hbV4).trans (hOV5.below (by omega)))).only (only6 _ _ _ _ _ _ _ _) (by omega)).e6⟩ (fun _ => ?_)
            refine anyH_put6 Y (fun V6 hOV6 Y => ?_)
            have hzV6 := Nat.le_of_eq hOV6.size
            have hyV6 := Nat.le_of_eq hOV6.size.symm
            clear hK K
            try simp only [List.getElem_toArray, List.getElem_cons_succ, List.getElem_cons_zero, Act.put, List.setIfInBounds_toArray, List.set_cons_zero, List.set_cons_succ]
            refine wpAnyH_done (by kernel_rfl) ?_ _
            go_wp2_with fail
            go_meet
            exact ⟨V2.heap.size, V3.heap.size, xl, xh, yl, yh, rfl, rfl, HXL.out, HXH.out, HYL.out, HYH.out, (X.only hOV6 (by omega)), Y, by omega, by omega, by omega, (hfl.past (((below_thru (below_thru (hbV2) hbV3) hbV4).trans (hOV5.below (by omega))).trans (hOV6.below (by omega)))).mono (by omega), (hfh.past (((below_thru (below_thru (hbV2) hbV3) hbV4).trans (hOV5.below (by omega))).trans (hOV6.below (by omega)))).mono (by omega), (hgl.past (((below_thru (hbV3) hbV4).trans (hOV5.below (by omega))).trans (hOV6.below (by omega)))).mono (by omega), (hgh.past (((below_thru (hbV3) hbV4).trans (hOV5.below (by omega))).trans (hOV6.below (by omega)))).mono (by omega), (((below_thru (below_thru (below_thru (below_thru (hbV0) hbV1) hbV2) hbV3) hbV4).trans (hOV5.below (by omega))).trans (hOV6.below (by omega)))⟩
          refine AllReadyH.cons rfl (fun K hK => ?_) AllReadyH.nil
          go_simp
          refine hK.out _ _ ⟨((A.past (below_thru (below_thru (hbV0) hbV1) hbV2)).laid _).e6, ((B.past (below_thru (below_thru (hbV0) hbV1) hbV2)).laid _).e6⟩ (fun _ => ?_)
          refine anyH_lay (fun V3 hbV3 hzV3 Y => ?_)
          clear hK K
          try simp only [List.getElem_toArray, List.getElem_cons_succ, List.getElem_cons_zero, Act.put, List.setIfInBounds_toArray, List.set_cons_zero, List.set_cons_succ]
          refine wpAnyH_ready (rs := [4]) (by kernel_rfl) (by simp) ?_
          refine AllReadyH.cons rfl (fun K hK => ?_) AllReadyH.nil
          go_simp
          refine hK.out _ _ ⟨((A.past (below_thru (below_thru (below_thru (hbV0) hbV1) hbV2) hbV3)).laid _).e6, ((B.past (below_thru (below_thru (below_thru (hbV0) hbV1) hbV2) hbV3)).laid _).e6⟩ (fun _ => ?_)
          refine anyH_lay (fun V4 hbV4 hzV4 X => ?_)
          clear hK K
          try simp only [List.getElem_toArray, List.getElem_cons_succ, List.getElem_cons_zero, Act.put, List.setIfInBounds_toArray, List.set_cons_zero, List.set_cons_succ]
          refine wpAnyH_ready (rs := [6]) (by kernel_rfl) (by simp) ?_
          refine AllReadyH.cons rfl (fun K hK => ?_) AllReadyH.nil
          obtain ⟨X_0, X_1, X_2, X_3, X_4, X_5⟩ := X.e6
          have X_f0 := X.f 0
          have X_f1 := X.f 1
          have X_f2 := X.f 2
          have X_f3 := X.f 3
          have X_f4 := X.f 4
          have X_f5 := X.f 5
          go_simp
          clear X_0 X_1 X_2 X_3 X_4 X_5 X_f0 X_f1 X_f2 X_f3 X_f4 X_f5
          refine hK.out _ _ ⟨((A.past (below_thru (below_thru (below_thru (below_thru (hbV0) hbV1) hbV2) hbV3) hbV4)).only (only6 _ _ _ _ _ _ _ _) (by omega)).e6, ((B.past (below_thru (below_thru (below_thru (below_thru (hbV0) hbV1) hbV2) hbV3) hbV4)).only (only6 _ _ _ _ _ _ _ _) (by omega)).e6⟩ (fun _ => ?_)
          refine anyH_put6 X (fun V5 hOV5 X => ?_)
          have hzV5 := Nat.le_of_eq hOV5.size
          have hyV5 := Nat.le_of_eq hOV5.size.symm
          clear hK K
          try simp only [List.getElem_toArray, List.getElem_cons_succ, List.getElem_cons_zero, Act.put, List.setIfInBounds_toArray, List.set_cons_zero, List.set_cons_succ]
          refine wpAnyH_ready (rs := [7]) (by kernel_rfl) (by simp) ?_
          refine AllReadyH.cons rfl (fun K hK => ?_) AllReadyH.nil
          replace Y := (Y.past ((hbV4).trans (hOV5.below (by omega))))
          obtain ⟨Y_0, Y_1, Y_2, Y_3, Y_4, Y_5⟩ := Y.e6
          have Y_f0 := Y.f 0
          have Y_f1 := Y.f 1
          have Y_f2 := Y.f 2
          have Y_f3 := Y.f 3
          have Y_f4 := Y.f 4
          have Y_f5 := Y.f 5
          go_simp
          clear Y_0 Y_1 Y_2 Y_3 Y_4 Y_5 Y_f0 Y_f1 Y_f2 Y_f3 Y_f4 Y_f5
          refine hK.out _ _ ⟨((A.past ((below_thru (below_thru (below_thru (below_thru (hbV0) hbV1) hbV2) hbV3) hbV4).trans (hOV5.below (by omega)))).only (only6 _ _ _ _ _ _ _ _) (by omega)).e6, ((B.past ((below_thru (below_thru (below_thru (below_thru (hbV0) hbV1) hbV2) hbV3) hbV4).trans (hOV5.below (by omega)))).only (only6 _ _ _ _ _ _ _ _) (by omega)).e6⟩ (fun _ => ?_)
          refine anyH_put6 Y (fun V6 hOV6 Y => ?_)
          have hzV6 := Nat.le_of_eq hOV6.size
          have hyV6 := Nat.le_of_eq hOV6.size.symm
          clear hK K
          try simp only [List.getElem_toArray, List.getElem_cons_succ, List.getElem_cons_zero, Act.put, List.setIfInBounds_toArray, List.set_cons_zero, List.set_cons_succ]
          refine wpAnyH_done (by kernel_rfl) ?_ _
          go_wp2_with fail
          go_meet
          exact ⟨V3.heap.size, V2.heap.size, xl, xh, yl, yh, rfl, rfl, HXL.out, HXH.out, HYL.out, HYH.out, (X.only hOV6 (by omega)), Y, by omega, by omega, by omega, (hfl.past (((below_thru (below_thru (hbV2) hbV3) hbV4).trans (hOV5.below (by omega))).trans (hOV6.below (by omega)))).mono (by omega), (hfh.past (((below_thru (below_thru (hbV2) hbV3) hbV4).trans (hOV5.below (by omega))).trans (hOV6.below (by omega)))).mono (by omega), (hgl.past (((below_thru (hbV3) hbV4).trans (hOV5.below (by omega))).trans (hOV6.below (by omega)))).mono (by omega), (hgh.past (((below_thru (hbV3) hbV4).trans (hOV5.below (by omega))).trans (hOV6.below (by omega)))).mono (by omega), (((below_thru (below_thru (below_thru (below_thru (hbV0) hbV1) hbV2) hbV3) hbV4).trans (hOV5.below (by omega))).trans (hOV6.below (by omega)))⟩
        refine AllReadyH.cons rfl (fun K hK => ?_) ?_
        · skip
          go_simp
          refine hK.out _ _ ⟨((A.past (below_thru (hbV0) hbV1)).laid _).e6, ((B.past (below_thru (hbV0) hbV1)).laid _).e6⟩ (fun _ => ?_)
          refine anyH_lay (fun V2 hbV2 hzV2 X => ?_)
          clear hK K
          try simp only [List.getElem_toArray, List.getElem_cons_succ, List.getElem_cons_zero, Act.put, List.setIfInBounds_toArray, List.set_cons_zero, List.set_cons_succ]
          refine wpAnyH_ready (rs := [3, 5]) (by kernel_rfl) (by simp) ?_
          refine AllReadyH.cons rfl (fun K hK => ?_) ?_
          · skip
            go_simp
            go_at_call 19; ((with_reducible refine ((HOB _ (ha'.past (below_thru (below_thru (hbV0) hbV1) hbV2)) (hb'.past (below_thru (below_thru (hbV0) hbV1) hbV2))).out).mono ?_)); rintro exV3 V3 ⟨yl, yh, hyl, hyh, rfl, hgl, hgh, hbV3⟩
            have HYL := Lib.hid hyl
            have HYH := Lib.hid hyh
            clear hyl hyh
            have ahgl := hgl.at_
            have lhgl := hgl.lt
            have ahgh := hgh.at_
            have lhgh := hgh.lt
            have hzV3 := hbV3.size
            refine hK.out _ _ ⟨(A.past (below_thru (below_thru (below_thru (hbV0) hbV1) hbV2) hbV3)).e6, (B.past (below_thru (below_thru (below_thru (hbV0) hbV1) hbV2) hbV3)).e6⟩ (fun _ => ?_)
            clear hK K
            try simp only [List.getElem_toArray, List.getElem_cons_succ, List.getElem_cons_zero, Act.put, List.setIfInBounds_toArray, List.set_cons_zero, List.set_cons_succ]
            refine wpAnyH_ready (rs := [5]) (by kernel_rfl) (by simp) ?_
            refine AllReadyH.cons rfl (fun K hK => ?_) AllReadyH.nil
            go_simp
            refine hK.out _ _ ⟨((A.past (below_thru (below_thru (below_thru (hbV0) hbV1) hbV2) hbV3)).laid _).e6, ((B.past (below_thru (below_thru (below_thru (hbV0) hbV1) hbV2) hbV3)).laid _).e6⟩ (fun _ => ?_)
            refine anyH_lay (fun V4 hbV4 hzV4 Y => ?_)
            clear hK K
            try simp only [List.getElem_toArray, List.getElem_cons_succ, List.getElem_cons_zero, Act.put, List.setIfInBounds_toArray, List.set_cons_zero, List.set_cons_succ]
            refine wpAnyH_ready (rs := [6]) (by kernel_rfl) (by simp) ?_
            refine AllReadyH.cons rfl (fun K hK => ?_) AllReadyH.nil
            replace X := (X.past (below_thru (hbV3) hbV4))
            obtain ⟨X_0, X_1, X_2, X_3, X_4, X_5⟩ := X.e6
            have X_f0 := X.f 0
            have X_f1 := X.f 1
            have X_f2 := X.f 2
            have X_f3 := X.f 3
            have X_f4 := X.f 4
            have X_f5 := X.f 5
            go_simp
            clear X_0 X_1 X_2 X_3 X_4 X_5 X_f0 X_f1 X_f2 X_f3 X_f4 X_f5
            refine hK.out _ _ ⟨((A.past (below_thru (below_thru (below_thru (below_thru (hbV0) hbV1) hbV2) hbV3) hbV4)).only (only6 _ _ _ _ _ _ _ _) (by omega)).e6, ((B.past (below_thru (below_thru (below_thru (below_thru (hbV0) hbV1) hbV2) hbV3) hbV4)).only (only6 _ _ _ _ _ _ _ _) (by omega)).e6⟩ (fun _ => ?_)
            refine anyH_put6 X (fun V5 hOV5 X => ?_)
            have hzV5 := Nat.le_of_eq hOV5.size
            have hyV5 := Nat.le_of_eq hOV5.size.symm
            clear hK K
            try simp only [List.getElem_toArray, List.getElem_cons_succ, List.getElem_cons_zero, Act.put, List.setIfInBounds_toArray, List.set_cons_zero, List.set_cons_succ]
            refine wpAnyH_ready (rs := [7]) (by kernel_rfl) (by simp) ?_
            refine AllReadyH.cons rfl (fun K hK => ?_) AllReadyH.nil
            replace Y := (Y.only hOV5 (by omega))
            obtain ⟨Y_0, Y_1, Y_2, Y_3, Y_4, Y_5⟩ := Y.e6
            have Y_f0 := Y.f 0
            have Y_f1 := Y.f 1
            have Y_f2 := Y.f 2
            have Y_f3 := Y.f 3
            have Y_f4 := Y.f 4
            have Y_f5 := Y.f 5
            go_simp
            clear Y_0 Y_1 Y_2 Y_3 Y_4 Y_5 Y_f0 Y_f1 Y_f2 Y_f3 Y_f4 Y_f5
            refine hK.out _ _ ⟨((A.past ((below_thru (below_thru (below_thru (below_thru (hbV0) hbV1) hbV2) hbV3) hbV4).trans (hOV5.below (by omega)))).only (only6 _ _ _ _ _ _ _ _) (by omega)).e6, ((B.past ((below_thru (below_thru (below_thru (below_thru (hbV0) hbV1) hbV2) hbV3) hbV4).trans (hOV5.below (by omega)))).only (only6 _ _ _ _ _ _ _ _) (by omega)).e6⟩ (fun _ => ?_)
            refine anyH_put6 Y (fun V6 hOV6 Y => ?_)
            have hzV6 := Nat.le_of_eq hOV6.size
            have hyV6 := Nat.le_of_eq hOV6.size.symm
            clear hK K
            try simp only [List.getElem_toArray, List.getElem_cons_succ, List.getElem_cons_zero, Act.put, List.setIfInBounds_toArray, List.set_cons_zero, List.set_cons_succ]
            refine wpAnyH_done (by kernel_rfl) ?_ _
            go_wp2_with fail
            go_meet
            exact ⟨V1.heap.size, V3.heap.size, xl, xh, yl, yh, rfl, rfl, HXL.out, HXH.out, HYL.out, HYH.out, (X.only hOV6 (by omega)), Y, by omega, by omega, by omega, (hfl.past (((below_thru (below_thru (hbV2) hbV3) hbV4).trans (hOV5.below (by omega))).trans (hOV6.below (by omega)))).mono (by omega), (hfh.past (((below_thru (below_thru (hbV2) hbV3) hbV4).trans (hOV5.below (by omega))).trans (hOV6.below (by omega)))).mono (by omega), (((hgl.past (hbV4)).only hOV5 (fun h => by have := ahgl h; have := lhgl h; omega)).only hOV6 (fun h => by have := ahgl h; have := lhgl h; omega)).mono (by omega), (((hgh.past (hbV4)).only hOV5 (fun h => by have := ahgh h; have := lhgh h; omega)).only hOV6 (fun h => by have := ahgh h; have := lhgh h; omega)).mono (by omega), (((below_thru (below_thru (below_thru (below_thru (hbV0) hbV1) hbV2) hbV3) hbV4).trans (hOV5.below (by omega))).trans (hOV6.below (by omega)))⟩
          refine AllReadyH.cons rfl (fun K hK => ?_) AllReadyH.nil
          go_simp
          refine hK.out _ _ ⟨((A.past (below_thru (below_thru (hbV0) hbV1) hbV2)).laid _).e6, ((B.past (below_thru (below_thru (hbV0) hbV1) hbV2)).laid _).e6⟩ (fun _ => ?_)
          refine anyH_lay (fun V3 hbV3 hzV3 Y => ?_)
          clear hK K
          try simp only [List.getElem_toArray, List.getElem_cons_succ, List.getElem_cons_zero, Act.put, List.setIfInBounds_toArray, List.set_cons_zero, List.set_cons_succ]
          refine wpAnyH_ready (rs := [3]) (by kernel_rfl) (by simp) ?_
          refine AllReadyH.cons rfl (fun K hK => ?_) AllReadyH.nil
          go_simp
          go_at_call 19; ((with_reducible refine ((HOB _ (ha'.past (below_thru (below_thru (below_thru (hbV0) hbV1) hbV2) hbV3)) (hb'.past (below_thru (below_thru (below_thru (hbV0) hbV1) hbV2) hbV3))).out).mono ?_)); rintro exV4 V4 ⟨yl, yh, hyl, hyh, rfl, hgl, hgh, hbV4⟩
          have HYL := Lib.hid hyl
          have HYH := Lib.hid hyh
          clear hyl hyh
          have ahgl := hgl.at_
          have lhgl := hgl.lt
          have ahgh := hgh.at_
          have lhgh := hgh.lt
          have hzV4 := hbV4.size
          refine hK.out _ _ ⟨(A.past (below_thru (below_thru (below_thru (below_thru (hbV0) hbV1) hbV2) hbV3) hbV4)).e6, (B.past (below_thru (below_thru (below_thru (below_thru (hbV0) hbV1) hbV2) hbV3) hbV4)).e6⟩ (fun _ => ?_)
          clear hK K
          try simp only [List.getElem_toArray, List.getElem_cons_succ, List.getElem_cons_zero, Act.put, List.setIfInBounds_toArray, List.set_cons_zero, List.set_cons_succ]
          refine wpAnyH_ready (rs := [6]) (by kernel_rfl) (by simp) ?_
          refine AllReadyH.cons rfl (fun K hK => ?_) AllReadyH.nil
          replace X := (X.past (below_thru (hbV3) hbV4))
          obtain ⟨X_0, X_1, X_2, X_3, X_4, X_5⟩ := X.e6
          have X_f0 := X.f 0
          have X_f1 := X.f 1
          have X_f2 := X.f 2
          have X_f3 := X.f 3
          have X_f4 := X.f 4
          have X_f5 := X.f 5
          go_simp
          clear X_0 X_1 X_2 X_3 X_4 X_5 X_f0 X_f1 X_f2 X_f3 X_f4 X_f5
          refine hK.out _ _ ⟨((A.past (below_thru (below_thru (below_thru (below_thru (hbV0) hbV1) hbV2) hbV3) hbV4)).only (only6 _ _ _ _ _ _ _ _) (by omega)).e6, ((B.past (below_thru (below_thru (below_thru (below_thru (hbV0) hbV1) hbV2) hbV3) hbV4)).only (only6 _ _ _ _ _ _ _ _) (by omega)).e6⟩ (fun _ => ?_)
          refine anyH_put6 X (fun V5 hOV5 X => ?_)
          have hzV5 := Nat.le_of_eq hOV5.size
          have hyV5 := Nat.le_of_eq hOV5.size.symm
          clear hK K
          try simp only [List.getElem_toArray, List.getElem_cons_succ, List.getElem_cons_zero, Act.put, List.setIfInBounds_toArray, List.set_cons_zero, List.set_cons_succ]
          refine wpAnyH_ready (rs := [7]) (by kernel_rfl) (by simp) ?_
          refine AllReadyH.cons rfl (fun K hK => ?_) AllReadyH.nil
          replace Y := ((Y.past (hbV4)).only hOV5 (by omega))
          obtain ⟨Y_0, Y_1, Y_2, Y_3, Y_4, Y_5⟩ := Y.e6
          have Y_f0 := Y.f 0
          have Y_f1 := Y.f 1
          have Y_f2 := Y.f 2
          have Y_f3 := Y.f 3
          have Y_f4 := Y.f 4
          have Y_f5 := Y.f 5
          go_simp
          clear Y_0 Y_1 Y_2 Y_3 Y_4 Y_5 Y_f0 Y_f1 Y_f2 Y_f3 Y_f4 Y_f5
          refine hK.out _ _ ⟨((A.past ((below_thru (below_thru (below_thru (below_thru (hbV0) hbV1) hbV2) hbV3) hbV4).trans (hOV5.below (by omega)))).only (only6 _ _ _ _ _ _ _ _) (by omega)).e6, ((B.past ((below_thru (below_thru (below_thru (below_thru (hbV0) hbV1) hbV2) hbV3) hbV4).trans (hOV5.below (by omega)))).only (only6 _ _ _ _ _ _ _ _) (by omega)).e6⟩ (fun _ => ?_)
          refine anyH_put6 Y (fun V6 hOV6 Y => ?_)
          have hzV6 := Nat.le_of_eq hOV6.size
          have hyV6 := Nat.le_of_eq hOV6.size.symm
          clear hK K
          try simp only [List.getElem_toArray, List.getElem_cons_succ, List.getElem_cons_zero, Act.put, List.setIfInBounds_toArray, List.set_cons_zero, List.set_cons_succ]
          refine wpAnyH_done (by kernel_rfl) ?_ _
          go_wp2_with fail
          go_meet
          exact ⟨V1.heap.size, V2.heap.size, xl, xh, yl, yh, rfl, rfl, HXL.out, HXH.out, HYL.out, HYH.out, (X.only hOV6 (by omega)), Y, by omega, by omega, by omega, (hfl.past (((below_thru (below_thru (hbV2) hbV3) hbV4).trans (hOV5.below (by omega))).trans (hOV6.below (by omega)))).mono (by omega), (hfh.past (((below_thru (below_thru (hbV2) hbV3) hbV4).trans (hOV5.below (by omega))).trans (hOV6.below (by omega)))).mono (by omega), ((hgl.only hOV5 (fun h => by have := ahgl h; have := lhgl h; omega)).only hOV6 (fun h => by have := ahgl h; have := lhgl h; omega)).mono (by omega), ((hgh.only hOV5 (fun h => by have := ahgh h; have := lhgh h; omega)).only hOV6 (fun h => by have := ahgh h; have := lhgh h; omega)).mono (by omega), (((below_thru (below_thru (below_thru (below_thru (hbV0) hbV1) hbV2) hbV3) hbV4).trans (hOV5.below (by omega))).trans (hOV6.below (by omega)))⟩
        refine AllReadyH.cons rfl (fun K hK => ?_) AllReadyH.nil
        go_simp
        refine hK.out _ _ ⟨((A.past (below_thru (hbV0) hbV1)).laid _).e6, ((B.past (below_thru (hbV0) hbV1)).laid _).e6⟩ (fun _ => ?_)
        refine anyH_lay (fun V2 hbV2 hzV2 Y => ?_)
        clear hK K
        try simp only [List.getElem_toArray, List.getElem_cons_succ, List.getElem_cons_zero, Act.put, List.setIfInBounds_toArray, List.set_cons_zero, List.set_cons_succ]
        refine wpAnyH_ready (rs := [3, 4]) (by kernel_rfl) (by simp) ?_
        refine AllReadyH.cons rfl (fun K hK => ?_) ?_
        · skip
          go_simp
          go_at_call 19; ((with_reducible refine ((HOB _ (ha'.past (below_thru (below_thru (hbV0) hbV1) hbV2)) (hb'.past (below_thru (below_thru (hbV0) hbV1) hbV2))).out).mono ?_)); rintro exV3 V3 ⟨yl, yh, hyl, hyh, rfl, hgl, hgh, hbV3⟩
          have HYL := Lib.hid hyl
          have HYH := Lib.hid hyh
          clear hyl hyh
          have ahgl := hgl.at_
          have lhgl := hgl.lt
          have ahgh := hgh.at_
          have lhgh := hgh.lt
          have hzV3 := hbV3.size
          refine hK.out _ _ ⟨(A.past (below_thru (below_thru (below_thru (hbV0) hbV1) hbV2) hbV3)).e6, (B.past (below_thru (below_thru (below_thru (hbV0) hbV1) hbV2) hbV3)).e6⟩ (fun _ => ?_)
          clear hK K
          try simp only [List.getElem_toArray, List.getElem_cons_succ, List.getElem_cons_zero, Act.put, List.setIfInBounds_toArray, List.set_cons_zero, List.set_cons_succ]
          refine wpAnyH_ready (rs := [4]) (by kernel_rfl) (by simp) ?_
          refine AllReadyH.cons rfl (fun K hK => ?_) AllReadyH.nil
          go_simp
          refine hK.out _ _ ⟨((A.past (below_thru (below_thru (below_thru (hbV0) hbV1) hbV2) hbV3)).laid _).e6, ((B.past (below_thru (below_thru (below_thru (hbV0) hbV1) hbV2) hbV3)).laid _).e6⟩ (fun _ => ?_)
          refine anyH_lay (fun V4 hbV4 hzV4 X => ?_)
          clear hK K
          try simp only [List.getElem_toArray, List.getElem_cons_succ, List.getElem_cons_zero, Act.put, List.setIfInBounds_toArray, List.set_cons_zero, List.set_cons_succ]
          refine wpAnyH_ready (rs := [6]) (by kernel_rfl) (by simp) ?_
          refine AllReadyH.cons rfl (fun K hK => ?_) AllReadyH.nil
          obtain ⟨X_0, X_1, X_2, X_3, X_4, X_5⟩ := X.e6
          have X_f0 := X.f 0
          have X_f1 := X.f 1
          have X_f2 := X.f 2
          have X_f3 := X.f 3
          have X_f4 := X.f 4
          have X_f5 := X.f 5
          go_simp
          clear X_0 X_1 X_2 X_3 X_4 X_5 X_f0 X_f1 X_f2 X_f3 X_f4 X_f5
          refine hK.out _ _ ⟨((A.past (below_thru (below_thru (below_thru (below_thru (hbV0) hbV1) hbV2) hbV3) hbV4)).only (only6 _ _ _ _ _ _ _ _) (by omega)).e6, ((B.past (below_thru (below_thru (below_thru (below_thru (hbV0) hbV1) hbV2) hbV3) hbV4)).only (only6 _ _ _ _ _ _ _ _) (by omega)).e6⟩ (fun _ => ?_)
          refine anyH_put6 X (fun V5 hOV5 X => ?_)
          have hzV5 := Nat.le_of_eq hOV5.size
          have hyV5 := Nat.le_of_eq hOV5.size.symm
          clear hK K
          try simp only [List.getElem_toArray, List.getElem_cons_succ, List.getElem_cons_zero, Act.put, List.setIfInBounds_toArray, List.set_cons_zero, List.set_cons_succ]
          refine wpAnyH_ready (rs := [7]) (by kernel_rfl) (by simp) ?_
          refine AllReadyH.cons rfl (fun K hK => ?_) AllReadyH.nil
          replace Y := (Y.past ((below_thru (hbV3) hbV4).trans (hOV5.below (by omega))))
          obtain ⟨Y_0, Y_1, Y_2, Y_3, Y_4, Y_5⟩ := Y.e6
          have Y_f0 := Y.f 0
          have Y_f1 := Y.f 1
          have Y_f2 := Y.f 2
          have Y_f3 := Y.f 3
          have Y_f4 := Y.f 4
          have Y_f5 := Y.f 5
          go_simp
          clear Y_0 Y_1 Y_2 Y_3 Y_4 Y_5 Y_f0 Y_f1 Y_f2 Y_f3 Y_f4 Y_f5
          refine hK.out _ _ ⟨((A.past ((below_thru (below_thru (below_thru (below_thru (hbV0) hbV1) hbV2) hbV3) hbV4).trans (hOV5.below (by omega)))).only (only6 _ _ _ _ _ _ _ _) (by omega)).e6, ((B.past ((below_thru (below_thru (below_thru (below_thru (hbV0) hbV1) hbV2) hbV3) hbV4).trans (hOV5.below (by omega)))).only (only6 _ _ _ _ _ _ _ _) (by omega)).e6⟩ (fun _ => ?_)
          refine anyH_put6 Y (fun V6 hOV6 Y => ?_)
          have hzV6 := Nat.le_of_eq hOV6.size
          have hyV6 := Nat.le_of_eq hOV6.size.symm
          clear hK K
          try simp only [List.getElem_toArray, List.getElem_cons_succ, List.getElem_cons_zero, Act.put, List.setIfInBounds_toArray, List.set_cons_zero, List.set_cons_succ]
          refine wpAnyH_done (by kernel_rfl) ?_ _
          go_wp2_with fail
          go_meet
          exact ⟨V3.heap.size, V1.heap.size, xl, xh, yl, yh, rfl, rfl, HXL.out, HXH.out, HYL.out, HYH.out, (X.only hOV6 (by omega)), Y, by omega, by omega, by omega, (hfl.past (((below_thru (below_thru (hbV2) hbV3) hbV4).trans (hOV5.below (by omega))).trans (hOV6.below (by omega)))).mono (by omega), (hfh.past (((below_thru (below_thru (hbV2) hbV3) hbV4).trans (hOV5.below (by omega))).trans (hOV6.below (by omega)))).mono (by omega), ((hgl.past ((hbV4).trans (hOV5.below (by omega)))).only hOV6 (fun h => by have := ahgl h; have := lhgl h; omega)).mono (by omega), ((hgh.past ((hbV4).trans (hOV5.below (by omega)))).only hOV6 (fun h => by have := ahgh h; have := lhgh h; omega)).mono (by omega), (((below_thru (below_thru (below_thru (below_thru (hbV0) hbV1) hbV2) hbV3) hbV4).trans (hOV5.below (by omega))).trans (hOV6.below (by omega)))⟩
        refine AllReadyH.cons rfl (fun K hK => ?_) AllReadyH.nil
        go_simp
        refine hK.out _ _ ⟨((A.past (below_thru (below_thru (hbV0) hbV1) hbV2)).laid _).e6, ((B.past (below_thru (below_thru (hbV0) hbV1) hbV2)).laid _).e6⟩ (fun _ => ?_)
        refine anyH_lay (fun V3 hbV3 hzV3 X => ?_)
        clear hK K
        try simp only [List.getElem_toArray, List.getElem_cons_succ, List.getElem_cons_zero, Act.put, List.setIfInBounds_toArray, List.set_cons_zero, List.set_cons_succ]
        refine wpAnyH_ready (rs := [3]) (by kernel_rfl) (by simp) ?_
        refine AllReadyH.cons rfl (fun K hK => ?_) AllReadyH.nil
        go_simp
        go_at_call 19; ((with_reducible refine ((HOB _ (ha'.past (below_thru (below_thru (below_thru (hbV0) hbV1) hbV2) hbV3)) (hb'.past (below_thru (below_thru (below_thru (hbV0) hbV1) hbV2) hbV3))).out).mono ?_)); rintro exV4 V4 ⟨yl, yh, hyl, hyh, rfl, hgl, hgh, hbV4⟩
        have HYL := Lib.hid hyl
        have HYH := Lib.hid hyh
        clear hyl hyh
        have ahgl := hgl.at_
        have lhgl := hgl.lt
        have ahgh := hgh.at_
        have lhgh := hgh.lt
        have hzV4 := hbV4.size
        refine hK.out _ _ ⟨(A.past (below_thru (below_thru (below_thru (below_thru (hbV0) hbV1) hbV2) hbV3) hbV4)).e6, (B.past (below_thru (below_thru (below_thru (below_thru (hbV0) hbV1) hbV2) hbV3) hbV4)).e6⟩ (fun _ => ?_)
        clear hK K
        try simp only [List.getElem_toArray, List.getElem_cons_succ, List.getElem_cons_zero, Act.put, List.setIfInBounds_toArray, List.set_cons_zero, List.set_cons_succ]
        refine wpAnyH_ready (rs := [6]) (by kernel_rfl) (by simp) ?_
        refine AllReadyH.cons rfl (fun K hK => ?_) AllReadyH.nil
        replace X := (X.past (hbV4))
        obtain ⟨X_0, X_1, X_2, X_3, X_4, X_5⟩ := X.e6
        have X_f0 := X.f 0
        have X_f1 := X.f 1
        have X_f2 := X.f 2
        have X_f3 := X.f 3
        have X_f4 := X.f 4
        have X_f5 := X.f 5
        go_simp
        clear X_0 X_1 X_2 X_3 X_4 X_5 X_f0 X_f1 X_f2 X_f3 X_f4 X_f5
        refine hK.out _ _ ⟨((A.past (below_thru (below_thru (below_thru (below_thru (hbV0) hbV1) hbV2) hbV3) hbV4)).only (only6 _ _ _ _ _ _ _ _) (by omega)).e6, ((B.past (below_thru (below_thru (below_thru (below_thru (hbV0) hbV1) hbV2) hbV3) hbV4)).only (only6 _ _ _ _ _ _ _ _) (by omega)).e6⟩ (fun _ => ?_)
        refine anyH_put6 X (fun V5 hOV5 X => ?_)
        have hzV5 := Nat.le_of_eq hOV5.size
        have hyV5 := Nat.le_of_eq hOV5.size.symm
        clear hK K
        try simp only [List.getElem_toArray, List.getElem_cons_succ, List.getElem_cons_zero, Act.put, List.setIfInBounds_toArray, List.set_cons_zero, List.set_cons_succ]
        refine wpAnyH_ready (rs := [7]) (by kernel_rfl) (by simp) ?_
        refine AllReadyH.cons rfl (fun K hK => ?_) AllReadyH.nil
        replace Y := (Y.past ((below_thru (hbV3) hbV4).trans (hOV5.below (by omega))))
        obtain ⟨Y_0, Y_1, Y_2, Y_3, Y_4, Y_5⟩ := Y.e6
        have Y_f0 := Y.f 0
        have Y_f1 := Y.f 1
        have Y_f2 := Y.f 2
        have Y_f3 := Y.f 3
        have Y_f4 := Y.f 4
        have Y_f5 := Y.f 5
        go_simp
        clear Y_0 Y_1 Y_2 Y_3 Y_4 Y_5 Y_f0 Y_f1 Y_f2 Y_f3 Y_f4 Y_f5
        refine hK.out _ _ ⟨((A.past ((below_thru (below_thru (below_thru (below_thru (hbV0) hbV1) hbV2) hbV3) hbV4).trans (hOV5.below (by omega)))).only (only6 _ _ _ _ _ _ _ _) (by omega)).e6, ((B.past ((below_thru (below_thru (below_thru (below_thru (hbV0) hbV1) hbV2) hbV3) hbV4).trans (hOV5.below (by omega)))).only (only6 _ _ _ _ _ _ _ _) (by omega)).e6⟩ (fun _ => ?_)
        refine anyH_put6 Y (fun V6 hOV6 Y => ?_)
        have hzV6 := Nat.le_of_eq hOV6.size
        have hyV6 := Nat.le_of_eq hOV6.size.symm
        clear hK K
        try simp only [List.getElem_toArray, List.getElem_cons_succ, List.getElem_cons_zero, Act.put, List.setIfInBounds_toArray, List.set_cons_zero, List.set_cons_succ]
        refine wpAnyH_done (by kernel_rfl) ?_ _
        go_wp2_with fail
        go_meet
        exact ⟨V2.heap.size, V1.heap.size, xl, xh, yl, yh, rfl, rfl, HXL.out, HXH.out, HYL.out, HYH.out, (X.only hOV6 (by omega)), Y, by omega, by omega, by omega, (hfl.past (((below_thru (below_thru (hbV2) hbV3) hbV4).trans (hOV5.below (by omega))).trans (hOV6.below (by omega)))).mono (by omega), (hfh.past (((below_thru (below_thru (hbV2) hbV3) hbV4).trans (hOV5.below (by omega))).trans (hOV6.below (by omega)))).mono (by omega), ((hgl.only hOV5 (fun h => by have := ahgl h; have := lhgl h; omega)).only hOV6 (fun h => by have := ahgl h; have := lhgl h; omega)).mono (by omega), ((hgh.only hOV5 (fun h => by have := ahgh h; have := lhgh h; omega)).only hOV6 (fun h => by have := ahgh h; have := lhgh h; omega)).mono (by omega), (((below_thru (below_thru (below_thru (below_thru (hbV0) hbV1) hbV2) hbV3) hbV4).trans (hOV5.below (by omega))).trans (hOV6.below (by omega)))⟩
      refine AllReadyH.cons rfl (fun K hK => ?_) ?_
      · skip
        go_simp
        refine hK.out _ _ ⟨((A.past (hbV0)).laid _).e6, ((B.past (hbV0)).laid _).e6⟩ (fun _ => ?_)
        refine anyH_lay (fun V1 hbV1 hzV1 X => ?_)
        clear hK K
        try simp only [List.getElem_toArray, List.getElem_cons_succ, List.getElem_cons_zero, Act.put, List.setIfInBounds_toArray, List.set_cons_zero, List.set_cons_succ]
        refine wpAnyH_ready (rs := [1, 5]) (by kernel_rfl) (by simp) ?_
        refine AllReadyH.cons rfl (fun K hK => ?_) ?_
        · skip
          go_simp
          go_at_call 19; ((with_reducible refine ((HOA _ (ha.past (below_thru (hbV0) hbV1)) (hb.past (below_thru (hbV0) hbV1))).out).mono ?_)); rintro exV2 V2 ⟨xl, xh, hxl, hxh, rfl, hfl, hfh, hbV2⟩
          have HXL := Lib.hid hxl
          have HXH := Lib.hid hxh
          clear hxl hxh
          have ahfl := hfl.at_
          have lhfl := hfl.lt
          have ahfh := hfh.at_
          have lhfh := hfh.lt
          have hzV2 := hbV2.size
          refine hK.out _ _ ⟨(A.past (below_thru (below_thru (hbV0) hbV1) hbV2)).e6, (B.past (below_thru (below_thru (hbV0) hbV1) hbV2)).e6⟩ (fun _ => ?_)
          clear hK K
          try simp only [List.getElem_toArray, List.getElem_cons_succ, List.getElem_cons_zero, Act.put, List.setIfInBounds_toArray, List.set_cons_zero, List.set_cons_succ]
          refine wpAnyH_ready (rs := [3, 5]) (by kernel_rfl) (by simp) ?_
          refine AllReadyH.cons rfl (fun K hK => ?_) ?_
          · skip
            go_simp
            go_at_call 19; ((with_reducible refine ((HOB _ (ha'.past (below_thru (below_thru (hbV0) hbV1) hbV2)) (hb'.past (below_thru (below_thru (hbV0) hbV1) hbV2))).out).mono ?_)); rintro exV3 V3 ⟨yl, yh, hyl, hyh, rfl, hgl, hgh, hbV3⟩
            have HYL := Lib.hid hyl
            have HYH := Lib.hid hyh
            clear hyl hyh
            have ahgl := hgl.at_
            have lhgl := hgl.lt
            have ahgh := hgh.at_
            have lhgh := hgh.lt
            have hzV3 := hbV3.size
            refine hK.out _ _ ⟨(A.past (below_thru (below_thru (below_thru (hbV0) hbV1) hbV2) hbV3)).e6, (B.past (below_thru (below_thru (below_thru (hbV0) hbV1) hbV2) hbV3)).e6⟩ (fun _ => ?_)
            clear hK K
            try simp only [List.getElem_toArray, List.getElem_cons_succ, List.getElem_cons_zero, Act.put, List.setIfInBounds_toArray, List.set_cons_zero, List.set_cons_succ]
            refine wpAnyH_ready (rs := [5]) (by kernel_rfl) (by simp) ?_
            refine AllReadyH.cons rfl (fun K hK => ?_) AllReadyH.nil
            go_simp
            refine hK.out _ _ ⟨((A.past (below_thru (below_thru (below_thru (hbV0) hbV1) hbV2) hbV3)).laid _).e6, ((B.past (below_thru (below_thru (below_thru (hbV0) hbV1) hbV2) hbV3)).laid _).e6⟩ (fun _ => ?_)
            refine anyH_lay (fun V4 hbV4 hzV4 Y => ?_)
            clear hK K
            try simp only [List.getElem_toArray, List.getElem_cons_succ, List.getElem_cons_zero, Act.put, List.setIfInBounds_toArray, List.set_cons_zero, List.set_cons_succ]
            refine wpAnyH_ready (rs := [6]) (by kernel_rfl) (by simp) ?_
            refine AllReadyH.cons rfl (fun K hK => ?_) AllReadyH.nil
            replace X := (X.past (below_thru (below_thru (hbV2) hbV3) hbV4))
            obtain ⟨X_0, X_1, X_2, X_3, X_4, X_5⟩ := X.e6
            have X_f0 := X.f 0
            have X_f1 := X.f 1
            have X_f2 := X.f 2
            have X_f3 := X.f 3
            have X_f4 := X.f 4
            have X_f5 := X.f 5
            go_simp
            clear X_0 X_1 X_2 X_3 X_4 X_5 X_f0 X_f1 X_f2 X_f3 X_f4 X_f5
            refine hK.out _ _ ⟨((A.past (below_thru (below_thru (below_thru (below_thru (hbV0) hbV1) hbV2) hbV3) hbV4)).only (only6 _ _ _ _ _ _ _ _) (by omega)).e6, ((B.past (below_thru (below_thru (below_thru (below_thru (hbV0) hbV1) hbV2) hbV3) hbV4)).only (only6 _ _ _ _ _ _ _ _) (by omega)).e6⟩ (fun _ => ?_)
            refine anyH_put6 X (fun V5 hOV5 X => ?_)
            have hzV5 := Nat.le_of_eq hOV5.size
            have hyV5 := Nat.le_of_eq hOV5.size.symm
            clear hK K
            try simp only [List.getElem_toArray, List.getElem_cons_succ, List.getElem_cons_zero, Act.put, List.setIfInBounds_toArray, List.set_cons_zero, List.set_cons_succ]
            refine wpAnyH_ready (rs := [7]) (by kernel_rfl) (by simp) ?_
            refine AllReadyH.cons rfl (fun K hK => ?_) AllReadyH.nil
            replace Y := (Y.only hOV5 (by omega))
            obtain ⟨Y_0, Y_1, Y_2, Y_3, Y_4, Y_5⟩ := Y.e6
            have Y_f0 := Y.f 0
            have Y_f1 := Y.f 1
            have Y_f2 := Y.f 2
            have Y_f3 := Y.f 3
            have Y_f4 := Y.f 4
            have Y_f5 := Y.f 5
            go_simp
            clear Y_0 Y_1 Y_2 Y_3 Y_4 Y_5 Y_f0 Y_f1 Y_f2 Y_f3 Y_f4 Y_f5
            refine hK.out _ _ ⟨((A.past ((below_thru (below_thru (below_thru (below_thru (hbV0) hbV1) hbV2) hbV3) hbV4).trans (hOV5.below (by omega)))).only (only6 _ _ _ _ _ _ _ _) (by omega)).e6, ((B.past ((below_thru (below_thru (below_thru (below_thru (hbV0) hbV1) hbV2) hbV3) hbV4).trans (hOV5.below (by omega)))).only (only6 _ _ _ _ _ _ _ _) (by omega)).e6⟩ (fun _ => ?_)
            refine anyH_put6 Y (fun V6 hOV6 Y => ?_)
            have hzV6 := Nat.le_of_eq hOV6.size
            have hyV6 := Nat.le_of_eq hOV6.size.symm
            clear hK K
            try simp only [List.getElem_toArray, List.getElem_cons_succ, List.getElem_cons_zero, Act.put, List.setIfInBounds_toArray, List.set_cons_zero, List.set_cons_succ]
            refine wpAnyH_done (by kernel_rfl) ?_ _
            go_wp2_with fail
            go_meet
            exact ⟨V0.heap.size, V3.heap.size, xl, xh, yl, yh, rfl, rfl, HXL.out, HXH.out, HYL.out, HYH.out, (X.only hOV6 (by omega)), Y, by omega, by omega, by omega, (((hfl.past (below_thru (hbV3) hbV4)).only hOV5 (fun h => by have := ahfl h; have := lhfl h; omega)).only hOV6 (fun h => by have := ahfl h; have := lhfl h; omega)).mono (by omega), (((hfh.past (below_thru (hbV3) hbV4)).only hOV5 (fun h => by have := ahfh h; have := lhfh h; omega)).only hOV6 (fun h => by have := ahfh h; have := lhfh h; omega)).mono (by omega), (((hgl.past (hbV4)).only hOV5 (fun h => by have := ahgl h; have := lhgl h; omega)).only hOV6 (fun h => by have := ahgl h; have := lhgl h; omega)).mono (by omega), (((hgh.past (hbV4)).only hOV5 (fun h => by have := ahgh h; have := lhgh h; omega)).only hOV6 (fun h => by have := ahgh h; have := lhgh h; omega)).mono (by omega), (((below_thru (below_thru (below_thru (below_thru (hbV0) hbV1) hbV2) hbV3) hbV4).trans (hOV5.below (by omega))).trans (hOV6.below (by omega)))⟩
          refine AllReadyH.cons rfl (fun K hK => ?_) AllReadyH.nil
          go_simp
          refine hK.out _ _ ⟨((A.past (below_thru (below_thru (hbV0) hbV1) hbV2)).laid _).e6, ((B.past (below_thru (below_thru (hbV0) hbV1) hbV2)).laid _).e6⟩ (fun _ => ?_)
          refine anyH_lay (fun V3 hbV3 hzV3 Y => ?_)
          clear hK K
          try simp only [List.getElem_toArray, List.getElem_cons_succ, List.getElem_cons_zero, Act.put, List.setIfInBounds_toArray, List.set_cons_zero, List.set_cons_succ]
          refine wpAnyH_ready (rs := [3]) (by kernel_rfl) (by simp) ?_
          refine AllReadyH.cons rfl (fun K hK => ?_) AllReadyH.nil
          go_simp
          go_at_call 19; ((with_reducible refine ((HOB _ (ha'.past (below_thru (below_thru (below_thru (hbV0) hbV1) hbV2) hbV3)) (hb'.past (below_thru (below_thru (below_thru (hbV0) hbV1) hbV2) hbV3))).out).mono ?_)); rintro exV4 V4 ⟨yl, yh, hyl, hyh, rfl, hgl, hgh, hbV4⟩
          have HYL := Lib.hid hyl
          have HYH := Lib.hid hyh
          clear hyl hyh
          have ahgl := hgl.at_
          have lhgl := hgl.lt
          have ahgh := hgh.at_
          have lhgh := hgh.lt
          have hzV4 := hbV4.size
          refine hK.out _ _ ⟨(A.past (below_thru (below_thru (below_thru (below_thru (hbV0) hbV1) hbV2) hbV3) hbV4)).e6, (B.past (below_thru (below_thru (below_thru (below_thru (hbV0) hbV1) hbV2) hbV3) hbV4)).e6⟩ (fun _ => ?_)
          clear hK K
          try simp only [List.getElem_toArray, List.getElem_cons_succ, List.getElem_cons_zero, Act.put, List.setIfInBounds_toArray, List.set_cons_zero, List.set_cons_succ]
          refine wpAnyH_ready (rs := [6]) (by kernel_rfl) (by simp) ?_
          refine AllReadyH.cons rfl (fun K hK => ?_) AllReadyH.nil
          replace X := (X.past (below_thru (below_thru (hbV2) hbV3) hbV4))
          obtain ⟨X_0, X_1, X_2, X_3, X_4, X_5⟩ := X.e6
          have X_f0 := X.f 0
          have X_f1 := X.f 1
          have X_f2 := X.f 2
          have X_f3 := X.f 3
          have X_f4 := X.f 4
          have X_f5 := X.f 5
          go_simp
          clear X_0 X_1 X_2 X_3 X_4 X_5 X_f0 X_f1 X_f2 X_f3 X_f4 X_f5
          refine hK.out _ _ ⟨((A.past (below_thru (below_thru (below_thru (below_thru (hbV0) hbV1) hbV2) hbV3) hbV4)).only (only6 _ _ _ _ _ _ _ _) (by omega)).e6, ((B.past (below_thru (below_thru (below_thru (below_thru (hbV0) hbV1) hbV2) hbV3) hbV4)).only (only6 _ _ _ _ _ _ _ _) (by omega)).e6⟩ (fun _ => ?_)
          refine anyH_put6 X (fun V5 hOV5 X => ?_)
          have hzV5 := Nat.le_of_eq hOV5.size
          have hyV5 := Nat.le_of_eq hOV5.size.symm
          clear hK K
          try simp only [List.getElem_toArray, List.getElem_cons_succ, List.getElem_cons_zero, Act.put, List.setIfInBounds_toArray, List.set_cons_zero, List.set_cons_succ]
          refine wpAnyH_ready (rs := [7]) (by kernel_rfl) (by simp) ?_
          refine AllReadyH.cons rfl (fun K hK => ?_) AllReadyH.nil
          replace Y := ((Y.past (hbV4)).only hOV5 (by omega))
          obtain ⟨Y_0, Y_1, Y_2, Y_3, Y_4, Y_5⟩ := Y.e6
          have Y_f0 := Y.f 0
          have Y_f1 := Y.f 1
          have Y_f2 := Y.f 2
          have Y_f3 := Y.f 3
          have Y_f4 := Y.f 4
          have Y_f5 := Y.f 5
          go_simp
          clear Y_0 Y_1 Y_2 Y_3 Y_4 Y_5 Y_f0 Y_f1 Y_f2 Y_f3 Y_f4 Y_f5
          refine hK.out _ _ ⟨((A.past ((below_thru (below_thru (below_thru (below_thru (hbV0) hbV1) hbV2) hbV3) hbV4).trans (hOV5.below (by omega)))).only (only6 _ _ _ _ _ _ _ _) (by omega)).e6, ((B.past ((below_thru (below_thru (below_thru (below_thru (hbV0) hbV1) hbV2) hbV3) hbV4).trans (hOV5.below (by omega)))).only (only6 _ _ _ _ _ _ _ _) (by omega)).e6⟩ (fun _ => ?_)
          refine anyH_put6 Y (fun V6 hOV6 Y => ?_)
          have hzV6 := Nat.le_of_eq hOV6.size
          have hyV6 := Nat.le_of_eq hOV6.size.symm
          clear hK K
          try simp only [List.getElem_toArray, List.getElem_cons_succ, List.getElem_cons_zero, Act.put, List.setIfInBounds_toArray, List.set_cons_zero, List.set_cons_succ]
          refine wpAnyH_done (by kernel_rfl) ?_ _
          go_wp2_with fail
          go_meet
          exact ⟨V0.heap.size, V2.heap.size, xl, xh, yl, yh, rfl, rfl, HXL.out, HXH.out, HYL.out, HYH.out, (X.only hOV6 (by omega)), Y, by omega, by omega, by omega, (((hfl.past (below_thru (hbV3) hbV4)).only hOV5 (fun h => by have := ahfl h; have := lhfl h; omega)).only hOV6 (fun h => by have := ahfl h; have := lhfl h; omega)).mono (by omega), (((hfh.past (below_thru (hbV3) hbV4)).only hOV5 (fun h => by have := ahfh h; have := lhfh h; omega)).only hOV6 (fun h => by have := ahfh h; have := lhfh h; omega)).mono (by omega), ((hgl.only hOV5 (fun h => by have := ahgl h; have := lhgl h; omega)).only hOV6 (fun h => by have := ahgl h; have := lhgl h; omega)).mono (by omega), ((hgh.only hOV5 (fun h => by have := ahgh h; have := lhgh h; omega)).only hOV6 (fun h => by have := ahgh h; have := lhgh h; omega)).mono (by omega), (((below_thru (below_thru (below_thru (below_thru (hbV0) hbV1) hbV2) hbV3) hbV4).trans (hOV5.below (by omega))).trans (hOV6.below (by omega)))⟩
        refine AllReadyH.cons rfl (fun K hK => ?_) AllReadyH.nil
        go_simp
        refine hK.out _ _ ⟨((A.past (below_thru (hbV0) hbV1)).laid _).e6, ((B.past (below_thru (hbV0) hbV1)).laid _).e6⟩ (fun _ => ?_)
        refine anyH_lay (fun V2 hbV2 hzV2 Y => ?_)
        clear hK K
        try simp only [List.getElem_toArray, List.getElem_cons_succ, List.getElem_cons_zero, Act.put, List.setIfInBounds_toArray, List.set_cons_zero, List.set_cons_succ]
        refine wpAnyH_ready (rs := [1]) (by kernel_rfl) (by simp) ?_
        refine AllReadyH.cons rfl (fun K hK => ?_) AllReadyH.nil
        go_simp
        go_at_call 19; ((with_reducible refine ((HOA _ (ha.past (below_thru (below_thru (hbV0) hbV1) hbV2)) (hb.past (below_thru (below_thru (hbV0) hbV1) hbV2))).out).mono ?_)); rintro exV3 V3 ⟨xl, xh, hxl, hxh, rfl, hfl, hfh, hbV3⟩
        have HXL := Lib.hid hxl
        have HXH := Lib.hid hxh
        clear hxl hxh
        have ahfl := hfl.at_
        have lhfl := hfl.lt
        have ahfh := hfh.at_
        have lhfh := hfh.lt
        have hzV3 := hbV3.size
        refine hK.out _ _ ⟨(A.past (below_thru (below_thru (below_thru (hbV0) hbV1) hbV2) hbV3)).e6, (B.past (below_thru (below_thru (below_thru (hbV0) hbV1) hbV2) hbV3)).e6⟩ (fun _ => ?_)
        clear hK K
        try simp only [List.getElem_toArray, List.getElem_cons_succ, List.getElem_cons_zero, Act.put, List.setIfInBounds_toArray, List.set_cons_zero, List.set_cons_succ]
        refine wpAnyH_ready (rs := [3]) (by kernel_rfl) (by simp) ?_
        refine AllReadyH.cons rfl (fun K hK => ?_) AllReadyH.nil
        go_simp
        go_at_call 19; ((with_reducible refine ((HOB _ (ha'.past (below_thru (below_thru (below_thru (hbV0) hbV1) hbV2) hbV3)) (hb'.past (below_thru (below_thru (below_thru (hbV0) hbV1) hbV2) hbV3))).out).mono ?_)); rintro exV4 V4 ⟨yl, yh, hyl, hyh, rfl, hgl, hgh, hbV4⟩
        have HYL := Lib.hid hyl
        have HYH := Lib.hid hyh
        clear hyl hyh
        have ahgl := hgl.at_
        have lhgl := hgl.lt
        have ahgh := hgh.at_
        have lhgh := hgh.lt
        have hzV4 := hbV4.size
        refine hK.out _ _ ⟨(A.past (below_thru (below_thru (below_thru (below_thru (hbV0) hbV1) hbV2) hbV3) hbV4)).e6, (B.past (below_thru (below_thru (below_thru (below_thru (hbV0) hbV1) hbV2) hbV3) hbV4)).e6⟩ (fun _ => ?_)
        clear hK K
        try simp only [List.getElem_toArray, List.getElem_cons_succ, List.getElem_cons_zero, Act.put, List.setIfInBounds_toArray, List.set_cons_zero, List.set_cons_succ]
        refine wpAnyH_ready (rs := [6]) (by kernel_rfl) (by simp) ?_
        refine AllReadyH.cons rfl (fun K hK => ?_) AllReadyH.nil
        replace X := (X.past (below_thru (below_thru (hbV2) hbV3) hbV4))
        obtain ⟨X_0, X_1, X_2, X_3, X_4, X_5⟩ := X.e6
        have X_f0 := X.f 0
        have X_f1 := X.f 1
        have X_f2 := X.f 2
        have X_f3 := X.f 3
        have X_f4 := X.f 4
        have X_f5 := X.f 5
        go_simp
        clear X_0 X_1 X_2 X_3 X_4 X_5 X_f0 X_f1 X_f2 X_f3 X_f4 X_f5
        refine hK.out _ _ ⟨((A.past (below_thru (below_thru (below_thru (below_thru (hbV0) hbV1) hbV2) hbV3) hbV4)).only (only6 _ _ _ _ _ _ _ _) (by omega)).e6, ((B.past (below_thru (below_thru (below_thru (below_thru (hbV0) hbV1) hbV2) hbV3) hbV4)).only (only6 _ _ _ _ _ _ _ _) (by omega)).e6⟩ (fun _ => ?_)
        refine anyH_put6 X (fun V5 hOV5 X => ?_)
        have hzV5 := Nat.le_of_eq hOV5.size
        have hyV5 := Nat.le_of_eq hOV5.size.symm
        clear hK K
        try simp only [List.getElem_toArray, List.getElem_cons_succ, List.getElem_cons_zero, Act.put, List.setIfInBounds_toArray, List.set_cons_zero, List.set_cons_succ]
        refine wpAnyH_ready (rs := [7]) (by kernel_rfl) (by simp) ?_
        refine AllReadyH.cons rfl (fun K hK => ?_) AllReadyH.nil
        replace Y := ((Y.past (below_thru (hbV3) hbV4)).only hOV5 (by omega))
        obtain ⟨Y_0, Y_1, Y_2, Y_3, Y_4, Y_5⟩ := Y.e6
        have Y_f0 := Y.f 0
        have Y_f1 := Y.f 1
        have Y_f2 := Y.f 2
        have Y_f3 := Y.f 3
        have Y_f4 := Y.f 4
        have Y_f5 := Y.f 5
        go_simp
        clear Y_0 Y_1 Y_2 Y_3 Y_4 Y_5 Y_f0 Y_f1 Y_f2 Y_f3 Y_f4 Y_f5
        refine hK.out _ _ ⟨((A.past ((below_thru (below_thru (below_thru (below_thru (hbV0) hbV1) hbV2) hbV3) hbV4).trans (hOV5.below (by omega)))).only (only6 _ _ _ _ _ _ _ _) (by omega)).e6, ((B.past ((below_thru (below_thru (below_thru (below_thru (hbV0) hbV1) hbV2) hbV3) hbV4).trans (hOV5.below (by omega)))).only (only6 _ _ _ _ _ _ _ _) (by omega)).e6⟩ (fun _ => ?_)
        refine anyH_put6 Y (fun V6 hOV6 Y => ?_)
        have hzV6 := Nat.le_of_eq hOV6.size
        have hyV6 := Nat.le_of_eq hOV6.size.symm
        clear hK K
        try simp only [List.getElem_toArray, List.getElem_cons_succ, List.getElem_cons_zero, Act.put, List.setIfInBounds_toArray, List.set_cons_zero, List.set_cons_succ]
        refine wpAnyH_done (by kernel_rfl) ?_ _
        go_wp2_with fail
        go_meet
        exact ⟨V0.heap.size, V1.heap.size, xl, xh, yl, yh, rfl, rfl, HXL.out, HXH.out, HYL.out, HYH.out, (X.only hOV6 (by omega)), Y, by omega, by omega, by omega, (((hfl.past (hbV4)).only hOV5 (fun h => by have := ahfl h; have := lhfl h; omega)).only hOV6 (fun h => by have := ahfl h; have := lhfl h; omega)).mono (by omega), (((hfh.past (hbV4)).only hOV5 (fun h => by have := ahfh h; have := lhfh h; omega)).only hOV6 (fun h => by have := ahfh h; have := lhfh h; omega)).mono (by omega), ((hgl.only hOV5 (fun h => by have := ahgl h; have := lhgl h; omega)).only hOV6 (fun h => by have := ahgl h; have := lhgl h; omega)).mono (by omega), ((hgh.only hOV5 (fun h => by have := ahgh h; have := lhgh h; omega)).only hOV6 (fun h => by have := ahgh h; have := lhgh h; omega)).mono (by omega), (((below_thru (below_thru (below_thru (below_thru (hbV0) hbV1) hbV2) hbV3) hbV4).trans (hOV5.below (by omega))).trans (hOV6.below (by omega)))⟩
      refine AllReadyH.cons rfl (fun K hK => ?_) AllReadyH.nil
      go_simp
      refine hK.out _ _ ⟨((A.past (hbV0)).laid _).e6, ((B.past (hbV0)).laid _).e6⟩ (fun _ => ?_)
      refine anyH_lay (fun V1 hbV1 hzV1 Y => ?_)
      clear hK K
      try simp only [List.getElem_toArray, List.getElem_cons_succ, List.getElem_cons_zero, Act.put, List.setIfInBounds_toArray, List.set_cons_zero, List.set_cons_succ]
      refine wpAnyH_ready (rs := [1, 4]) (by kernel_rfl) (by simp) ?_
      refine AllReadyH.cons rfl (fun K hK => ?_) ?_
      · skip
        go_simp
        go_at_call 19; ((with_reducible refine ((HOA _ (ha.past (below_thru (hbV0) hbV1)) (hb.past (below_thru (hbV0) hbV1))).out).mono ?_)); rintro exV2 V2 ⟨xl, xh, hxl, hxh, rfl, hfl, hfh, hbV2⟩
        have HXL := Lib.hid hxl
        have HXH := Lib.hid hxh
        clear hxl hxh
        have ahfl := hfl.at_
        have lhfl := hfl.lt
        have ahfh := hfh.at_
        have lhfh := hfh.lt
        have hzV2 := hbV2.size
        refine hK.out _ _ ⟨(A.past (below_thru (below_thru (hbV0) hbV1) hbV2)).e6, (B.past (below_thru (below_thru (hbV0) hbV1) hbV2)).e6⟩ (fun _ => ?_)
        clear hK K
        try simp only [List.getElem_toArray, List.getElem_cons_succ, List.getElem_cons_zero, Act.put, List.setIfInBounds_toArray, List.set_cons_zero, List.set_cons_succ]
        refine wpAnyH_ready (rs := [3, 4]) (by kernel_rfl) (by simp) ?_
        refine AllReadyH.cons rfl (fun K hK => ?_) ?_
        · skip
          go_simp
          go_at_call 19; ((with_reducible refine ((HOB _ (ha'.past (below_thru (below_thru (hbV0) hbV1) hbV2)) (hb'.past (below_thru (below_thru (hbV0) hbV1) hbV2))).out).mono ?_)); rintro exV3 V3 ⟨yl, yh, hyl, hyh, rfl, hgl, hgh, hbV3⟩
          have HYL := Lib.hid hyl
          have HYH := Lib.hid hyh
          clear hyl hyh
          have ahgl := hgl.at_
          have lhgl := hgl.lt
          have ahgh := hgh.at_
          have lhgh := hgh.lt
          have hzV3 := hbV3.size
          refine hK.out _ _ ⟨(A.past (below_thru (below_thru (below_thru (hbV0) hbV1) hbV2) hbV3)).e6, (B.past (below_thru (below_thru (below_thru (hbV0) hbV1) hbV2) hbV3)).e6⟩ (fun _ => ?_)
          clear hK K
          try simp only [List.getElem_toArray, List.getElem_cons_succ, List.getElem_cons_zero, Act.put, List.setIfInBounds_toArray, List.set_cons_zero, List.set_cons_succ]
          refine wpAnyH_ready (rs := [4]) (by kernel_rfl) (by simp) ?_
          refine AllReadyH.cons rfl (fun K hK => ?_) AllReadyH.nil
          go_simp
          refine hK.out _ _ ⟨((A.past (below_thru (below_thru (below_thru (hbV0) hbV1) hbV2) hbV3)).laid _).e6, ((B.past (below_thru (below_thru (below_thru (hbV0) hbV1) hbV2) hbV3)).laid _).e6⟩ (fun _ => ?_)
          refine anyH_lay (fun V4 hbV4 hzV4 X => ?_)
          clear hK K
          try simp only [List.getElem_toArray, List.getElem_cons_succ, List.getElem_cons_zero, Act.put, List.setIfInBounds_toArray, List.set_cons_zero, List.set_cons_succ]
          refine wpAnyH_ready (rs := [6]) (by kernel_rfl) (by simp) ?_
          refine AllReadyH.cons rfl (fun K hK => ?_) AllReadyH.nil
          obtain ⟨X_0, X_1, X_2, X_3, X_4, X_5⟩ := X.e6
          have X_f0 := X.f 0
          have X_f1 := X.f 1
          have X_f2 := X.f 2
          have X_f3 := X.f 3
          have X_f4 := X.f 4
          have X_f5 := X.f 5
          go_simp
          clear X_0 X_1 X_2 X_3 X_4 X_5 X_f0 X_f1 X_f2 X_f3 X_f4 X_f5
          refine hK.out _ _ ⟨((A.past (below_thru (below_thru (below_thru (below_thru (hbV0) hbV1) hbV2) hbV3) hbV4)).only (only6 _ _ _ _ _ _ _ _) (by omega)).e6, ((B.past (below_thru (below_thru (below_thru (below_thru (hbV0) hbV1) hbV2) hbV3) hbV4)).only (only6 _ _ _ _ _ _ _ _) (by omega)).e6⟩ (fun _ => ?_)
          refine anyH_put6 X (fun V5 hOV5 X => ?_)
          have hzV5 := Nat.le_of_eq hOV5.size
          have hyV5 := Nat.le_of_eq hOV5.size.symm
          clear hK K
          try simp only [List.getElem_toArray, List.getElem_cons_succ, List.getElem_cons_zero, Act.put, List.setIfInBounds_toArray, List.set_cons_zero, List.set_cons_succ]
          refine wpAnyH_ready (rs := [7]) (by kernel_rfl) (by simp) ?_
          refine AllReadyH.cons rfl (fun K hK => ?_) AllReadyH.nil
          replace Y := (Y.past ((below_thru (below_thru (hbV2) hbV3) hbV4).trans (hOV5.below (by omega))))
          obtain ⟨Y_0, Y_1, Y_2, Y_3, Y_4, Y_5⟩ := Y.e6
          have Y_f0 := Y.f 0
          have Y_f1 := Y.f 1
          have Y_f2 := Y.f 2
          have Y_f3 := Y.f 3
          have Y_f4 := Y.f 4
          have Y_f5 := Y.f 5
          go_simp
          clear Y_0 Y_1 Y_2 Y_3 Y_4 Y_5 Y_f0 Y_f1 Y_f2 Y_f3 Y_f4 Y_f5
          refine hK.out _ _ ⟨((A.past ((below_thru (below_thru (below_thru (below_thru (hbV0) hbV1) hbV2) hbV3) hbV4).trans (hOV5.below (by omega)))).only (only6 _ _ _ _ _ _ _ _) (by omega)).e6, ((B.past ((below_thru (below_thru (below_thru (below_thru (hbV0) hbV1) hbV2) hbV3) hbV4).trans (hOV5.below (by omega)))).only (only6 _ _ _ _ _ _ _ _) (by omega)).e6⟩ (fun _ => ?_)
          refine anyH_put6 Y (fun V6 hOV6 Y => ?_)
          have hzV6 := Nat.le_of_eq hOV6.size
          have hyV6 := Nat.le_of_eq hOV6.size.symm
          clear hK K
          try simp only [List.getElem_toArray, List.getElem_cons_succ, List.getElem_cons_zero, Act.put, List.setIfInBounds_toArray, List.set_cons_zero, List.set_cons_succ]
          refine wpAnyH_done (by kernel_rfl) ?_ _
          go_wp2_with fail
          go_meet
          exact ⟨V3.heap.size, V0.heap.size, xl, xh, yl, yh, rfl, rfl, HXL.out, HXH.out, HYL.out, HYH.out, (X.only hOV6 (by omega)), Y, by omega, by omega, by omega, ((hfl.past ((below_thru (hbV3) hbV4).trans (hOV5.below (by omega)))).only hOV6 (fun h => by have := ahfl h; have := lhfl h; omega)).mono (by omega), ((hfh.past ((below_thru (hbV3) hbV4).trans (hOV5.below (by omega)))).only hOV6 (fun h => by have := ahfh h; have := lhfh h; omega)).mono (by omega), ((hgl.past ((hbV4).trans (hOV5.below (by omega)))).only hOV6 (fun h => by have := ahgl h; have := lhgl h; omega)).mono (by omega), ((hgh.past ((hbV4).trans (hOV5.below (by omega)))).only hOV6 (fun h => by have := ahgh h; have := lhgh h; omega)).mono (by omega), (((below_thru (below_thru (below_thru (below_thru (hbV0) hbV1) hbV2) hbV3) hbV4).trans (hOV5.below (by omega))).trans (hOV6.below (by omega)))⟩
        refine AllReadyH.cons rfl (fun K hK => ?_) AllReadyH.nil
        go_simp
        refine hK.out _ _ ⟨((A.past (below_thru (below_thru (hbV0) hbV1) hbV2)).laid _).e6, ((B.past (below_thru (below_thru (hbV0) hbV1) hbV2)).laid _).e6⟩ (fun _ => ?_)
        refine anyH_lay (fun V3 hbV3 hzV3 X => ?_)
        clear hK K
        try simp only [List.getElem_toArray, List.getElem_cons_succ, List.getElem_cons_zero, Act.put, List.setIfInBounds_toArray, List.set_cons_zero, List.set_cons_succ]
        refine wpAnyH_ready (rs := [3]) (by kernel_rfl) (by simp) ?_
        refine AllReadyH.cons rfl (fun K hK => ?_) AllReadyH.nil
        go_simp
        go_at_call 19; ((with_reducible refine ((HOB _ (ha'.past (below_thru (below_thru (below_thru (hbV0) hbV1) hbV2) hbV3)) (hb'.past (below_thru (below_thru (below_thru (hbV0) hbV1) hbV2) hbV3))).out).mono ?_)); rintro exV4 V4 ⟨yl, yh, hyl, hyh, rfl, hgl, hgh, hbV4⟩
        have HYL := Lib.hid hyl
        have HYH := Lib.hid hyh
        clear hyl hyh
        have ahgl := hgl.at_
        have lhgl := hgl.lt
        have ahgh := hgh.at_
        have lhgh := hgh.lt
        have hzV4 := hbV4.size
        refine hK.out _ _ ⟨(A.past (below_thru (below_thru (below_thru (below_thru (hbV0) hbV1) hbV2) hbV3) hbV4)).e6, (B.past (below_thru (below_thru (below_thru (below_thru (hbV0) hbV1) hbV2) hbV3) hbV4)).e6⟩ (fun _ => ?_)
        clear hK K
        try simp only [List.getElem_toArray, List.getElem_cons_succ, List.getElem_cons_zero, Act.put, List.setIfInBounds_toArray, List.set_cons_zero, List.set_cons_succ]
        refine wpAnyH_ready (rs := [6]) (by kernel_rfl) (by simp) ?_
        refine AllReadyH.cons rfl (fun K hK => ?_) AllReadyH.nil
        replace X := (X.past (hbV4))
        obtain ⟨X_0, X_1, X_2, X_3, X_4, X_5⟩ := X.e6
        have X_f0 := X.f 0
        have X_f1 := X.f 1
        have X_f2 := X.f 2
        have X_f3 := X.f 3
        have X_f4 := X.f 4
        have X_f5 := X.f 5
        go_simp
        clear X_0 X_1 X_2 X_3 X_4 X_5 X_f0 X_f1 X_f2 X_f3 X_f4 X_f5
        refine hK.out _ _ ⟨((A.past (below_thru (below_thru (below_thru (below_thru (hbV0) hbV1) hbV2) hbV3) hbV4)).only (only6 _ _ _ _ _ _ _ _) (by omega)).e6, ((B.past (below_thru (below_thru (below_thru (below_thru (hbV0) hbV1) hbV2) hbV3) hbV4)).only (only6 _ _ _ _ _ _ _ _) (by omega)).e6⟩ (fun _ => ?_)
        refine anyH_put6 X (fun V5 hOV5 X => ?_)
        have hzV5 := Nat.le_of_eq hOV5.size
        have hyV5 := Nat.le_of_eq hOV5.size.symm
        clear hK K
        try simp only [List.getElem_toArray, List.getElem_cons_succ, List.getElem_cons_zero, Act.put, List.setIfInBounds_toArray, List.set_cons_zero, List.set_cons_succ]
        refine wpAnyH_ready (rs := [7]) (by kernel_rfl) (by simp) ?_
        refine AllReadyH.cons rfl (fun K hK => ?_) AllReadyH.nil
        replace Y := (Y.past ((below_thru (below_thru (hbV2) hbV3) hbV4).trans (hOV5.below (by omega))))
        obtain ⟨Y_0, Y_1, Y_2, Y_3, Y_4, Y_5⟩ := Y.e6
        have Y_f0 := Y.f 0
        have Y_f1 := Y.f 1
        have Y_f2 := Y.f 2
        have Y_f3 := Y.f 3
        have Y_f4 := Y.f 4
        have Y_f5 := Y.f 5
        go_simp
        clear Y_0 Y_1 Y_2 Y_3 Y_4 Y_5 Y_f0 Y_f1 Y_f2 Y_f3 Y_f4 Y_f5
        refine hK.out _ _ ⟨((A.past ((below_thru (below_thru (below_thru (below_thru (hbV0) hbV1) hbV2) hbV3) hbV4).trans (hOV5.below (by omega)))).only (only6 _ _ _ _ _ _ _ _) (by omega)).e6, ((B.past ((below_thru (below_thru (below_thru (below_thru (hbV0) hbV1) hbV2) hbV3) hbV4).trans (hOV5.below (by omega)))).only (only6 _ _ _ _ _ _ _ _) (by omega)).e6⟩ (fun _ => ?_)
        refine anyH_put6 Y (fun V6 hOV6 Y => ?_)
        have hzV6 := Nat.le_of_eq hOV6.size
        have hyV6 := Nat.le_of_eq hOV6.size.symm
        clear hK K
        try simp only [List.getElem_toArray, List.getElem_cons_succ, List.getElem_cons_zero, Act.put, List.setIfInBounds_toArray, List.set_cons_zero, List.set_cons_succ]
        refine wpAnyH_done (by kernel_rfl) ?_ _
        go_wp2_with fail
        go_meet
        exact ⟨V2.heap.size, V0.heap.size, xl, xh, yl, yh, rfl, rfl, HXL.out, HXH.out, HYL.out, HYH.out, (X.only hOV6 (by omega)), Y, by omega, by omega, by omega, ((hfl.past ((below_thru (hbV3) hbV4).trans (hOV5.below (by omega)))).only hOV6 (fun h => by have := ahfl h; have := lhfl h; omega)).mono (by omega), ((hfh.past ((below_thru (hbV3) hbV4).trans (hOV5.below (by omega)))).only hOV6 (fun h => by have := ahfh h; have := lhfh h; omega)).mono (by omega), ((hgl.only hOV5 (fun h => by have := ahgl h; have := lhgl h; omega)).only hOV6 (fun h => by have := ahgl h; have := lhgl h; omega)).mono (by omega), ((hgh.only hOV5 (fun h => by have := ahgh h; have := lhgh h; omega)).only hOV6 (fun h => by have := ahgh h; have := lhgh h; omega)).mono (by omega), (((below_thru (below_thru (below_thru (below_thru (hbV0) hbV1) hbV2) hbV3) hbV4).trans (hOV5.below (by omega))).trans (hOV6.below (by omega)))⟩
      refine AllReadyH.cons rfl (fun K hK => ?_) AllReadyH.nil
      go_simp
      refine hK.out _ _ ⟨((A.past (below_thru (hbV0) hbV1)).laid _).e6, ((B.past (below_thru (hbV0) hbV1)).laid _).e6⟩ (fun _ => ?_)
      refine anyH_lay (fun V2 hbV2 hzV2 X => ?_)
      clear hK K
      try simp only [List.getElem_toArray, List.getElem_cons_succ, List.getElem_cons_zero, Act.put, List.setIfInBounds_toArray, List.set_cons_zero, List.set_cons_succ]
      refine wpAnyH_ready (rs := [1]) (by kernel_rfl) (by simp) ?_
      refine AllReadyH.cons rfl (fun K hK => ?_) AllReadyH.nil
      go_simp
      go_at_call 19; ((with_reducible refine ((HOA _ (ha.past (below_thru (below_thru (hbV0) hbV1) hbV2)) (hb.past (below_thru (below_thru (hbV0) hbV1) hbV2))).out).mono ?_)); rintro exV3 V3 ⟨xl, xh, hxl, hxh, rfl, hfl, hfh, hbV3⟩
      have HXL := Lib.hid hxl
      have HXH := Lib.hid hxh
      clear hxl hxh
      have ahfl := hfl.at_
      have lhfl := hfl.lt
      have ahfh := hfh.at_
      have lhfh := hfh.lt
      have hzV3 := hbV3.size
      refine hK.out _ _ ⟨(A.past (below_thru (below_thru (below_thru (hbV0) hbV1) hbV2) hbV3)).e6, (B.past (below_thru (below_thru (below_thru (hbV0) hbV1) hbV2) hbV3)).e6⟩ (fun _ => ?_)
      clear hK K
      try simp only [List.getElem_toArray, List.getElem_cons_succ, List.getElem_cons_zero, Act.put, List.setIfInBounds_toArray, List.set_cons_zero, List.set_cons_succ]
      refine wpAnyH_ready (rs := [3]) (by kernel_rfl) (by simp) ?_
      refine AllReadyH.cons rfl (fun K hK => ?_) AllReadyH.nil
      go_simp
      go_at_call 19; ((with_reducible refine ((HOB _ (ha'.past (below_thru (below_thru (below_thru (hbV0) hbV1) hbV2) hbV3)) (hb'.past (below_thru (below_thru (below_thru (hbV0) hbV1) hbV2) hbV3))).out).mono ?_)); rintro exV4 V4 ⟨yl, yh, hyl, hyh, rfl, hgl, hgh, hbV4⟩
      have HYL := Lib.hid hyl
      have HYH := Lib.hid hyh
      clear hyl hyh
      have ahgl := hgl.at_
      have lhgl := hgl.lt
      have ahgh := hgh.at_
      have lhgh := hgh.lt
      have hzV4 := hbV4.size
      refine hK.out _ _ ⟨(A.past (below_thru (below_thru (below_thru (below_thru (hbV0) hbV1) hbV2) hbV3) hbV4)).e6, (B.past (below_thru (below_thru (below_thru (below_thru (hbV0) hbV1) hbV2) hbV3) hbV4)).e6⟩ (fun _ => ?_)
      clear hK K
      try simp only [List.getElem_toArray, List.getElem_cons_succ, List.getElem_cons_zero, Act.put, List.setIfInBounds_toArray, List.set_cons_zero, List.set_cons_succ]
      refine wpAnyH_ready (rs := [6]) (by kernel_rfl) (by simp) ?_
      refine AllReadyH.cons rfl (fun K hK => ?_) AllReadyH.nil
      replace X := (X.past (below_thru (hbV3) hbV4))
      obtain ⟨X_0, X_1, X_2, X_3, X_4, X_5⟩ := X.e6
      have X_f0 := X.f 0
      have X_f1 := X.f 1
      have X_f2 := X.f 2
      have X_f3 := X.f 3
      have X_f4 := X.f 4
      have X_f5 := X.f 5
      go_simp
      clear X_0 X_1 X_2 X_3 X_4 X_5 X_f0 X_f1 X_f2 X_f3 X_f4 X_f5
      refine hK.out _ _ ⟨((A.past (below_thru (below_thru (below_thru (below_thru (hbV0) hbV1) hbV2) hbV3) hbV4)).only (only6 _ _ _ _ _ _ _ _) (by omega)).e6, ((B.past (below_thru (below_thru (below_thru (below_thru (hbV0) hbV1) hbV2) hbV3) hbV4)).only (only6 _ _ _ _ _ _ _ _) (by omega)).e6⟩ (fun _ => ?_)
      refine anyH_put6 X (fun V5 hOV5 X => ?_)
      have hzV5 := Nat.le_of_eq hOV5.size
      have hyV5 := Nat.le_of_eq hOV5.size.symm
      clear hK K
      try simp only [List.getElem_toArray, List.getElem_cons_succ, List.getElem_cons_zero, Act.put, List.setIfInBounds_toArray, List.set_cons_zero, List.set_cons_succ]
      refine wpAnyH_ready (rs := [7]) (by kernel_rfl) (by simp) ?_
      refine AllReadyH.cons rfl (fun K hK => ?_) AllReadyH.nil
      replace Y := (Y.past ((below_thru (below_thru (hbV2) hbV3) hbV4).trans (hOV5.below (by omega))))
      obtain ⟨Y_0, Y_1, Y_2, Y_3, Y_4, Y_5⟩ := Y.e6
      have Y_f0 := Y.f 0
      have Y_f1 := Y.f 1
      have Y_f2 := Y.f 2
      have Y_f3 := Y.f 3
      have Y_f4 := Y.f 4
      have Y_f5 := Y.f 5
      go_simp
      clear Y_0 Y_1 Y_2 Y_3 Y_4 Y_5 Y_f0 Y_f1 Y_f2 Y_f3 Y_f4 Y_f5
      refine hK.out _ _ ⟨((A.past ((below_thru (below_thru (below_thru (below_thru (hbV0) hbV1) hbV2) hbV3) hbV4).trans (hOV5.below (by omega)))).only (only6 _ _ _ _ _ _ _ _) (by omega)).e6, ((B.past ((below_thru (below_thru (below_thru (below_thru (hbV0) hbV1) hbV2) hbV3) hbV4).trans (hOV5.below (by omega)))).only (only6 _ _ _ _ _ _ _ _) (by omega)).e6⟩ (fun _ => ?_)
      refine anyH_put6 Y (fun V6 hOV6 Y => ?_)
      have hzV6 := Nat.le_of_eq hOV6.size
      have hyV6 := Nat.le_of_eq hOV6.size.symm
      clear hK K
      try simp only [List.getElem_toArray, List.getElem_cons_succ, List.getElem_cons_zero, Act.put, List.setIfInBounds_toArray, List.set_cons_zero, List.set_cons_succ]
      refine wpAnyH_done (by kernel_rfl) ?_ _
      go_wp2_with fail
      go_meet
      exact ⟨V1.heap.size, V0.heap.size, xl, xh, yl, yh, rfl, rfl, HXL.out, HXH.out, HYL.out, HYH.out, (X.only hOV6 (by omega)), Y, by omega, by omega, by omega, (((hfl.past (hbV4)).only hOV5 (fun h => by have := ahfl h; have := lhfl h; omega)).only hOV6 (fun h => by have := ahfl h; have := lhfl h; omega)).mono (by omega), (((hfh.past (hbV4)).only hOV5 (fun h => by have := ahfh h; have := lhfh h; omega)).only hOV6 (fun h => by have := ahfh h; have := lhfh h; omega)).mono (by omega), ((hgl.only hOV5 (fun h => by have := ahgl h; have := lhgl h; omega)).only hOV6 (fun h => by have := ahgl h; have := lhgl h; omega)).mono (by omega), ((hgh.only hOV5 (fun h => by have := ahgh h; have := lhgh h; omega)).only hOV6 (fun h => by have := ahgh h; have := lhgh h; omega)).mono (by omega), (((below_thru (below_thru (below_thru (below_thru (hbV0) hbV1) hbV2) hbV3) hbV4).trans (hOV5.below (by omega))).trans (hOV6.below (by omega)))⟩
    case rest =>
      obtain ⟨kx, ky, xl, xh, yl, yh, rfl, rfl, hxl, hxh, hyl, hyh, X, Y, hxy, hkx, hky, fxl, fxh, fyl, fyh, hb6⟩ := hcut
      have HXL := Lib.hid hxl
      have HXH := Lib.hid hxh
      have HYL := Lib.hid hyl
      have HYH := Lib.hid hyh
      clear hxl hxh hyl hyh HOA HOB HTW HP
      replace C := C.past hb6
      replace LO := LO.past hb6
      replace HI := HI.past hb6
      replace hT := hT.past hb6
      replace ho2 := ho2.past hb6
      replace hq2 := hq2.past hb6
      have hs6 := hs5.trans (hb6.mono hs5.size)
      clear A B ha hb ha' hb'
      have hz5 := hb5.size
      have hz6 := hb6.size
      obtain ⟨hdl, hdh⟩ := HD
      obtain ⟨zl, hzl⟩ : ∃ d, rHigh va [va'] = d := ⟨_, rfl⟩
      obtain ⟨zh, hzh⟩ : ∃ d, rLow vb [vb'] = d := ⟨_, rfl⟩
      have HDL := Lib.hid hdl
      have HDH := Lib.hid hdh
      have HZL := Lib.hid hzl
      have HZH := Lib.hid hzh
      clear hdl hdh hzl hzh
      obtain ⟨X_0, X_1, X_2, X_3, X_4, X_5⟩ := X.e6
      obtain ⟨Y_0, Y_1, Y_2, Y_3, Y_4, Y_5⟩ := Y.e6
      go_wp2_with fail
      clear X_0 X_1 X_2 X_3 X_4 X_5 Y_0 Y_1 Y_2 Y_3 Y_4 Y_5
      refine calls_lay1 (fun W7 hb7 hz7 E => ?_)
      replace C := C.past hb7
      replace LO := LO.past hb7
      replace HI := HI.past hb7
      replace X := X.past hb7
      replace Y := Y.past hb7
      replace hT := hT.past hb7
      replace ho2 := ho2.past hb7
      replace hq2 := hq2.past hb7
      replace fxl := fxl.past hb7
      replace fxh := fxh.past hb7
      replace fyl := fyl.past hb7
      replace fyh := fyh.past hb7
      have hs7 := hs6.trans (hb7.mono hs6.size)
      ((with_reducible refine (endsF2_any _ _ W5.heap.size xl yl va va' dl zl _ HXL.out HYL.out HDL.out HZL.out E fxl fyl).mono ?_))
      rintro e8 w8 ⟨rl, rx, hrl, -, rfl, frl, -, hb8⟩
      have HRL := Lib.hid hrl
      clear hrl
      replace C := C.past hb8
      replace LO := LO.past hb8
      replace HI := HI.past hb8
      replace X := X.past hb8
      replace Y := Y.past hb8
      replace E := E.past hb8
      replace hT := hT.past hb8
      replace ho2 := ho2.past hb8
      replace hq2 := hq2.past hb8
      replace fxl := fxl.past hb8
      replace fxh := fxh.past hb8
      replace fyl := fyl.past hb8
      replace fyh := fyh.past hb8
      have hs8 := hs7.trans (hb8.mono hs7.size)
      have afrl := frl.at_
      have lfrl := frl.lt
      have z7 := hb7.size
      have z8 := hb8.size
      obtain ⟨LO_0, LO_1, LO_2⟩ := LO.e3
      have LO_f0 := LO.f 0
      have LO_f1 := LO.f 1
      have LO_f2 := LO.f 2
      obtain ⟨X_0, X_1, X_2, X_3, X_4, X_5⟩ := X.e6
      obtain ⟨Y_0, Y_1, Y_2, Y_3, Y_4, Y_5⟩ := Y.e6
      go_upto_region 7 with (fail)
      clear LO_0 LO_1 LO_2 LO_f0 LO_f1 LO_f2 X_0 X_1 X_2 X_3 X_4 X_5 Y_0 Y_1 Y_2 Y_3 Y_4 Y_5
      refine wp_put3 LO (fun W9 hO9 LO => ?_)
      have z9 := Nat.le_of_eq hO9.size
      have y9 := Nat.le_of_eq hO9.size.symm
      replace X := X.only hO9 (by omega)
      replace Y := Y.only hO9 (by omega)
      replace C := C.only hO9 (by omega)
      replace HI := HI.only hO9 (by omega)
      replace hT := hT.below (hO9.below (Nat.le_refl _)) (by omega)
      replace ho2 := ho2.only hO9 (fun h => by have := bho2 h; omega)
      replace hq2 := hq2.only hO9 (fun h => by have := bhq2 h; omega)
      replace fxh := fxh.only hO9 (fun h => by have := fxh.at_ h; omega)
      replace fyh := fyh.only hO9 (fun h => by have := fyh.at_ h; omega)
      replace frl := frl.only hO9 (fun h => by have := afrl h; omega)
      have hs9 := hs8.trans (hO9.below (by omega))
      obtain ⟨X_0, X_1, X_2, X_3, X_4, X_5⟩ := X.e6
      obtain ⟨Y_0, Y_1, Y_2, Y_3, Y_4, Y_5⟩ := Y.e6
      go_wp2_with fail
      clear X_0 X_1 X_2 X_3 X_4 X_5 Y_0 Y_1 Y_2 Y_3 Y_4 Y_5
      refine calls_lay1 (fun W10 hb10 hz10 E => ?_)
      replace X := X.past hb10
      replace Y := Y.past hb10
      replace C := C.past hb10
      replace LO := LO.past hb10
      replace HI := HI.past hb10
      replace hT := hT.past hb10
      replace ho2 := ho2.past hb10
      replace hq2 := hq2.past hb10
      replace fxh := fxh.past hb10
      replace fyh := fyh.past hb10
      replace frl := frl.past hb10
      have hs10 := hs9.trans (hb10.mono hs9.size)
      ((with_reducible refine (endsF2_any _ _ W5.heap.size xh yh vb vb' zh dh _ HXH.out HYH.out HZH.out HDH.out E fxh fyh).mono ?_))
      rintro e11 w11 ⟨ry, rh, -, hrh, rfl, -, frh, hb11⟩
      have HRH := Lib.hid hrh
      clear hrh
      replace X := X.past hb11
      replace Y := Y.past hb11
      replace C := C.past hb11
      replace LO := LO.past hb11
      replace HI := HI.past hb11
      replace E := E.past hb11
      replace hT := hT.past hb11
      replace ho2 := ho2.past hb11
      replace hq2 := hq2.past hb11
      replace fxh := fxh.past hb11
      replace fyh := fyh.past hb11
      replace frl := frl.past hb11
      have hs11 := hs10.trans (hb11.mono hs10.size)
      obtain ⟨HI_0, HI_1, HI_2⟩ := HI.e3
      have HI_f0 := HI.f 0
      have HI_f1 := HI.f 1
      have HI_f2 := HI.f 2
      go_upto_region 8 with (fail)
      clear HI_0 HI_1 HI_2 HI_f0 HI_f1 HI_f2
      refine wp_put3 HI (fun W12 hO12 HI => ?_)
      have z11 := hb11.size
      have z10 := hb10.size
      replace C := C.only hO12 (by omega)
      replace LO := LO.only hO12 (by omega)
      replace hT := hT.below (hO12.below (Nat.le_refl _)) (by omega)
      replace ho2 := ho2.only hO12 (fun h => by have := bho2 h; omega)
      replace hq2 := hq2.only hO12 (fun h => by have := bhq2 h; omega)
      replace frl := frl.only hO12 (fun h => by have := frl.at_ h; omega)
      replace frh := frh.only hO12 (fun h => by have := frh.at_ h; omega)
      have hs6 := hs11.trans (hO12.below (by omega))
      have z12 := Nat.le_of_eq hO12.size.symm
      replace frl := frl.mono (base' := w.heap.size + 1) (by omega)
      replace frh := frh.mono (base' := w.heap.size + 1) (by omega)
      go_wp2_with fail
      have hz6 := hs6.size
      ((with_reducible refine (ballBegun_any _ hT).mono ?_))
      rintro e20 w20 ⟨rfl, hb20⟩
      replace C := C.past hb20
      replace LO := LO.past hb20
      replace HI := HI.past hb20
      replace hT := hT.past hb20
      replace ho2 := ho2.past hb20
      replace hq2 := hq2.past hb20
      replace frl := frl.past hb20
      replace frh := frh.past hb20
      have hs20 := hs6.trans (hb20.mono hs6.size)
      obtain ⟨C_0, C_1, C_2, C_3, C_4, C_5⟩ := C.e6
      obtain ⟨LO_0, LO_1, LO_2⟩ := LO.e3
      obtain ⟨HI_0, HI_1, HI_2⟩ := HI.e3
      go_wp2_with fail
      clear C_0 C_1 C_2 C_3 C_4 C_5 LO_0 LO_1 LO_2 HI_0 HI_1 HI_2
      have HI := Lib.hid (ballIs_of rl rh dl dh n (w.heap.size + 1) p2 q2 c2 d2 w20 HRL.out HRH.out frl frh (by omega) (by omega) HLX.out HLY.out ho2.rd hq2.rd)
      ((with_reducible refine HI.out.mono ?_))
      rintro e21 w21 ⟨rfl, hb21⟩
      go_wp2
      go_ret
      exact ⟨rfl, hs20.trans (hb21.mono hs20.size)⟩
  · unfold twoL twoH twoE at HP
    simp only [h0, if_false] at HP
    generalize errC n [(a, b), (a', b')] = ec at *
    have t1 : (ec == 0) = false := beq_eq_false_iff_ne.2 h0
    have H0 := Lib.hid h0
    clear h0
    go_enter Tryd.func5, Tryd.ntmps5
    go_upto_region 1 with (fail)
    refine wp_lay2 (fun W1 hb1 hz1 A B => ?_)
    replace ha := ha.past hb1
    replace hb := hb.past hb1
    replace ha' := ha'.past hb1
    replace hb' := hb'.past hb1
    replace hT := hT.past hb1
    have hs1 := hb1
    obtain ⟨A_0, A_1, A_2, A_3, A_4, A_5⟩ := A.e6
    obtain ⟨B_0, B_1, B_2, B_3, B_4, B_5⟩ := B.e6
    go_wp2_with fail
    clear A_0 A_1 A_2 A_3 A_4 A_5 B_0 B_1 B_2 B_3 B_4 B_5
    ((with_reducible refine (HP _ ha hb ha' hb' hT).out.mono ?_))
    intro e2 w2 hg2
    obtain ⟨p2, c2, q2, d2, rfl, hb2⟩ := givesBE_none hg2
    replace A := A.past hb2
    replace B := B.past hb2
    replace ha := ha.past hb2
    replace hb := hb.past hb2
    replace ha' := ha'.past hb2
    replace hb' := hb'.past hb2
    replace hT := hT.past hb2
    have hs2 := hs1.trans (hb2.mono hs1.size)
    go_upto_region 2 with (fail)
    refine wp_lay1 (fun W3 hb3 hz3 C => ?_)
    replace A := A.past hb3
    replace B := B.past hb3
    replace ha := ha.past hb3
    replace hb := hb.past hb3
    replace ha' := ha'.past hb3
    replace hb' := hb'.past hb3
    replace hT := hT.past hb3
    have hs3 := hs2.trans (hb3.mono hs2.size)
    obtain ⟨A_0, A_1, A_2, A_3, A_4, A_5⟩ := A.e6
    obtain ⟨B_0, B_1, B_2, B_3, B_4, B_5⟩ := B.e6
    go_wp2_with fail
    clear A_0 A_1 A_2 A_3 A_4 A_5 B_0 B_1 B_2 B_3 B_4 B_5
    ((with_reducible refine ((HTW _ ha hb ha' hb').out).mono ?_))
    rintro e4 w4 ⟨rfl, hb4⟩
    replace A := A.past hb4
    replace B := B.past hb4
    replace C := C.past hb4
    replace ha := ha.past hb4
    replace hb := hb.past hb4
    replace ha' := ha'.past hb4
    replace hb' := hb'.past hb4
    replace hT := hT.past hb4
    have hs4 := hs3.trans (hb4.mono hs3.size)
    go_upto_region 4 with (fail)
    refine wp_lay2 (fun W5 hb5 hz5 LO HI => ?_)
    replace C := C.past hb5
    replace hT := hT.past hb5
    have hs5 := hs4.trans (hb5.mono hs4.size)
    go_wp2_with fail
    ((with_reducible refine (ballBegun_any _ hT).mono ?_))
    rintro e20 w20 ⟨rfl, hb20⟩
    replace C := C.past hb20
    replace LO := LO.past hb20
    replace HI := HI.past hb20
    replace hT := hT.past hb20
    have hs20 := hs5.trans (hb20.mono hs5.size)
    obtain ⟨C_0, C_1, C_2, C_3, C_4, C_5⟩ := C.e6
    obtain ⟨LO_0, LO_1, LO_2⟩ := LO.e3
    obtain ⟨HI_0, HI_1, HI_2⟩ := HI.e3
    go_wp2_with fail
    clear C_0 C_1 C_2 C_3 C_4 C_5 LO_0 LO_1 LO_2 HI_0 HI_1 HI_2
    ((with_reducible refine (ballIs_err ec n p2 q2 c2 d2 w20 H0.out).mono ?_))
    rintro e21 w21 ⟨rfl, hb21⟩
    go_wp2
    go_ret
    exact ⟨rfl, hs20.trans (hb21.mono hs20.size)⟩

end Go.Proofs.YtkooikgplpamlaaDoor
