/- The law BallSqrts: its walk. -/
import Derived.Test.YtkooikgplpamlaaDoorZLawB1
import Derived.Test.YtkooikgplpamlaaDoorZP
namespace Go.Proofs.YtkooikgplpamlaaDoor
open Go.RowKit Go.Slip




set_option maxHeartbeats 8000000 in
set_option maxRecDepth 100000 in
theorem lawBSqrt_row (a b : Din) (n : Int) (w : World) (ha : InD w a) (hb : InD w b) (hT : TabW w) :
    Calls Tryd.prog 10 #[.agg #[.bool a.g, .slice a.p a.xs.length a.c, .int .i64 a.e, .bool b.g, .slice b.p b.xs.length b.c, .int .i64 b.e], .int .i64 n] w fun e w' => e = .returned (.bool true) ∧ Below w.heap.size w w' := by
  have HP := fun W k1 k2 k3 => Lib.hid (bSqrt_any a b n W k1 k2 k3)
  have HTW := fun W k1 k2 k3 k4 => Lib.hid (twoBalls_any n a b a b W k1 k2 k3 k4)
  rw [errC_same] at HTW
  by_cases h0 : errC n [(a, b)] = 0
  · obtain ⟨k1, k3, k4⟩ := errC_ok1 h0
    obtain ⟨q1, q2, -⟩ := errBall_ok k1
    have HOA := fun W k1 k2 => Lib.hid (refOfBall_any a b W k1 k2 q1 q2)
    have sa := dyV_smD ha q1
    have sb := dyV_smD hb q2
    have Ba := dyV_bare a
    have Bb := dyV_bare b
    rw [h0] at HTW
    unfold sqL sqH sqE sqC at HP
    simp only [h0, if_true] at HP
    clear q1 q2 k1 h0
    generalize dyV a = va at *
    generalize dyV b = vb at *
    by_cases g : dSign va < 0
    · rw [if_pos g] at HP
      simp only [show ¬ ((5 : Int) = 0) by omega, if_false] at HP
      have t1 : decide (dSign va < 0) = true := decide_eq_true g
      clear g
      go_enter Tryd.func10, Tryd.ntmps10
      go_upto_region 1 with (fail)
      refine wp_lay1 (fun W1 hb1 hz1 A => ?_)
      replace ha := ha.past hb1
      replace hb := hb.past hb1
      replace hT := hT.past hb1
      have hs1 := hb1
      obtain ⟨A_0, A_1, A_2, A_3, A_4, A_5⟩ := A.e6
      go_wp2_with fail
      clear A_0 A_1 A_2 A_3 A_4 A_5
      ((with_reducible refine (HP _ ha hb hT).out.mono ?_))
      intro e2 w2 hg2
      obtain ⟨p2, c2, q2, d2, rfl, hb2⟩ := givesBE_none hg2
      replace A := A.past hb2
      replace ha := ha.past hb2
      replace hb := hb.past hb2
      replace hT := hT.past hb2
      have hs2 := hs1.trans (hb2.mono hs1.size)
      go_upto_region 2 with (fail)
      refine wp_lay1 (fun W3 hb3 hz3 C => ?_)
      replace A := A.past hb3
      replace ha := ha.past hb3
      replace hb := hb.past hb3
      replace hT := hT.past hb3
      have hs3 := hs2.trans (hb3.mono hs2.size)
      obtain ⟨A_0, A_1, A_2, A_3, A_4, A_5⟩ := A.e6
      go_wp2_with fail
      clear A_0 A_1 A_2 A_3 A_4 A_5
      ((with_reducible refine ((HTW _ ha hb ha hb).out).mono ?_))
      rintro e4 w4 ⟨rfl, hb4⟩
      replace A := A.past hb4
      replace C := C.past hb4
      replace ha := ha.past hb4
      replace hb := hb.past hb4
      replace hT := hT.past hb4
      have hs4 := hs3.trans (hb4.mono hs3.size)
      go_upto_region 4 with (fail)
      refine wp_lay2 (fun W5 hb5 hz5 LO HI => ?_)
      replace A := A.past hb5
      replace C := C.past hb5
      replace ha := ha.past hb5
      replace hb := hb.past hb5
      replace hT := hT.past hb5
      have hs5 := hs4.trans (hb5.mono hs4.size)
      obtain ⟨A_0, A_1, A_2, A_3, A_4, A_5⟩ := A.e6
      go_wp2_with fail
      clear A_0 A_1 A_2 A_3 A_4 A_5
      ((with_reducible refine ((HOA _ ha hb).out).mono ?_))
      rintro e6 w6 ⟨xl, xh, hxl, hxh, rfl, fxl, fxh, hb6⟩
      replace A := A.past hb6
      replace C := C.past hb6
      replace LO := LO.past hb6
      replace HI := HI.past hb6
      replace ha := ha.past hb6
      replace hb := hb.past hb6
      replace hT := hT.past hb6
      have hs6 := hs5.trans (hb6.mono hs5.size)
      have HXL := Lib.hid hxl
      have HXH := Lib.hid hxh
      clear hxl hxh
      have D1 := fun B W k => Lib.hid (show Calls _ _ _ W fun en w' => en = .returned (.int .i64 (dSign va)) ∧ Below W.heap.size W w' by have h := dsignF_any xl B W k; rw [HXL.out] at h; exact h)
      go_upto_region 6 with (fail)
      refine wp_lay1 (fun W7 hb7 hz7 X => ?_)
      replace A := A.past hb7
      replace C := C.past hb7
      replace LO := LO.past hb7
      replace HI := HI.past hb7
      replace ha := ha.past hb7
      replace hb := hb.past hb7
      replace hT := hT.past hb7
      replace fxl := fxl.past hb7
      replace fxh := fxh.past hb7
      have hs7 := hs6.trans (hb7.mono hs6.size)
      obtain ⟨X_0, X_1, X_2, X_3, X_4, X_5⟩ := X.e6
      go_wp2_with fail
      clear X_0 X_1 X_2 X_3 X_4 X_5
      generalize dSign va = S1 at *
      ((with_reducible refine ((D1 _ _ fxl).out).mono ?_))
      rintro e8 w8 ⟨rfl, hb8⟩
      replace A := A.past hb8
      replace C := C.past hb8
      replace LO := LO.past hb8
      replace HI := HI.past hb8
      replace X := X.past hb8
      replace ha := ha.past hb8
      replace hb := hb.past hb8
      replace hT := hT.past hb8
      replace fxl := fxl.past hb8
      replace fxh := fxh.past hb8
      have hs8 := hs7.trans (hb8.mono hs7.size)
      clear D1
      go_wp2_with fail
      ((with_reducible refine (ballBegun_any _ hT).mono ?_))
      rintro e20 w20 ⟨rfl, hb20⟩
      replace A := A.past hb20
      replace C := C.past hb20
      replace LO := LO.past hb20
      replace HI := HI.past hb20
      replace X := X.past hb20
      replace ha := ha.past hb20
      replace hb := hb.past hb20
      replace hT := hT.past hb20
      replace fxl := fxl.past hb20
      replace fxh := fxh.past hb20
      have hs20 := hs8.trans (hb20.mono hs8.size)
      obtain ⟨C_0, C_1, C_2, C_3, C_4, C_5⟩ := C.e6
      obtain ⟨LO_0, LO_1, LO_2⟩ := LO.e3
      obtain ⟨HI_0, HI_1, HI_2⟩ := HI.e3
      go_wp2_with fail
      clear C_0 C_1 C_2 C_3 C_4 C_5 LO_0 LO_1 LO_2 HI_0 HI_1 HI_2
      ((with_reducible refine (ballIs_err 5 n p2 q2 c2 d2 w20 (by first | omega | exact H0.out)).mono ?_))
      rintro e21 w21 ⟨rfl, hb21⟩
      go_wp2
      go_ret
      exact ⟨rfl, hs20.trans (hb21.mono hs20.size)⟩
    · have t1 : decide (dSign va < 0) = false := decide_eq_false g
      rw [if_neg g] at HP
      simp only [if_true, pRoot_eq Ba, pRoot_eq Bb] at HP
      rw [← rRoot_again (a := va) n.toNat false (by omega), ← rRoot_again (a := vb) n.toNat true (by omega)] at HP
      have FL := rRoot_bd (a := va) n.toNat false (by omega) sa.len sa.lo sa.hi
      have FH := rRoot_bd (a := vb) n.toNat true (by omega) sb.len sb.lo sb.hi
      have hlx := FL.len
      have hly := FH.len
      rw [← rRoot_again (a := va) n.toNat false (by omega)] at hlx
      rw [← rRoot_again (a := vb) n.toNat true (by omega)] at hly
      obtain ⟨dl, hdl⟩ : ∃ d, rRoot va n.toNat false = d := ⟨_, rfl⟩
      obtain ⟨dh, hdh⟩ : ∃ d, rRoot vb n.toNat true = d := ⟨_, rfl⟩
      simp only [hdl, hdh] at HP
      rw [hdl] at hlx
      rw [hdh] at hly
      have HDL := Lib.hid hdl
      have HDH := Lib.hid hdh
      have HLX := Lib.hid (show (dig B16 (rCut dl n.toNat false).m).length ≤ 100000000 by omega)
      have HLY := Lib.hid (show (dig B16 (rCut dh n.toNat true).m).length ≤ 100000000 by omega)
      clear g FL FH hlx hly hdl hdh
      go_enter Tryd.func10, Tryd.ntmps10
      go_upto_region 1 with (fail)
      refine wp_lay1 (fun W1 hb1 hz1 A => ?_)
      replace ha := ha.past hb1
      replace hb := hb.past hb1
      replace hT := hT.past hb1
      have hs1 := hb1
      obtain ⟨A_0, A_1, A_2, A_3, A_4, A_5⟩ := A.e6
      go_wp2_with fail
      clear A_0 A_1 A_2 A_3 A_4 A_5
      ((with_reducible refine (HP _ ha hb hT).out.mono ?_))
      rintro e2 w2 ⟨p2, c2, q2, d2, rfl, ho2, hq2, hb2⟩
      replace A := A.past hb2
      replace ha := ha.past hb2
      replace hb := hb.past hb2
      replace hT := hT.past hb2
      have hs2 := hs1.trans (hb2.mono hs1.size)
      have bho2 := ho2.blk_lt
      have bhq2 := hq2.blk_lt
      go_upto_region 2 with (fail)
      refine wp_lay1 (fun W3 hb3 hz3 C => ?_)
      replace A := A.past hb3
      replace ha := ha.past hb3
      replace hb := hb.past hb3
      replace hT := hT.past hb3
      replace ho2 := ho2.past hb3
      replace hq2 := hq2.past hb3
      have hs3 := hs2.trans (hb3.mono hs2.size)
      obtain ⟨A_0, A_1, A_2, A_3, A_4, A_5⟩ := A.e6
      go_wp2_with fail
      clear A_0 A_1 A_2 A_3 A_4 A_5
      ((with_reducible refine ((HTW _ ha hb ha hb).out).mono ?_))
      rintro e4 w4 ⟨rfl, hb4⟩
      replace A := A.past hb4
      replace C := C.past hb4
      replace ha := ha.past hb4
      replace hb := hb.past hb4
      replace hT := hT.past hb4
      replace ho2 := ho2.past hb4
      replace hq2 := hq2.past hb4
      have hs4 := hs3.trans (hb4.mono hs3.size)
      go_upto_region 4 with (fail)
      refine wp_lay2 (fun W5 hb5 hz5 LO HI => ?_)
      replace A := A.past hb5
      replace C := C.past hb5
      replace ha := ha.past hb5
      replace hb := hb.past hb5
      replace hT := hT.past hb5
      replace ho2 := ho2.past hb5
      replace hq2 := hq2.past hb5
      have hs5 := hs4.trans (hb5.mono hs4.size)
      obtain ⟨A_0, A_1, A_2, A_3, A_4, A_5⟩ := A.e6
      go_wp2_with fail
      clear A_0 A_1 A_2 A_3 A_4 A_5
      ((with_reducible refine ((HOA _ ha hb).out).mono ?_))
      rintro e6 w6 ⟨xl, xh, hxl, hxh, rfl, fxl, fxh, hb6⟩
      replace A := A.past hb6
      replace C := C.past hb6
      replace LO := LO.past hb6
      replace HI := HI.past hb6
      replace ha := ha.past hb6
      replace hb := hb.past hb6
      replace hT := hT.past hb6
      replace ho2 := ho2.past hb6
      replace hq2 := hq2.past hb6
      have hs6 := hs5.trans (hb6.mono hs5.size)
      have HXL := Lib.hid hxl
      have HXH := Lib.hid hxh
      clear hxl hxh
      have D1 := fun B W k => Lib.hid (show Calls _ _ _ W fun en w' => en = .returned (.int .i64 (dSign va)) ∧ Below W.heap.size W w' by have h := dsignF_any xl B W k; rw [HXL.out] at h; exact h)
      go_upto_region 6 with (fail)
      refine wp_lay1 (fun W7 hb7 hz7 X => ?_)
      replace A := A.past hb7
      replace C := C.past hb7
      replace LO := LO.past hb7
      replace HI := HI.past hb7
      replace ha := ha.past hb7
      replace hb := hb.past hb7
      replace hT := hT.past hb7
      replace ho2 := ho2.past hb7
      replace hq2 := hq2.past hb7
      replace fxl := fxl.past hb7
      replace fxh := fxh.past hb7
      have hs7 := hs6.trans (hb7.mono hs6.size)
      obtain ⟨X_0, X_1, X_2, X_3, X_4, X_5⟩ := X.e6
      go_wp2_with fail
      clear X_0 X_1 X_2 X_3 X_4 X_5
      generalize dSign va = S1 at *
      ((with_reducible refine ((D1 _ _ fxl).out).mono ?_))
      rintro e8 w8 ⟨rfl, hb8⟩
      replace A := A.past hb8
      replace C := C.past hb8
      replace LO := LO.past hb8
      replace HI := HI.past hb8
      replace X := X.past hb8
      replace ha := ha.past hb8
      replace hb := hb.past hb8
      replace hT := hT.past hb8
      replace ho2 := ho2.past hb8
      replace hq2 := hq2.past hb8
      replace fxl := fxl.past hb8
      replace fxh := fxh.past hb8
      have hs8 := hs7.trans (hb8.mono hs7.size)
      clear D1
      go_upto_region 8 with (fail)
      have z1 := hs1.size
      have z2 := hb2.size
      have z3 := hb3.size
      have z4 := hb4.size
      have z5 := hb5.size
      have z6 := hb6.size
      have z7 := hb7.size
      have z8 := hb8.size
      obtain ⟨V0, hV0⟩ : ∃ V0, V0 = (w8).drew := ⟨_, rfl⟩
      have hbV0 : Below (w8).heap.size (w8) V0 := by rw [hV0]; exact (Below.refl _ _).drew
      have hzV0 := hbV0.size
      refine wp_region_held_drew (S := fun w' => (w'.cell? ⟨w6.heap.size, 0, none⟩ = some (.bool xl.g) ∧ w'.cell? ⟨w6.heap.size, 1, none⟩ = some (.slice xl.p (dig B16 xl.m).length xl.c) ∧ w'.cell? ⟨w6.heap.size, 2, none⟩ = some (.int .i64 xl.e) ∧ w'.cell? ⟨w6.heap.size, 3, none⟩ = some (.bool xh.g) ∧ w'.cell? ⟨w6.heap.size, 4, none⟩ = some (.slice xh.p (dig B16 xh.m).length xh.c) ∧ w'.cell? ⟨w6.heap.size, 5, none⟩ = some (.int .i64 xh.e))) (by kernel_rfl) (by rw [← hV0]; exact (X.past (hbV0)).e6) (fun hHeld => ?_)
      clear hHeld
      rw [← hV0]
      clear hV0
      refine wpAnyH_take (i := 0) (v := .pointer (some ⟨w6.heap.size, 0, none⟩)) rfl (by kernel_rfl) (by kernel_rfl) (by kernel_rfl) (fun _ _ _ h => h) (.inl ⟨by rfl, fun w' hSw => ?_⟩) (X.past (hbV0)).e6 ?_
      · (try dsimp only at hSw)
        first | (go_simp; done) | (go_simp; with_reducible rfl)
      try simp only [List.getElem_toArray, List.getElem_cons_zero, Act.put, List.setIfInBounds_toArray, List.set_cons_zero, List.set_cons_succ]
      refine wpAnyH_take (i := 1) (v := .agg #[.bool xl.g, .slice xl.p (dig B16 xl.m).length xl.c, .int .i64 xl.e]) rfl (by kernel_rfl) (by kernel_rfl) (by kernel_rfl) (fun _ _ _ h => h) (.inl ⟨by rfl, fun w' hSw => ?_⟩) (X.past (hbV0)).e6 ?_
      · (try dsimp only at hSw)
        first | (go_simp; done) | (go_simp; with_reducible rfl)
      try simp only [List.getElem_toArray, List.getElem_cons_succ, List.getElem_cons_zero, Act.put, List.setIfInBounds_toArray, List.set_cons_zero, List.set_cons_succ]
      refine wpAnyH_take (i := 2) (v := .int .i64 n) rfl (by kernel_rfl) (by kernel_rfl) (by kernel_rfl) (fun _ _ _ h => h) (.inl ⟨by rfl, fun w' hSw => ?_⟩) (X.past (hbV0)).e6 ?_
      · (try dsimp only at hSw)
        first | (go_simp; done) | (go_simp; with_reducible rfl)
      try simp only [List.getElem_toArray, List.getElem_cons_succ, List.getElem_cons_zero, Act.put, List.setIfInBounds_toArray, List.set_cons_zero, List.set_cons_succ]
      refine wpAnyH_take (i := 4) (v := .pointer (some ⟨w6.heap.size, 3, none⟩)) rfl (by kernel_rfl) (by kernel_rfl) (by kernel_rfl) (fun _ _ _ h => h) (.inl ⟨by rfl, fun w' hSw => ?_⟩) (X.past (hbV0)).e6 ?_
      · (try dsimp only at hSw)
        first | (go_simp; done) | (go_simp; with_reducible rfl)
      try simp only [List.getElem_toArray, List.getElem_cons_succ, List.getElem_cons_zero, Act.put, List.setIfInBounds_toArray, List.set_cons_zero, List.set_cons_succ]
      refine wpAnyH_take (i := 5) (v := .agg #[.bool xh.g, .slice xh.p (dig B16 xh.m).length xh.c, .int .i64 xh.e]) rfl (by kernel_rfl) (by kernel_rfl) (by kernel_rfl) (fun _ _ _ h => h) (.inl ⟨by rfl, fun w' hSw => ?_⟩) (X.past (hbV0)).e6 ?_
      · (try dsimp only at hSw)
        first | (go_simp; done) | (go_simp; with_reducible rfl)
      try simp only [List.getElem_toArray, List.getElem_cons_succ, List.getElem_cons_zero, Act.put, List.setIfInBounds_toArray, List.set_cons_zero, List.set_cons_succ]
      refine wpAnyH_take (i := 6) (v := .int .i64 n) rfl (by kernel_rfl) (by kernel_rfl) (by kernel_rfl) (fun _ _ _ h => h) (.inl ⟨by rfl, fun w' hSw => ?_⟩) (X.past (hbV0)).e6 ?_
      · (try dsimp only at hSw)
        first | (go_simp; done) | (go_simp; with_reducible rfl)
      try simp only [List.getElem_toArray, List.getElem_cons_succ, List.getElem_cons_zero, Act.put, List.setIfInBounds_toArray, List.set_cons_zero, List.set_cons_succ]
      refine wpAnyH_ready (rs := [3]) (by kernel_rfl) (by simp) ?_
      refine AllReadyH.cons rfl (fun K hK => ?_) AllReadyH.nil
      go_simp
      go_at_call 36; ((with_reducible refine (drootG_any xl n _ false va dl _ HXL.out (fxl.past (hbV0)) sa (by omega) (by omega) HDL.out).mono ?_)); rintro exV1 V1 ⟨rl, hrl, rfl, frl, hbV1⟩
      have HRL := Lib.hid hrl
      clear hrl
      have afrl := frl.at_
      have lfrl := frl.lt
      have hzV1 := hbV1.size
      refine hK.out _ _ (X.past (below_thru (hbV0) hbV1)).e6 (fun _ => ?_)
      clear hK K
      try simp only [List.getElem_toArray, List.getElem_cons_succ, List.getElem_cons_zero, Act.put, List.setIfInBounds_toArray, List.set_cons_zero, List.set_cons_succ]
      refine wpAnyH_ready (rs := [7]) (by kernel_rfl) (by simp) ?_
      refine AllReadyH.cons rfl (fun K hK => ?_) AllReadyH.nil
      go_simp
      go_at_call 36; ((with_reducible refine (drootG_any xh n _ true vb dh _ HXH.out (fxh.past (below_thru (hbV0) hbV1)) sb (by omega) (by omega) HDH.out).mono ?_)); rintro exV2 V2 ⟨rh, hrh, rfl, frh, hbV2⟩
      have HRH := Lib.hid hrh
      clear hrh
      have afrh := frh.at_
      have lfrh := frh.lt
      have hzV2 := hbV2.size
      refine hK.out _ _ (X.past (below_thru (below_thru (hbV0) hbV1) hbV2)).e6 (fun _ => ?_)
      clear hK K
      try simp only [List.getElem_toArray, List.getElem_cons_succ, List.getElem_cons_zero, Act.put, List.setIfInBounds_toArray, List.set_cons_zero, List.set_cons_succ]
      refine wpAnyH_ready (rs := [8]) (by kernel_rfl) (by simp) ?_
      refine AllReadyH.cons rfl (fun K hK => ?_) AllReadyH.nil
      replace LO := (LO.past (below_thru (below_thru (hbV0) hbV1) hbV2))
      obtain ⟨LO_0, LO_1, LO_2⟩ := LO.e3
      have LO_f0 := LO.f 0
      have LO_f1 := LO.f 1
      have LO_f2 := LO.f 2
      go_simp
      clear LO_0 LO_1 LO_2 LO_f0 LO_f1 LO_f2
      refine hK.out _ _ ((X.past (below_thru (below_thru (hbV0) hbV1) hbV2)).only (only3 _ _ _ _ _) (by omega)).e6 (fun _ => ?_)
      refine anyH_put3 LO (fun V3 hOV3 LO => ?_)
      have hzV3 := Nat.le_of_eq hOV3.size
      have hyV3 := Nat.le_of_eq hOV3.size.symm
      clear hK K
      try simp only [List.getElem_toArray, List.getElem_cons_succ, List.getElem_cons_zero, Act.put, List.setIfInBounds_toArray, List.set_cons_zero, List.set_cons_succ]
      refine wpAnyH_ready (rs := [9]) (by kernel_rfl) (by simp) ?_
      refine AllReadyH.cons rfl (fun K hK => ?_) AllReadyH.nil
      replace HI := ((HI.past (below_thru (below_thru (hbV0) hbV1) hbV2)).only hOV3 (by omega))
      obtain ⟨HI_0, HI_1, HI_2⟩ := HI.e3
      have HI_f0 := HI.f 0
      have HI_f1 := HI.f 1
      have HI_f2 := HI.f 2
      go_simp
      clear HI_0 HI_1 HI_2 HI_f0 HI_f1 HI_f2
      refine hK.out _ _ (((X.past (below_thru (below_thru (hbV0) hbV1) hbV2)).only hOV3 (by omega)).only (only3 _ _ _ _ _) (by omega)).e6 (fun _ => ?_)
      refine anyH_put3 HI (fun V4 hOV4 HI => ?_)
      have hzV4 := Nat.le_of_eq hOV4.size
      have hyV4 := Nat.le_of_eq hOV4.size.symm
      clear hK K
      try simp only [List.getElem_toArray, List.getElem_cons_succ, List.getElem_cons_zero, Act.put, List.setIfInBounds_toArray, List.set_cons_zero, List.set_cons_succ]
      refine wpAnyH_done (by kernel_rfl) ?_ _
      replace C := (((C.past (below_thru (below_thru (hbV0) hbV1) hbV2)).only hOV3 (by omega)).only hOV4 (by omega))
      replace LO := (LO.only hOV4 (by omega))
      replace hT := (((((hT.past hbV0).past hbV1).past hbV2).below (hOV3.below (Nat.le_refl _)) (by omega)).below (hOV4.below (Nat.le_refl _)) (by omega))
      replace ho2 := (((ho2.past (below_thru (below_thru (hbV0) hbV1) hbV2)).only hOV3 (fun h => by have := bho2 h; omega)).only hOV4 (fun h => by have := bho2 h; omega))
      replace hq2 := (((hq2.past (below_thru (below_thru (hbV0) hbV1) hbV2)).only hOV3 (fun h => by have := bhq2 h; omega)).only hOV4 (fun h => by have := bhq2 h; omega))
      replace hs8 := (((below_thru (below_thru (below_thru hs8 hbV0) hbV1) hbV2).trans (hOV3.below (by omega))).trans (hOV4.below (by omega)))
      replace frl := (((frl.past (hbV2)).only hOV3 (fun h => by have := afrl h; have := lfrl h; omega)).only hOV4 (fun h => by have := afrl h; have := lfrl h; omega))
      replace frh := ((frh.only hOV3 (fun h => by have := afrh h; have := lfrh h; omega)).only hOV4 (fun h => by have := afrh h; have := lfrh h; omega))
      clear X fxl fxh
      go_wp2_with fail
      replace frl := frl.mono (base' := w.heap.size + 1) (by omega)
      replace frh := frh.mono (base' := w.heap.size + 1) (by omega)
      have hz8 := hs8.size
      ((with_reducible refine (ballBegun_any _ hT).mono ?_))
      rintro e20 w20 ⟨rfl, hb20⟩
      replace C := C.past hb20
      replace LO := LO.past hb20
      replace HI := HI.past hb20
      replace hT := hT.past hb20
      replace ho2 := ho2.past hb20
      replace hq2 := hq2.past hb20
      replace frl := frl.past hb20
      replace frh := frh.past hb20
      have hs20 := hs8.trans (hb20.mono hs8.size)
      obtain ⟨C_0, C_1, C_2, C_3, C_4, C_5⟩ := C.e6
      obtain ⟨LO_0, LO_1, LO_2⟩ := LO.e3
      obtain ⟨HI_0, HI_1, HI_2⟩ := HI.e3
      go_wp2_with fail
      clear C_0 C_1 C_2 C_3 C_4 C_5 LO_0 LO_1 LO_2 HI_0 HI_1 HI_2
      have HI := Lib.hid (ballIs_of rl rh dl dh n (w.heap.size + 1) p2 q2 c2 d2 w20 HRL.out HRH.out frl frh (by omega) (by omega) HLX.out HLY.out ho2.rd hq2.rd)
      ((with_reducible refine HI.out.mono ?_))
      rintro e21 w21 ⟨rfl, hb21⟩
      go_wp2
      go_ret
      exact ⟨rfl, hs20.trans (hb21.mono hs20.size)⟩
  · unfold sqL sqH sqE sqC at HP
    simp only [h0, if_false] at HP
    generalize errC n [(a, b)] = ec at *
    have t1 : (ec == 0) = false := beq_eq_false_iff_ne.2 h0
    have H0 := Lib.hid h0
    clear h0
    go_enter Tryd.func10, Tryd.ntmps10
    go_upto_region 1 with (fail)
    refine wp_lay1 (fun W1 hb1 hz1 A => ?_)
    replace ha := ha.past hb1
    replace hb := hb.past hb1
    replace hT := hT.past hb1
    have hs1 := hb1
    obtain ⟨A_0, A_1, A_2, A_3, A_4, A_5⟩ := A.e6
    go_wp2_with fail
    clear A_0 A_1 A_2 A_3 A_4 A_5
    ((with_reducible refine (HP _ ha hb hT).out.mono ?_))
    intro e2 w2 hg2
    obtain ⟨p2, c2, q2, d2, rfl, hb2⟩ := givesBE_none hg2
    replace A := A.past hb2
    replace ha := ha.past hb2
    replace hb := hb.past hb2
    replace hT := hT.past hb2
    have hs2 := hs1.trans (hb2.mono hs1.size)
    go_upto_region 2 with (fail)
    refine wp_lay1 (fun W3 hb3 hz3 C => ?_)
    replace A := A.past hb3
    replace ha := ha.past hb3
    replace hb := hb.past hb3
    replace hT := hT.past hb3
    have hs3 := hs2.trans (hb3.mono hs2.size)
    obtain ⟨A_0, A_1, A_2, A_3, A_4, A_5⟩ := A.e6
    go_wp2_with fail
    clear A_0 A_1 A_2 A_3 A_4 A_5
    ((with_reducible refine ((HTW _ ha hb ha hb).out).mono ?_))
    rintro e4 w4 ⟨rfl, hb4⟩
    replace A := A.past hb4
    replace C := C.past hb4
    replace ha := ha.past hb4
    replace hb := hb.past hb4
    replace hT := hT.past hb4
    have hs4 := hs3.trans (hb4.mono hs3.size)
    go_upto_region 4 with (fail)
    refine wp_lay2 (fun W5 hb5 hz5 LO HI => ?_)
    replace A := A.past hb5
    replace C := C.past hb5
    replace ha := ha.past hb5
    replace hb := hb.past hb5
    replace hT := hT.past hb5
    have hs5 := hs4.trans (hb5.mono hs4.size)
    go_wp2_with fail
    ((with_reducible refine (ballBegun_any _ hT).mono ?_))
    rintro e20 w20 ⟨rfl, hb20⟩
    replace A := A.past hb20
    replace C := C.past hb20
    replace LO := LO.past hb20
    replace HI := HI.past hb20
    replace ha := ha.past hb20
    replace hb := hb.past hb20
    replace hT := hT.past hb20
    have hs20 := hs5.trans (hb20.mono hs5.size)
    obtain ⟨C_0, C_1, C_2, C_3, C_4, C_5⟩ := C.e6
    obtain ⟨LO_0, LO_1, LO_2⟩ := LO.e3
    obtain ⟨HI_0, HI_1, HI_2⟩ := HI.e3
    go_wp2_with fail
    clear C_0 C_1 C_2 C_3 C_4 C_5 LO_0 LO_1 LO_2 HI_0 HI_1 HI_2
    ((with_reducible refine (ballIs_err ec n p2 q2 c2 d2 w20 (by first | omega | exact H0.out)).mono ?_))
    rintro e21 w21 ⟨rfl, hb21⟩
    go_wp2
    go_ret
    exact ⟨rfl, hs20.trans (hb21.mono hs20.size)⟩

end Go.Proofs.YtkooikgplpamlaaDoor
