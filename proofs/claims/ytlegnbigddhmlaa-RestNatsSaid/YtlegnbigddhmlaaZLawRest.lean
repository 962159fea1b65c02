/- The law RestNats: its walk. -/
import Derived.Test.YtlegnbigddhmlaaZRst2
import Derived.Test.YtlegnbigddhmlaaZNat3
namespace Go.Proofs.Ytlegnbigddhmlaa
open Go.RowKit Go.Slip


set_option maxHeartbeats 4000000 in
set_option maxRecDepth 100000 in
theorem rest_good (p : Option Addr) (c a : Nat) (q : Option Addr) (d b : Nat) (i0 : Int) (N : Nat) (w : World)
    (hp : Rd w .u32 p (dig B32 a)) (hl : (dig B32 a).length ≤ 1200) (hq : Rd w .u32 q (dig B32 b)) (hl2 : (dig B32 b).length ≤ 1200) (hi : -9223372036854775808 ≤ i0 ∧ i0 ≤ 9223372036854775807) (hN : chs i0 100 = N) :
    Calls Try.prog 3 #[.slice p (dig B32 a).length c, .slice q (dig B32 b).length d, .int .i64 i0] w fun e w' => e = .returned (.bool true) ∧ Below w.heap.size w w' := by
  have hN2 : N < 100 := by rw [← hN]; exact chs_lt i0 100 (by omega)
  have hTu : SxOne Try.prog 26 := sxOne_of (by kernel_rfl) (by kernel_rfl)
  have la : (dig B16 a).length ≤ 2400 := by have := dig_len_halves a; omega
  have lb : (dig B16 b).length ≤ 2400 := by have := dig_len_halves b; omega
  have ls : (dig B16 (a + b)).length ≤ 5000 := by have := dig_len_add B16_two a b; omega
  have lm : (dig B16 (a * b)).length ≤ 5000 := by have := dig_len_mul B16_two a b; omega
  have lu : (dig B16 (a * 2 ^ N)).length ≤ 5000 := by have := dig_len_mul B16_two a (2 ^ N); have := dig_len_pow2 N; omega
  have lq : (dig B16 (a / b)).length ≤ 2400 := Nat.le_trans (dig_len_mono B16_two (Nat.div_le_self _ _)) la
  have lr : (dig B16 (a % b)).length ≤ 2400 := Nat.le_trans (dig_len_mono B16_two (Nat.mod_le _ _)) la
  have lQ := dQ_len (b := b) hl
  have lR := dR_len (b := b) hl
  have nS := natL_len (e := 0) (r := a + b)
  have nM := natL_len (e := 0) (r := a * b)
  have nU := natL_len (e := 0) (r := a * 2 ^ N)
  refine calls_of_wp Try.func3 rfl ?_
  refine sx_frame (a' := ⟨((.slice p (dig B32 a).length c) :: (.slice q (dig B32 b).length d) :: (.int .i64 i0) :: undef :: undef :: undef :: undef :: undef :: undef :: undef :: undef :: undef :: undef :: undef :: undef :: undef :: undef :: undef :: undef :: undef :: undef :: undef :: undef :: undef :: undef :: undef :: undef :: undef :: undef :: undef :: undef :: undef :: undef :: undef :: undef :: undef :: undef :: undef :: undef :: undef :: undef :: undef :: undef :: undef :: undef :: undef :: undef :: undef :: undef :: undef :: undef :: undef :: undef :: undef :: undef :: undef :: undef :: undef :: undef :: undef :: undef :: undef :: undef :: undef :: undef :: undef :: undef :: undef :: undef :: undef :: undef :: undef :: undef :: undef :: undef :: undef :: undef :: undef :: undef :: undef :: undef :: undef :: undef :: undef :: undef :: undef :: undef :: undef :: undef :: undef :: undef :: undef :: undef :: undef :: undef :: undef :: undef :: undef :: undef :: undef :: undef :: undef :: undef :: undef :: undef :: undef :: undef :: undef :: undef :: undef :: undef :: undef :: undef :: undef :: undef :: undef :: undef :: undef :: undef :: undef :: undef :: undef :: undef :: undef :: undef :: undef :: undef :: undef :: undef :: undef :: undef :: undef :: undef :: undef :: undef :: undef :: undef :: undef :: undef :: undef :: undef :: undef :: undef :: undef :: undef :: undef :: undef :: undef :: undef :: undef :: undef :: undef :: undef :: undef :: undef :: undef :: undef :: undef :: undef :: undef :: undef :: undef :: undef :: undef :: undef :: undef :: undef :: undef :: undef :: undef :: undef :: undef :: undef :: undef :: undef :: undef :: undef :: undef :: undef :: undef :: undef :: undef :: undef :: undef :: undef :: undef :: undef :: undef :: undef :: []).toArray, []⟩) (by kernel_rfl) ?_
  refine wp_seq ?_
  refine sx_region ?_
  refine sv 6 (.bool false) ?_
  refine sx_nil ?_
  refine sx_then ?_
  refine wp_seq ?_
  refine wp_seq ?_
  refine sx_region ?_
  refine se 24 4 #[] (fun Gx hGx => ?_)
  ((with_reducible refine (natBegun_any w).mono ?_))
  rintro eV1 V1 ⟨rfl, hbV1⟩
  have hzV1 := hbV1.size
  refine ⟨.bool true, rfl, hGx _ _ ?_⟩
  clear hGx Gx
  refine sv 25 (.bool false) ?_
  refine sx_nil ?_
  refine sx_then ?_
  refine wp_cond_false (by kernel_rfl) ?_
  refine wp_skip ?_
  refine sx_then ?_
  refine wp_seq ?_
  refine sx_region ?_
  refine sv 26 (.slice p (dig B32 a).length c) ?_
  replace hp := (hp.past hbV1)
  refine se 27 5 #[.slice p (dig B32 a).length c] (fun Gx hGx => ?_)
  ((with_reducible refine (twin_any p _ c (dig B32 a) _ hp rfl (by omega)).mono ?_))
  rintro eV2 V2 ⟨p27, c27, rfl, o27, hbV2⟩
  have hzV2 := hbV2.size
  refine ⟨.slice p27 (dig B32 a).length c27, rfl, hGx _ _ ?_⟩
  clear hGx Gx
  refine snv 28 (.slice (some ⟨V2.heap.size, 0, none⟩) 2 2) #[.int .u32 5, .int .u32 6] 26 (fun V3 hbV3 hzV3 b28 => ?_)
  replace o27 := (o27.past hbV3)
  refine sap 29 tyNat V1.heap.size p27 _ c27 (dig B32 a) o27 rfl _ 2 2 [5, 6] (rd_two b28) rfl (by simp; omega) (by unfold maxLen; simp; omega) (by omega) (fun p3 c3 V4 o3 hjV4 => ?_)
  have hbV4 : Below V1.heap.size V1 V4 := (bthru hbV2 hbV3).trans (hjV4.mono (by omega))
  have hzV4 := hbV4.size
  refine sv 7 (.slice p3 ((dig B32 a) ++ [5, 6]).length c3) ?_
  refine sx_nil ?_
  refine sx_then ?_
  refine wp_seq ?_
  have lc3 : (dig B32 a).length ≤ c3 := by have h := (o3).le_cap; simp at h; omega
  obtain ⟨V5, hVV5⟩ : ∃ V, V = (V4).drew := ⟨_, rfl⟩
  have hbV5 : Below (V4).heap.size (V4) V5 := by rw [hVV5]; exact (Below.refl _ _).drew
  have hzV5 : V5.heap.size = (V4).heap.size := by rw [hVV5]; rfl
  refine sxd _ (fun w' => True) hVV5 True.intro ?_
  clear hVV5
  refine tk 0 30 (.slice p3 ((dig B32 a) ++ [5, 6]).length c3) True.intro ?_
  refine tk 1 31 (.slice p (dig B32 a).length c) True.intro ?_
  refine tk 2 32 (.int .i64 (((dig B32 a).length : Nat) : Int)) True.intro ?_
  refine tk 3 33 (.slice p3 (dig B32 a).length c3) True.intro ?_ (hy := fun w' _ => (exec_sl (p := p3) (n := ((dig B32 a) ++ [5, 6]).length) (c := c3) (m := (dig B32 a).length) tyNat (by kernel_rfl) (by kernel_rfl) lc3))
  refine tk 4 34 (.slice q (dig B32 b).length d) True.intro ?_
  refine sxr [5] ?_
  refine rd1 (fun Kx hKx => ?_)
  replace hq := (hq.past (bthru (bthru hbV1 hbV4) hbV5))
  refine sek 35 5 #[.slice q (dig B32 b).length d] ?_
  ((with_reducible refine (twin_any q _ d (dig B32 b) _ hq rfl (by omega)).mono ?_))
  rintro eV6 V6 ⟨p35, c35, rfl, o35, hbV6⟩
  have hzV6 := hbV6.size
  refine ⟨.slice p35 (dig B32 b).length c35, rfl, ?_⟩
  refine hKx.out _ _ True.intro ?_
  clear hKx Kx
  refine tk 6 8 (.slice p3 (dig B32 a).length c3) True.intro ?_
  refine tk 7 9 (.slice p35 (dig B32 b).length c35) True.intro ?_
  refine sx_done (by kernel_rfl) ?_
  refine sx_then ?_
  refine wp_seq ?_
  refine sx_region ?_
  refine sv 36 (.int .i64 i0) ?_
  refine se 37 6 #[.int .i64 i0, .int .i64 100] (fun Gx hGx => ?_)
  ((with_reducible refine (choose_b V6 i0 N hN hi).mono ?_))
  rintro eV7 V7 ⟨rfl, hbV7⟩
  have hzV7 := hbV7.size
  refine ⟨.int .i64 ((N : Nat) : Int), rfl, hGx _ _ ?_⟩
  clear hGx Gx
  refine sv 2 (.int .i64 ((N : Nat) : Int)) ?_
  refine sx_nil ?_
  refine sx_then ?_
  refine wp_seq ?_
  refine wp_seq ?_
  refine sx_region ?_
  refine sv 10 (.int .i64 0) ?_
  refine sx_nil ?_
  refine sx_then ?_
  refine wp_block ?_
  refine sx_frame (a' := ⟨((.slice p (dig B32 a).length c) :: (.slice q (dig B32 b).length d) :: (.int .i64 ((N : Nat) : Int)) :: undef :: undef :: undef :: (.bool false) :: (.slice p3 ((dig B32 a) ++ [5, 6]).length c3) :: (.slice p3 (dig B32 a).length c3) :: (.slice p35 (dig B32 b).length c35) :: (.int .i64 0) :: undef :: undef :: undef :: undef :: undef :: undef :: undef :: undef :: undef :: undef :: undef :: undef :: undef :: (.bool true) :: (.bool false) :: (.slice p (dig B32 a).length c) :: (.slice p27 (dig B32 a).length c27) :: (.slice (some ⟨V2.heap.size, 0, none⟩) 2 2) :: (.slice p3 ((dig B32 a) ++ [5, 6]).length c3) :: (.slice p3 ((dig B32 a) ++ [5, 6]).length c3) :: (.slice p (dig B32 a).length c) :: (.int .i64 (((dig B32 a).length : Nat) : Int)) :: (.slice p3 (dig B32 a).length c3) :: (.slice q (dig B32 b).length d) :: (.slice p35 (dig B32 b).length c35) :: (.int .i64 i0) :: (.int .i64 ((N : Nat) : Int)) :: undef :: undef :: undef :: undef :: undef :: undef :: undef :: undef :: undef :: undef :: undef :: undef :: undef :: undef :: undef :: undef :: undef :: undef :: undef :: undef :: undef :: undef :: undef :: undef :: undef :: undef :: undef :: undef :: undef :: undef :: undef :: undef :: undef :: undef :: undef :: undef :: undef :: undef :: undef :: undef :: undef :: undef :: undef :: undef :: undef :: undef :: undef :: undef :: undef :: undef :: undef :: undef :: undef :: undef :: undef :: undef :: undef :: undef :: undef :: undef :: undef :: undef :: undef :: undef :: undef :: undef :: undef :: undef :: undef :: undef :: undef :: undef :: undef :: undef :: undef :: undef :: undef :: undef :: undef :: undef :: undef :: undef :: undef :: undef :: undef :: undef :: undef :: undef :: undef :: undef :: undef :: undef :: undef :: undef :: undef :: undef :: undef :: undef :: undef :: undef :: undef :: undef :: undef :: undef :: undef :: undef :: undef :: undef :: undef :: undef :: undef :: undef :: undef :: undef :: undef :: undef :: undef :: undef :: undef :: undef :: undef :: undef :: undef :: undef :: undef :: undef :: undef :: undef :: undef :: undef :: undef :: undef :: undef :: undef :: undef :: undef :: undef :: undef :: undef :: undef :: undef :: undef :: undef :: undef :: undef :: undef :: undef :: undef :: undef :: undef :: undef :: []).toArray, []⟩) (by kernel_rfl) ?_
  refine sx_loop2 (fun (gk : Nat) U0 a' w' => ∃ (i : Nat), a' = ⟨((.slice p (dig B32 a).length c) :: (.slice q (dig B32 b).length d) :: (.int .i64 ((N : Nat) : Int)) :: undef :: undef :: undef :: (U0 6) :: (.slice p3 ((dig B32 a) ++ [5, 6]).length c3) :: (.slice p3 (dig B32 a).length c3) :: (.slice p35 (dig B32 b).length c35) :: (.int .i64 ((i : Nat) : Int)) :: (U0 11) :: (U0 12) :: (U0 13) :: (U0 14) :: (U0 15) :: (U0 16) :: (U0 17) :: (U0 18) :: (U0 19) :: (U0 20) :: (U0 21) :: (U0 22) :: (U0 23) :: (.bool true) :: (.bool false) :: (.slice p (dig B32 a).length c) :: (.slice p27 (dig B32 a).length c27) :: (.slice (some ⟨V2.heap.size, 0, none⟩) 2 2) :: (.slice p3 ((dig B32 a) ++ [5, 6]).length c3) :: (.slice p3 ((dig B32 a) ++ [5, 6]).length c3) :: (.slice p (dig B32 a).length c) :: (.int .i64 (((dig B32 a).length : Nat) : Int)) :: (.slice p3 (dig B32 a).length c3) :: (.slice q (dig B32 b).length d) :: (.slice p35 (dig B32 b).length c35) :: (.int .i64 i0) :: (.int .i64 ((N : Nat) : Int)) :: (U0 38) :: (U0 39) :: (U0 40) :: (U0 41) :: (U0 42) :: (U0 43) :: (U0 44) :: (U0 45) :: (U0 46) :: (U0 47) :: (U0 48) :: (U0 49) :: (U0 50) :: (U0 51) :: (U0 52) :: (U0 53) :: (U0 54) :: (U0 55) :: (U0 56) :: (U0 57) :: (U0 58) :: (U0 59) :: (U0 60) :: (U0 61) :: (U0 62) :: (U0 63) :: (U0 64) :: (U0 65) :: (U0 66) :: (U0 67) :: (U0 68) :: (U0 69) :: (U0 70) :: (U0 71) :: (U0 72) :: (U0 73) :: (U0 74) :: (U0 75) :: (U0 76) :: (U0 77) :: (U0 78) :: (U0 79) :: (U0 80) :: (U0 81) :: (U0 82) :: (U0 83) :: (U0 84) :: (U0 85) :: (U0 86) :: (U0 87) :: (U0 88) :: (U0 89) :: (U0 90) :: (U0 91) :: (U0 92) :: (U0 93) :: (U0 94) :: (U0 95) :: (U0 96) :: (U0 97) :: (U0 98) :: (U0 99) :: (U0 100) :: (U0 101) :: (U0 102) :: (U0 103) :: (U0 104) :: (U0 105) :: (U0 106) :: (U0 107) :: (U0 108) :: (U0 109) :: (U0 110) :: (U0 111) :: (U0 112) :: (U0 113) :: (U0 114) :: (U0 115) :: (U0 116) :: (U0 117) :: (U0 118) :: (U0 119) :: (U0 120) :: (U0 121) :: (U0 122) :: (U0 123) :: (U0 124) :: (U0 125) :: (U0 126) :: (U0 127) :: (U0 128) :: (U0 129) :: (U0 130) :: (U0 131) :: (U0 132) :: (U0 133) :: (U0 134) :: (U0 135) :: (U0 136) :: (U0 137) :: (U0 138) :: (U0 139) :: (U0 140) :: (U0 141) :: (U0 142) :: (U0 143) :: (U0 144) :: (U0 145) :: (U0 146) :: (U0 147) :: (U0 148) :: (U0 149) :: (U0 150) :: (U0 151) :: (U0 152) :: (U0 153) :: (U0 154) :: (U0 155) :: (U0 156) :: (U0 157) :: (U0 158) :: (U0 159) :: (U0 160) :: (U0 161) :: (U0 162) :: (U0 163) :: (U0 164) :: (U0 165) :: (U0 166) :: (U0 167) :: (U0 168) :: (U0 169) :: (U0 170) :: (U0 171) :: (U0 172) :: (U0 173) :: (U0 174) :: (U0 175) :: (U0 176) :: (U0 177) :: (U0 178) :: (U0 179) :: (U0 180) :: (U0 181) :: (U0 182) :: (U0 183) :: (U0 184) :: (U0 185) :: (U0 186) :: (U0 187) :: (U0 188) :: []).toArray, []⟩ ∧ (Rd w' .u32 p (dig B32 a)) ∧ (Rd w' .u32 q (dig B32 b)) ∧ (Rd w' .u32 p3 ((dig B32 a) ++ [5, 6])) ∧ (Rd w' .u32 p35 (dig B32 b)) ∧ Below V7.heap.size V7 w' ∧ (gk + i = 2)) 2 ?_ (fun Gx hGx => ?_)
  · skip
    replace hp := (hp.past (bthru (bthru (bthru hbV4 hbV5) hbV6) hbV7))
    replace hq := (hq.past (bthru hbV6 hbV7))
    replace o3 := (o3.past (bthru (bthru hbV5 hbV6) hbV7))
    replace o35 := (o35.past hbV7)
    exact ⟨0, by kernel_rfl, hp, hq, (o3).rd, (o35).rd, Below.refl _ _, (by omega)⟩
  rintro gk0 U0 _ V8 ⟨i, rfl, hp, hq, hr, hy, hbV8, hgk⟩
  refine hGx _ _ _ ?_
  clear hGx Gx
  have hzV8 := hbV8.size
  have hp_0 := hp
  have hq_0 := hq
  have hr_0 := hr
  have hy_0 := hy
  refine wp_seq ?_
  refine wp_seq ?_
  refine sx_region ?_
  refine sv 38 (.int .i64 ((i : Nat) : Int)) ?_
  rcases Bool.eq_false_or_eq_true (decide (((i : Nat) : Int) < 2)) with f39 | f39
  · skip
    refine sv 39 (.bool true) ?_ (hr := ((show _ = Result.ok (Next.value (.bool (decide (((i : Nat) : Int) < 2)))) _ from (by kernel_rfl)).trans (congrArg (fun z => Result.ok (Next.value (.bool z)) _) (show (decide (((i : Nat) : Int) < 2)) = true from f39))))
    refine sx_nil ?_
    refine sx_then ?_
    refine wp_cond_true (by kernel_rfl) ?_
    refine wp_skip ?_
    refine sx_then ?_
    refine wp_seq ?_
    refine wp_block ?_
    refine wp_seq ?_
    refine sx_region ?_
    refine sv 43 (.slice p3 (dig B32 a).length c3) ?_
    refine sv 44 (.slice p35 (dig B32 b).length c35) ?_
    refine se 45 7 #[.slice p3 (dig B32 a).length c3, .slice p35 (dig B32 b).length c35] (fun Gx hGx => ?_)
    ((with_reducible refine (add_g p3 p35 _ c3 _ c35 V8 a b (hr).pre hy rfl rfl hl hl2).mono ?_))
    rintro eV9 V9 ⟨p45, c45, rfl, o45, hbV9⟩
    have hzV9 := hbV9.size
    have bl_o45 := fun (h : p45.isSome = true) => (o45).blk_lt h
    refine ⟨.tuple #[.slice p45 (natL 0 (a + b)).length c45, .int .i64 (natE 0 (a + b))], rfl, hGx _ _ ?_⟩
    clear hGx Gx
    refine sv 42 (.tuple #[.slice p45 (natL 0 (a + b)).length c45, .int .i64 (natE 0 (a + b))]) ?_
    refine sv 46 (.slice p45 (natL 0 (a + b)).length c45) ?_
    refine sv 47 (.int .i64 (natE 0 (a + b))) ?_
    refine sv 11 (.slice p45 (natL 0 (a + b)).length c45) ?_
    refine sv 12 (.int .i64 (natE 0 (a + b))) ?_
    refine sx_nil ?_
    refine sx_then ?_
    refine wp_seq ?_
    refine sx_region ?_
    refine sv 49 (.slice p3 (dig B32 a).length c3) ?_
    refine sv 50 (.slice p35 (dig B32 b).length c35) ?_
    replace hr := (hr.past hbV9)
    replace hy := (hy.past hbV9)
    refine se 51 8 #[.slice p3 (dig B32 a).length c3, .slice p35 (dig B32 b).length c35] (fun Gx hGx => ?_)
    ((with_reducible refine (mul_g p3 p35 _ c3 _ c35 V9 a b (hr).pre hy rfl rfl hl hl2).mono ?_))
    rintro eV10 V10 ⟨p51, c51, rfl, o51, hbV10⟩
    have hzV10 := hbV10.size
    have bl_o51 := fun (h : p51.isSome = true) => (o51).blk_lt h
    refine ⟨.tuple #[.slice p51 (natL 0 (a * b)).length c51, .int .i64 (natE 0 (a * b))], rfl, hGx _ _ ?_⟩
    clear hGx Gx
    refine sv 48 (.tuple #[.slice p51 (natL 0 (a * b)).length c51, .int .i64 (natE 0 (a * b))]) ?_
    refine sv 52 (.slice p51 (natL 0 (a * b)).length c51) ?_
    refine sv 53 (.int .i64 (natE 0 (a * b))) ?_
    refine sv 13 (.slice p51 (natL 0 (a * b)).length c51) ?_
    refine sv 14 (.int .i64 (natE 0 (a * b))) ?_
    refine sx_nil ?_
    refine sx_then ?_
    refine wp_seq ?_
    refine sx_region ?_
    refine sv 55 (.slice p3 (dig B32 a).length c3) ?_
    refine sv 56 (.slice p35 (dig B32 b).length c35) ?_
    replace hr := (hr.past hbV10)
    replace hy := (hy.past hbV10)
    refine se 57 9 #[.slice p3 (dig B32 a).length c3, .slice p35 (dig B32 b).length c35] (fun Gx hGx => ?_)
    ((with_reducible refine (div_g p3 p35 _ c3 _ c35 V10 a b (hr).pre hy rfl rfl hl hl2).mono ?_))
    rintro eV11 V11 ⟨p57, c57, q57, d57, rfl, o57, r57, hbV11, hne⟩
    have hzV11 := hbV11.size
    have bl_o57 := fun (h : p57.isSome = true) => (o57).blk_lt h
    have bl_r57 := fun (h : q57.isSome = true) => (r57).blk_lt h
    have ne_o57_r57 := hne
    refine ⟨.tuple #[.slice p57 (dQ a b).length c57, .slice q57 (dR a b).length d57, .int .i64 (dE b)], rfl, hGx _ _ ?_⟩
    clear hGx Gx
    refine sv 54 (.tuple #[.slice p57 (dQ a b).length c57, .slice q57 (dR a b).length d57, .int .i64 (dE b)]) ?_
    refine sv 58 (.slice p57 (dQ a b).length c57) ?_
    refine sv 59 (.slice q57 (dR a b).length d57) ?_
    refine sv 60 (.int .i64 (dE b)) ?_
    refine sv 15 (.slice p57 (dQ a b).length c57) ?_
    refine sv 16 (.slice q57 (dR a b).length d57) ?_
    refine sv 17 (.int .i64 (dE b)) ?_
    refine sx_nil ?_
    refine sx_then ?_
    refine wp_seq ?_
    refine sx_region ?_
    refine sv 62 (.slice p3 (dig B32 a).length c3) ?_
    refine sv 63 (.int .i64 ((N : Nat) : Int)) ?_
    replace hr := (hr.past hbV11)
    refine se 64 10 #[.slice p3 (dig B32 a).length c3, .int .i64 ((N : Nat) : Int)] (fun Gx hGx => ?_)
    ((with_reducible refine (natShift_up p3 _ c3 a N V11 (hr).pre rfl hl (by omega)).mono ?_))
    rintro eV12 V12 ⟨p64, c64, rfl, o64, hbV12⟩
    have hzV12 := hbV12.size
    have bl_o64 := fun (h : p64.isSome = true) => (o64).blk_lt h
    refine ⟨.tuple #[.slice p64 (natL 0 (a * 2 ^ N)).length c64, .int .i64 (natE 0 (a * 2 ^ N))], rfl, hGx _ _ ?_⟩
    clear hGx Gx
    refine sv 61 (.tuple #[.slice p64 (natL 0 (a * 2 ^ N)).length c64, .int .i64 (natE 0 (a * 2 ^ N))]) ?_
    refine sv 65 (.slice p64 (natL 0 (a * 2 ^ N)).length c64) ?_
    refine sv 66 (.int .i64 (natE 0 (a * 2 ^ N))) ?_
    refine sv 18 (.slice p64 (natL 0 (a * 2 ^ N)).length c64) ?_
    refine sv 19 (.int .i64 (natE 0 (a * 2 ^ N))) ?_
    refine sx_nil ?_
    refine sx_then ?_
    refine wp_seq ?_
    refine sx_region ?_
    refine sv 68 (.slice p3 (dig B32 a).length c3) ?_
    refine sv 69 (.int .i64 ((N : Nat) : Int)) ?_
    refine sv 70 (.int .i64 ((N % 10 : Nat) : Int)) ?_ (hr := (exec_rem ((N % 10 : Nat) : Int) (by kernel_rfl) (by kernel_rfl) ((show (10 : Int) ≠ 0 by omega)) ((by exact (Int.ofNat_tmod N 10).symm))))
    refine sv 71 (.int .i64 ((N % 10 + 1 : Nat) : Int)) ?_ (hr := ((show _ = Result.ok (Next.value (.int .i64 (IntKind.wrap .i64 ((1 : Int) + ((N % 10 : Nat) : Int))))) _ by kernel_rfl).trans (congrArg (fun z => Result.ok (Next.value (.int .i64 z)) _) ((by rw [show ((1 : Int) + ((N % 10 : Nat) : Int)) = ((N % 10 + 1 : Nat) : Int) by omega]; exact IntWalk.i64_in _ (by omega))))))
    replace hr := (hr.past hbV12)
    refine se 72 11 #[.slice p3 (dig B32 a).length c3, .int .i64 ((N % 10 + 1 : Nat) : Int)] (fun Gx hGx => ?_)
    ((with_reducible refine (natRoot_good p3 _ c3 a (N % 10 + 1) V12 (hr).pre rfl hl (by omega) (by omega)).mono ?_))
    rintro eV13 V13 ⟨r, hr1, hr2, p72, c72, rfl, o72, hbV13⟩
    have hzV13 := hbV13.size
    have bl_o72 := fun (h : p72.isSome = true) => (o72).blk_lt h
    have lr72 : (dig B32 r).length ≤ 1200 := Nat.le_trans (dig_len_mono B32_two (root_small (by omega) hr1)) hl
    refine ⟨.tuple #[.slice p72 (dig B32 r).length c72, .int .i64 0], rfl, hGx _ _ ?_⟩
    clear hGx Gx
    refine sv 67 (.tuple #[.slice p72 (dig B32 r).length c72, .int .i64 0]) ?_
    refine sv 73 (.slice p72 (dig B32 r).length c72) ?_
    refine sv 74 (.int .i64 0) ?_
    refine sv 20 (.slice p72 (dig B32 r).length c72) ?_
    refine sv 21 (.int .i64 0) ?_
    refine sx_nil ?_
    refine sx_then ?_
    refine wp_seq ?_
    refine wp_seq ?_
    refine sx_region ?_
    refine sv 75 (.slice p3 (dig B32 a).length c3) ?_
    refine sv 76 (.slice p (dig B32 a).length c) ?_
    replace hr := (hr.past hbV13)
    replace hp := (hp.past (bthru (bthru (bthru (bthru hbV9 hbV10) hbV11) hbV12) hbV13))
    refine se 77 12 #[.slice p3 (dig B32 a).length c3, .slice p (dig B32 a).length c] (fun Gx hGx => ?_)
    ((with_reducible refine (refSameNat_any p3 p _ c3 _ c (dig B32 a) (dig B32 a) V13 (hr).pre hp rfl rfl rfl (by omega)).mono ?_))
    rintro eV14 V14 ⟨rfl, hbV14⟩
    have hzV14 := hbV14.size
    refine ⟨.bool true, rfl, hGx _ _ ?_⟩
    clear hGx Gx
    refine sv 78 (.bool false) ?_
    refine sv 79 (.bool false) ?_
    refine sv 80 (.slice p35 (dig B32 b).length c35) ?_
    refine sv 81 (.slice q (dig B32 b).length d) ?_
    replace hy := (hy.past (bthru (bthru (bthru hbV11 hbV12) hbV13) hbV14))
    replace hq := (hq.past (bthru (bthru (bthru (bthru (bthru hbV9 hbV10) hbV11) hbV12) hbV13) hbV14))
    refine se 82 12 #[.slice p35 (dig B32 b).length c35, .slice q (dig B32 b).length d] (fun Gx hGx => ?_)
    ((with_reducible refine (refSameNat_any p35 q _ c35 _ d (dig B32 b) (dig B32 b) V14 hy hq rfl rfl rfl (by omega)).mono ?_))
    rintro eV15 V15 ⟨rfl, hbV15⟩
    have hzV15 := hbV15.size
    refine ⟨.bool true, rfl, hGx _ _ ?_⟩
    clear hGx Gx
    refine sv 83 (.bool false) ?_
    refine sv 84 (.bool false) ?_
    refine sv 85 (.bool false) ?_
    refine sv 86 (.slice p3 ((dig B32 a) ++ [5, 6]).length c3) ?_
    refine sv 87 (.slice p (dig B32 a).length c) ?_
    refine sv 88 (.int .i64 (((dig B32 a).length : Nat) : Int)) ?_
    replace hr := (hr.past (bthru hbV14 hbV15))
    refine sv 89 (.pointer (some (at_ p3 (dig B32 a).length))) ?_ (hr := (exec_ix (p := p3) (n := ((dig B32 a) ++ [5, 6]).length) (c := c3) (m := (dig B32 a).length) tyNat (hr).solid (by kernel_rfl) (by kernel_rfl) (by simp)))
    refine sv 90 (.int .u32 5) ?_ (hr := (exec_ldr hr hTu (by kernel_rfl) (by simp) (dg_snoc0 _ 5 6)))
    refine sv 91 (.bool false) ?_
    refine sv 92 (.bool false) ?_
    refine sv 93 (.bool false) ?_
    refine sv 94 (.slice p3 ((dig B32 a) ++ [5, 6]).length c3) ?_
    refine sv 95 (.slice p (dig B32 a).length c) ?_
    refine sv 96 (.int .i64 (((dig B32 a).length : Nat) : Int)) ?_
    refine sv 97 (.int .i64 (((dig B32 a).length + 1 : Nat) : Int)) ?_ (hr := ((show _ = Result.ok (Next.value (.int .i64 (IntKind.wrap .i64 ((((dig B32 a).length : Nat) : Int) + 1)))) _ by kernel_rfl).trans (congrArg (fun z => Result.ok (Next.value (.int .i64 z)) _) ((by rw [show ((((dig B32 a).length : Nat) : Int) + 1) = (((dig B32 a).length + 1 : Nat) : Int) by omega]; exact IntWalk.i64_in _ (by omega))))))
    refine sv 98 (.pointer (some (at_ p3 ((dig B32 a).length + 1)))) ?_ (hr := (exec_ix (p := p3) (n := ((dig B32 a) ++ [5, 6]).length) (c := c3) (m := (dig B32 a).length + 1) tyNat (hr).solid (by kernel_rfl) (by kernel_rfl) (by simp)))
    refine sv 99 (.int .u32 6) ?_ (hr := (exec_ldr hr hTu (by kernel_rfl) (by simp) (dg_snoc1 _ 5 6)))
    refine sv 100 (.bool false) ?_
    refine sv 101 (.bool false) ?_
    refine sx_nil ?_
    refine sx_then ?_
    refine wp_cond_false (by kernel_rfl) ?_
    refine wp_skip ?_
    refine sx_then ?_
    refine wp_seq ?_
    refine wp_seq ?_
    refine sx_region ?_
    refine sv 102 (.slice p (dig B32 a).length c) ?_
    refine sv 103 (.slice q (dig B32 b).length d) ?_
    replace hp := (hp.past (bthru hbV14 hbV15))
    replace hq := (hq.past hbV15)
    refine se 104 13 #[.slice p (dig B32 a).length c, .slice q (dig B32 b).length d] (fun Gx hGx => ?_)
    ((with_reducible refine (twoNats_b p q _ c _ d V15 _ _ hp hq rfl rfl (by omega) (by omega) 0 (err2_good (errNat_dig hl) (errNat_dig hl2))).mono ?_))
    rintro eV16 V16 ⟨rfl, hbV16⟩
    have hzV16 := hbV16.size
    refine ⟨.int .i64 0, rfl, hGx _ _ ?_⟩
    clear hGx Gx
    refine sv 105 (.bool true) ?_
    refine sx_nil ?_
    refine sx_then ?_
    refine wp_cond_true (by kernel_rfl) ?_
    refine wp_seq ?_
    refine wp_seq ?_
    refine sx_cutu (R := fun U17 a' w' => a' = ⟨((.slice p (dig B32 a).length c) :: (.slice q (dig B32 b).length d) :: (.int .i64 ((N : Nat) : Int)) :: undef :: undef :: undef :: (U0 6) :: (.slice p3 ((dig B32 a) ++ [5, 6]).length c3) :: (.slice p3 (dig B32 a).length c3) :: (.slice p35 (dig B32 b).length c35) :: (.int .i64 ((i : Nat) : Int)) :: (.slice p45 (natL 0 (a + b)).length c45) :: (.int .i64 (natE 0 (a + b))) :: (.slice p51 (natL 0 (a * b)).length c51) :: (.int .i64 (natE 0 (a * b))) :: (.slice p57 (dQ a b).length c57) :: (.slice q57 (dR a b).length d57) :: (.int .i64 (dE b)) :: (.slice p64 (natL 0 (a * 2 ^ N)).length c64) :: (.int .i64 (natE 0 (a * 2 ^ N))) :: (.slice p72 (dig B32 r).length c72) :: (.int .i64 0) :: (U0 22) :: (U0 23) :: (.bool true) :: (.bool false) :: (.slice p (dig B32 a).length c) :: (.slice p27 (dig B32 a).length c27) :: (.slice (some ⟨V2.heap.size, 0, none⟩) 2 2) :: (.slice p3 ((dig B32 a) ++ [5, 6]).length c3) :: (.slice p3 ((dig B32 a) ++ [5, 6]).length c3) :: (.slice p (dig B32 a).length c) :: (.int .i64 (((dig B32 a).length : Nat) : Int)) :: (.slice p3 (dig B32 a).length c3) :: (.slice q (dig B32 b).length d) :: (.slice p35 (dig B32 b).length c35) :: (.int .i64 i0) :: (.int .i64 ((N : Nat) : Int)) :: (.int .i64 ((i : Nat) : Int)) :: (.bool true) :: (U0 40) :: (U0 41) :: (.tuple #[.slice p45 (natL 0 (a + b)).length c45, .int .i64 (natE 0 (a + b))]) :: (.slice p3 (dig B32 a).length c3) :: (.slice p35 (dig B32 b).length c35) :: (.tuple #[.slice p45 (natL 0 (a + b)).length c45, .int .i64 (natE 0 (a + b))]) :: (.slice p45 (natL 0 (a + b)).length c45) :: (.int .i64 (natE 0 (a + b))) :: (.tuple #[.slice p51 (natL 0 (a * b)).length c51, .int .i64 (natE 0 (a * b))]) :: (.slice p3 (dig B32 a).length c3) :: (.slice p35 (dig B32 b).length c35) :: (.tuple #[.slice p51 (natL 0 (a * b)).length c51, .int .i64 (natE 0 (a * b))]) :: (.slice p51 (natL 0 (a * b)).length c51) :: (.int .i64 (natE 0 (a * b))) :: (.tuple #[.slice p57 (dQ a b).length c57, .slice q57 (dR a b).length d57, .int .i64 (dE b)]) :: (.slice p3 (dig B32 a).length c3) :: (.slice p35 (dig B32 b).length c35) :: (.tuple #[.slice p57 (dQ a b).length c57, .slice q57 (dR a b).length d57, .int .i64 (dE b)]) :: (.slice p57 (dQ a b).length c57) :: (.slice q57 (dR a b).length d57) :: (.int .i64 (dE b)) :: (.tuple #[.slice p64 (natL 0 (a * 2 ^ N)).length c64, .int .i64 (natE 0 (a * 2 ^ N))]) :: (.slice p3 (dig B32 a).length c3) :: (.int .i64 ((N : Nat) : Int)) :: (.tuple #[.slice p64 (natL 0 (a * 2 ^ N)).length c64, .int .i64 (natE 0 (a * 2 ^ N))]) :: (.slice p64 (natL 0 (a * 2 ^ N)).length c64) :: (.int .i64 (natE 0 (a * 2 ^ N))) :: (.tuple #[.slice p72 (dig B32 r).length c72, .int .i64 0]) :: (.slice p3 (dig B32 a).length c3) :: (.int .i64 ((N : Nat) : Int)) :: (.int .i64 ((N % 10 : Nat) : Int)) :: (.int .i64 ((N % 10 + 1 : Nat) : Int)) :: (.tuple #[.slice p72 (dig B32 r).length c72, .int .i64 0]) :: (.slice p72 (dig B32 r).length c72) :: (.int .i64 0) :: (.slice p3 (dig B32 a).length c3) :: (.slice p (dig B32 a).length c) :: (.bool true) :: (.bool false) :: (.bool false) :: (.slice p35 (dig B32 b).length c35) :: (.slice q (dig B32 b).length d) :: (.bool true) :: (.bool false) :: (.bool false) :: (.bool false) :: (.slice p3 ((dig B32 a) ++ [5, 6]).length c3) :: (.slice p (dig B32 a).length c) :: (.int .i64 (((dig B32 a).length : Nat) : Int)) :: (.pointer (some (at_ p3 (dig B32 a).length))) :: (.int .u32 5) :: (.bool false) :: (.bool false) :: (.bool false) :: (.slice p3 ((dig B32 a) ++ [5, 6]).length c3) :: (.slice p (dig B32 a).length c) :: (.int .i64 (((dig B32 a).length : Nat) : Int)) :: (.int .i64 (((dig B32 a).length + 1 : Nat) : Int)) :: (.pointer (some (at_ p3 ((dig B32 a).length + 1)))) :: (.int .u32 6) :: (.bool false) :: (.bool false) :: (.slice p (dig B32 a).length c) :: (.slice q (dig B32 b).length d) :: (.int .i64 0) :: (.bool true) :: (.int .i64 (natE 0 (a + b))) :: (U17 107) :: (U17 108) :: (U17 109) :: (U17 110) :: (U17 111) :: (U17 112) :: (U17 113) :: (U17 114) :: (U17 115) :: (U17 116) :: (U17 117) :: (.bool false) :: (.bool false) :: (.int .i64 (natE 0 (a * b))) :: (U17 121) :: (U17 122) :: (U17 123) :: (U17 124) :: (U17 125) :: (U17 126) :: (U17 127) :: (U17 128) :: (U17 129) :: (U17 130) :: (U17 131) :: (.bool false) :: (.bool false) :: (.bool false) :: (.int .i64 (natE 0 (a * 2 ^ N))) :: (U17 136) :: (U17 137) :: (U17 138) :: (U17 139) :: (U17 140) :: (U17 141) :: (U17 142) :: (U17 143) :: (U17 144) :: (U17 145) :: (.bool false) :: (.bool false) :: (U0 148) :: (U0 149) :: (U0 150) :: (U0 151) :: (U0 152) :: (U0 153) :: (U0 154) :: (U0 155) :: (U0 156) :: (U0 157) :: (U0 158) :: (U0 159) :: (U0 160) :: (U0 161) :: (U0 162) :: (U0 163) :: (U0 164) :: (U0 165) :: (U0 166) :: (U0 167) :: (U0 168) :: (U0 169) :: (U0 170) :: (U0 171) :: (U0 172) :: (U0 173) :: (U0 174) :: (U0 175) :: (U0 176) :: (U0 177) :: (U0 178) :: (U0 179) :: (U0 180) :: (U0 181) :: (U0 182) :: (U0 183) :: (U0 184) :: (U0 185) :: (U0 186) :: (U0 187) :: (U0 188) :: []).toArray, []⟩ ∧ Below V16.heap.size V16 w') ?_ (fun Gx hGx => ?_)
    · skip
      refine sx_region ?_
      refine sv 106 (.int .i64 (natE 0 (a + b))) ?_
      rcases Bool.eq_false_or_eq_true ((natE 0 (a + b)) == 0) with f107 | f107
      · skip
        refine sv 107 (.bool true) ?_ (hr := ((show _ = Result.ok (Next.value (.bool ((natE 0 (a + b)) == 0))) _ from (by kernel_rfl)).trans (congrArg (fun z => Result.ok (Next.value (.bool z)) _) (show ((natE 0 (a + b)) == 0) = true from f107))))
        refine sv 108 (.bool true) ?_
        refine sv 109 (.slice p45 (natL 0 (a + b)).length c45) ?_
        refine sv 110 (.slice p (dig B32 a).length c) ?_
        replace hp := (hp.past hbV16)
        refine se 111 16 #[.slice p (dig B32 a).length c] (fun Gx hGx => ?_)
        ((with_reducible refine (((rOf_g p _ c V16 a hp rfl hl).mono fun _ _ => GivesR.grr)).mono ?_))
        rintro eV17 V17 ⟨p111, c111, rfl, x111, hbV17⟩
        have hzV17 := hbV17.size
        have lx111 := fun h => x111.lt h
        refine ⟨.slice p111 (dig B16 a).length c111, rfl, hGx _ _ ?_⟩
        clear hGx Gx
        refine sv 112 (.slice q (dig B32 b).length d) ?_
        replace hq := (hq.past (bthru hbV16 hbV17))
        refine se 113 16 #[.slice q (dig B32 b).length d] (fun Gx hGx => ?_)
        ((with_reducible refine (((rOf_g q _ d V17 b hq rfl hl2).mono fun _ _ => GivesR.grr)).mono ?_))
        rintro eV18 V18 ⟨p113, c113, rfl, x113, hbV18⟩
        have hzV18 := hbV18.size
        have lx113 := fun h => x113.lt h
        refine ⟨.slice p113 (dig B16 b).length c113, rfl, hGx _ _ ?_⟩
        clear hGx Gx
        replace x111 := (x111.past hbV18)
        refine se 114 15 #[.slice p111 (dig B16 a).length c111, .slice p113 (dig B16 b).length c113] (fun Gx hGx => ?_)
        ((with_reducible refine (((refPlus_any p111 p113 _ _ c111 c113 a b V18 (x111).rd (x113).rd rfl rfl (by omega)).mono fun _ _ => GivesR.grr)).mono ?_))
        rintro eV19 V19 ⟨p114, c114, rfl, x114, hbV19⟩
        have hzV19 := hbV19.size
        have lx114 := fun h => x114.lt h
        refine ⟨.slice p114 (dig B16 (a + b)).length c114, rfl, hGx _ _ ?_⟩
        clear hGx Gx
        refine se 115 14 #[.slice p114 (dig B16 (a + b)).length c114] (fun Gx hGx => ?_)
        ((with_reducible refine (refTo_any p114 _ c114 (a + b) _ V19 rfl (x114).rd rfl (by omega)).mono ?_))
        rintro eV20 V20 ⟨p115, c115, rfl, o115, hbV20⟩
        have hzV20 := hbV20.size
        refine ⟨.slice p115 (dig B32 (a + b)).length c115, rfl, hGx _ _ ?_⟩
        clear hGx Gx
        replace o45 := (o45.past (bthru (bthru (bthru (bthru (bthru (bthru (bthru (bthru (bthru (bthru hbV10 hbV11) hbV12) hbV13) hbV14) hbV15) hbV16) hbV17) hbV18) hbV19) hbV20))
        refine se 116 12 #[.slice p45 (natL 0 (a + b)).length c45, .slice p115 (dig B32 (a + b)).length c115] (fun Gx hGx => ?_)
        ((with_reducible refine (refSameNat_any p45 p115 _ c45 _ c115 _ _ V20 (o45).rd (o115).rd rfl rfl (natL_good (by simpa using f107)) (by omega)).mono ?_))
        rintro eV21 V21 ⟨rfl, hbV21⟩
        have hzV21 := hbV21.size
        refine ⟨.bool true, rfl, hGx _ _ ?_⟩
        clear hGx Gx
        refine sv 117 (.bool false) ?_
        refine sv 118 (.bool false) ?_
        refine sv 119 (.bool false) ?_
        refine sv 120 (.int .i64 (natE 0 (a * b))) ?_
        rcases Bool.eq_false_or_eq_true ((natE 0 (a * b)) == 0) with f121 | f121
        · skip
          refine sv 121 (.bool true) ?_ (hr := ((show _ = Result.ok (Next.value (.bool ((natE 0 (a * b)) == 0))) _ from (by kernel_rfl)).trans (congrArg (fun z => Result.ok (Next.value (.bool z)) _) (show ((natE 0 (a * b)) == 0) = true from f121))))
          refine sv 122 (.bool true) ?_
          refine sv 123 (.slice p51 (natL 0 (a * b)).length c51) ?_
          refine sv 124 (.slice p (dig B32 a).length c) ?_
          replace hp := (hp.past (bthru (bthru (bthru (bthru hbV17 hbV18) hbV19) hbV20) hbV21))
          refine se 125 16 #[.slice p (dig B32 a).length c] (fun Gx hGx => ?_)
          ((with_reducible refine (((rOf_g p _ c V21 a hp rfl hl).mono fun _ _ => GivesR.grr)).mono ?_))
          rintro eV22 V22 ⟨p125, c125, rfl, x125, hbV22⟩
          have hzV22 := hbV22.size
          have lx125 := fun h => x125.lt h
          refine ⟨.slice p125 (dig B16 a).length c125, rfl, hGx _ _ ?_⟩
          clear hGx Gx
          refine sv 126 (.slice q (dig B32 b).length d) ?_
          replace hq := (hq.past (bthru (bthru (bthru (bthru hbV18 hbV19) hbV20) hbV21) hbV22))
          refine se 127 16 #[.slice q (dig B32 b).length d] (fun Gx hGx => ?_)
          ((with_reducible refine (((rOf_g q _ d V22 b hq rfl hl2).mono fun _ _ => GivesR.grr)).mono ?_))
          rintro eV23 V23 ⟨p127, c127, rfl, x127, hbV23⟩
          have hzV23 := hbV23.size
          have lx127 := fun h => x127.lt h
          refine ⟨.slice p127 (dig B16 b).length c127, rfl, hGx _ _ ?_⟩
          clear hGx Gx
          replace x125 := (x125.past hbV23)
          refine se 128 17 #[.slice p125 (dig B16 a).length c125, .slice p127 (dig B16 b).length c127] (fun Gx hGx => ?_)
          ((with_reducible refine (((refTimes_any p125 p127 _ _ c125 c127 a b V23 (x125).rd (x127).rd rfl rfl (by omega)).mono fun _ _ => GivesR.grr)).mono ?_))
          rintro eV24 V24 ⟨p128, c128, rfl, x128, hbV24⟩
          have hzV24 := hbV24.size
          have lx128 := fun h => x128.lt h
          refine ⟨.slice p128 (dig B16 (a * b)).length c128, rfl, hGx _ _ ?_⟩
          clear hGx Gx
          refine se 129 14 #[.slice p128 (dig B16 (a * b)).length c128] (fun Gx hGx => ?_)
          ((with_reducible refine (refTo_any p128 _ c128 (a * b) _ V24 rfl (x128).rd rfl (by omega)).mono ?_))
          rintro eV25 V25 ⟨p129, c129, rfl, o129, hbV25⟩
          have hzV25 := hbV25.size
          refine ⟨.slice p129 (dig B32 (a * b)).length c129, rfl, hGx _ _ ?_⟩
          clear hGx Gx
          replace o51 := (o51.past (bthru (bthru (bthru (bthru (bthru (bthru (bthru (bthru (bthru (bthru (bthru (bthru (bthru (bthru hbV11 hbV12) hbV13) hbV14) hbV15) hbV16) hbV17) hbV18) hbV19) hbV20) hbV21) hbV22) hbV23) hbV24) hbV25))
          refine se 130 12 #[.slice p51 (natL 0 (a * b)).length c51, .slice p129 (dig B32 (a * b)).length c129] (fun Gx hGx => ?_)
          ((with_reducible refine (refSameNat_any p51 p129 _ c51 _ c129 _ _ V25 (o51).rd (o129).rd rfl rfl (natL_good (by simpa using f121)) (by omega)).mono ?_))
          rintro eV26 V26 ⟨rfl, hbV26⟩
          have hzV26 := hbV26.size
          refine ⟨.bool true, rfl, hGx _ _ ?_⟩
          clear hGx Gx
          refine sv 131 (.bool false) ?_
          refine sv 132 (.bool false) ?_
          refine sv 133 (.bool false) ?_
          refine sv 134 (.bool false) ?_
          refine sv 135 (.int .i64 (natE 0 (a * 2 ^ N))) ?_
          rcases Bool.eq_false_or_eq_true ((natE 0 (a * 2 ^ N)) == 0) with f136 | f136
          · skip
            refine sv 136 (.bool true) ?_ (hr := ((show _ = Result.ok (Next.value (.bool ((natE 0 (a * 2 ^ N)) == 0))) _ from (by kernel_rfl)).trans (congrArg (fun z => Result.ok (Next.value (.bool z)) _) (show ((natE 0 (a * 2 ^ N)) == 0) = true from f136))))
            refine sv 137 (.bool true) ?_
            refine sv 138 (.slice p64 (natL 0 (a * 2 ^ N)).length c64) ?_
            refine sv 139 (.slice p (dig B32 a).length c) ?_
            replace hp := (hp.past (bthru (bthru (bthru (bthru hbV22 hbV23) hbV24) hbV25) hbV26))
            refine se 140 16 #[.slice p (dig B32 a).length c] (fun Gx hGx => ?_)
            ((with_reducible refine (((rOf_g p _ c V26 a hp rfl hl).mono fun _ _ => GivesR.grr)).mono ?_))
            rintro eV27 V27 ⟨p140, c140, rfl, x140, hbV27⟩
            have hzV27 := hbV27.size
            have lx140 := fun h => x140.lt h
            refine ⟨.slice p140 (dig B16 a).length c140, rfl, hGx _ _ ?_⟩
            clear hGx Gx
            refine sv 141 (.int .i64 ((N : Nat) : Int)) ?_
            refine se 142 18 #[.slice p140 (dig B16 a).length c140, .int .i64 ((N : Nat) : Int)] (fun Gx hGx => ?_)
            ((with_reducible refine (((refUp_any p140 _ c140 a N V27 (x140).rd rfl (by omega) (by omega)).mono fun _ _ => GivesR.grr)).mono ?_))
            rintro eV28 V28 ⟨p142, c142, rfl, x142, hbV28⟩
            have hzV28 := hbV28.size
            have lx142 := fun h => x142.lt h
            refine ⟨.slice p142 (dig B16 (a * 2 ^ N)).length c142, rfl, hGx _ _ ?_⟩
            clear hGx Gx
            refine se 143 14 #[.slice p142 (dig B16 (a * 2 ^ N)).length c142] (fun Gx hGx => ?_)
            ((with_reducible refine (refTo_any p142 _ c142 (a * 2 ^ N) _ V28 rfl (x142).rd rfl (by omega)).mono ?_))
            rintro eV29 V29 ⟨p143, c143, rfl, o143, hbV29⟩
            have hzV29 := hbV29.size
            refine ⟨.slice p143 (dig B32 (a * 2 ^ N)).length c143, rfl, hGx _ _ ?_⟩
            clear hGx Gx
            replace o64 := (o64.past (bthru (bthru (bthru (bthru (bthru (bthru (bthru (bthru (bthru (bthru (bthru (bthru (bthru (bthru (bthru (bthru hbV13 hbV14) hbV15) hbV16) hbV17) hbV18) hbV19) hbV20) hbV21) hbV22) hbV23) hbV24) hbV25) hbV26) hbV27) hbV28) hbV29))
            refine se 144 12 #[.slice p64 (natL 0 (a * 2 ^ N)).length c64, .slice p143 (dig B32 (a * 2 ^ N)).length c143] (fun Gx hGx => ?_)
            ((with_reducible refine (refSameNat_any p64 p143 _ c64 _ c143 _ _ V29 (o64).rd (o143).rd rfl rfl (natL_good (by simpa using f136)) (by omega)).mono ?_))
            rintro eV30 V30 ⟨rfl, hbV30⟩
            have hzV30 := hbV30.size
            refine ⟨.bool true, rfl, hGx _ _ ?_⟩
            clear hGx Gx
            refine sv 145 (.bool false) ?_
            refine sv 146 (.bool false) ?_
            refine sv 147 (.bool false) ?_
            refine sx_nil ?_
            exact ⟨rfl, by kernel_rfl, (bthru (bthru (bthru (bthru (bthru (bthru (bthru (bthru (bthru (bthru (bthru (bthru (bthru hbV17 hbV18) hbV19) hbV20) hbV21) hbV22) hbV23) hbV24) hbV25) hbV26) hbV27) hbV28) hbV29) hbV30)⟩
          refine sv 136 (.bool false) ?_ (hr := ((show _ = Result.ok (Next.value (.bool ((natE 0 (a * 2 ^ N)) == 0))) _ from (by kernel_rfl)).trans (congrArg (fun z => Result.ok (Next.value (.bool z)) _) (show ((natE 0 (a * 2 ^ N)) == 0) = false from f136))))
          refine sv 137 (.bool false) ?_
          refine so (some 138) ?_
          refine so (some 139) ?_
          refine so (some 140) ?_
          refine so (some 141) ?_
          refine so (some 142) ?_
          refine so (some 143) ?_
          refine so (some 144) ?_
          refine so (some 145) ?_
          refine sv 146 (.bool false) ?_
          refine sv 147 (.bool false) ?_
          refine sx_nil ?_
          exact ⟨rfl, by kernel_rfl, (bthru (bthru (bthru (bthru (bthru (bthru (bthru (bthru (bthru hbV17 hbV18) hbV19) hbV20) hbV21) hbV22) hbV23) hbV24) hbV25) hbV26)⟩
        refine sv 121 (.bool false) ?_ (hr := ((show _ = Result.ok (Next.value (.bool ((natE 0 (a * b)) == 0))) _ from (by kernel_rfl)).trans (congrArg (fun z => Result.ok (Next.value (.bool z)) _) (show ((natE 0 (a * b)) == 0) = false from f121))))
        refine sv 122 (.bool false) ?_
        refine so (some 123) ?_
        refine so (some 124) ?_
        refine so (some 125) ?_
        refine so (some 126) ?_
        refine so (some 127) ?_
        refine so (some 128) ?_
        refine so (some 129) ?_
        refine so (some 130) ?_
        refine so (some 131) ?_
        refine sv 132 (.bool false) ?_
        refine sv 133 (.bool false) ?_
        refine sv 134 (.bool false) ?_
        refine sv 135 (.int .i64 (natE 0 (a * 2 ^ N))) ?_
        rcases Bool.eq_false_or_eq_true ((natE 0 (a * 2 ^ N)) == 0) with f136 | f136
        · skip
          refine sv 136 (.bool true) ?_ (hr := ((show _ = Result.ok (Next.value (.bool ((natE 0 (a * 2 ^ N)) == 0))) _ from (by kernel_rfl)).trans (congrArg (fun z => Result.ok (Next.value (.bool z)) _) (show ((natE 0 (a * 2 ^ N)) == 0) = true from f136))))
          refine sv 137 (.bool true) ?_
          refine sv 138 (.slice p64 (natL 0 (a * 2 ^ N)).length c64) ?_
          refine sv 139 (.slice p (dig B32 a).length c) ?_
          replace hp := (hp.past (bthru (bthru (bthru (bthru hbV17 hbV18) hbV19) hbV20) hbV21))
          refine se 140 16 #[.slice p (dig B32 a).length c] (fun Gx hGx => ?_)
          ((with_reducible refine (((rOf_g p _ c V21 a hp rfl hl).mono fun _ _ => GivesR.grr)).mono ?_))
          rintro eV22 V22 ⟨p140, c140, rfl, x140, hbV22⟩
          have hzV22 := hbV22.size
          have lx140 := fun h => x140.lt h
          refine ⟨.slice p140 (dig B16 a).length c140, rfl, hGx _ _ ?_⟩
          clear hGx Gx
          refine sv 141 (.int .i64 ((N : Nat) : Int)) ?_
          refine se 142 18 #[.slice p140 (dig B16 a).length c140, .int .i64 ((N : Nat) : Int)] (fun Gx hGx => ?_)
          ((with_reducible refine (((refUp_any p140 _ c140 a N V22 (x140).rd rfl (by omega) (by omega)).mono fun _ _ => GivesR.grr)).mono ?_))
          rintro eV23 V23 ⟨p142, c142, rfl, x142, hbV23⟩
          have hzV23 := hbV23.size
          have lx142 := fun h => x142.lt h
          refine ⟨.slice p142 (dig B16 (a * 2 ^ N)).length c142, rfl, hGx _ _ ?_⟩
          clear hGx Gx
          refine se 143 14 #[.slice p142 (dig B16 (a * 2 ^ N)).length c142] (fun Gx hGx => ?_)
          ((with_reducible refine (refTo_any p142 _ c142 (a * 2 ^ N) _ V23 rfl (x142).rd rfl (by omega)).mono ?_))
          rintro eV24 V24 ⟨p143, c143, rfl, o143, hbV24⟩
          have hzV24 := hbV24.size
          refine ⟨.slice p143 (dig B32 (a * 2 ^ N)).length c143, rfl, hGx _ _ ?_⟩
          clear hGx Gx
          replace o64 := (o64.past (bthru (bthru (bthru (bthru (bthru (bthru (bthru (bthru (bthru (bthru (bthru hbV13 hbV14) hbV15) hbV16) hbV17) hbV18) hbV19) hbV20) hbV21) hbV22) hbV23) hbV24))
          refine se 144 12 #[.slice p64 (natL 0 (a * 2 ^ N)).length c64, .slice p143 (dig B32 (a * 2 ^ N)).length c143] (fun Gx hGx => ?_)
          ((with_reducible refine (refSameNat_any p64 p143 _ c64 _ c143 _ _ V24 (o64).rd (o143).rd rfl rfl (natL_good (by simpa using f136)) (by omega)).mono ?_))
          rintro eV25 V25 ⟨rfl, hbV25⟩
          have hzV25 := hbV25.size
          refine ⟨.bool true, rfl, hGx _ _ ?_⟩
          clear hGx Gx
          refine sv 145 (.bool false) ?_
          refine sv 146 (.bool false) ?_
          refine sv 147 (.bool false) ?_
          refine sx_nil ?_
          exact ⟨rfl, by kernel_rfl, (bthru (bthru (bthru (bthru (bthru (bthru (bthru (bthru hbV17 hbV18) hbV19) hbV20) hbV21) hbV22) hbV23) hbV24) hbV25)⟩
        refine sv 136 (.bool false) ?_ (hr := ((show _ = Result.ok (Next.value (.bool ((natE 0 (a * 2 ^ N)) == 0))) _ from (by kernel_rfl)).trans (congrArg (fun z => Result.ok (Next.value (.bool z)) _) (show ((natE 0 (a * 2 ^ N)) == 0) = false from f136))))
        refine sv 137 (.bool false) ?_
        refine so (some 138) ?_
        refine so (some 139) ?_
        refine so (some 140) ?_
        refine so (some 141) ?_
        refine so (some 142) ?_
        refine so (some 143) ?_
        refine so (some 144) ?_
        refine so (some 145) ?_
        refine sv 146 (.bool false) ?_
        refine sv 147 (.bool false) ?_
        refine sx_nil ?_
        exact ⟨rfl, by kernel_rfl, (bthru (bthru (bthru (bthru hbV17 hbV18) hbV19) hbV20) hbV21)⟩
      refine sv 107 (.bool false) ?_ (hr := ((show _ = Result.ok (Next.value (.bool ((natE 0 (a + b)) == 0))) _ from (by kernel_rfl)).trans (congrArg (fun z => Result.ok (Next.value (.bool z)) _) (show ((natE 0 (a + b)) == 0) = false from f107))))
      refine sv 108 (.bool false) ?_
      refine so (some 109) ?_
      refine so (some 110) ?_
      refine so (some 111) ?_
      refine so (some 112) ?_
      refine so (some 113) ?_
      refine so (some 114) ?_
      refine so (some 115) ?_
      refine so (some 116) ?_
      refine so (some 117) ?_
      refine sv 118 (.bool false) ?_
      refine sv 119 (.bool false) ?_
      refine sv 120 (.int .i64 (natE 0 (a * b))) ?_
      rcases Bool.eq_false_or_eq_true ((natE 0 (a * b)) == 0) with f121 | f121
      · skip
        refine sv 121 (.bool true) ?_ (hr := ((show _ = Result.ok (Next.value (.bool ((natE 0 (a * b)) == 0))) _ from (by kernel_rfl)).trans (congrArg (fun z => Result.ok (Next.value (.bool z)) _) (show ((natE 0 (a * b)) == 0) = true from f121))))
        refine sv 122 (.bool true) ?_
        refine sv 123 (.slice p51 (natL 0 (a * b)).length c51) ?_
        refine sv 124 (.slice p (dig B32 a).length c) ?_
        replace hp := (hp.past hbV16)
        refine se 125 16 #[.slice p (dig B32 a).length c] (fun Gx hGx => ?_)
        ((with_reducible refine (((rOf_g p _ c V16 a hp rfl hl).mono fun _ _ => GivesR.grr)).mono ?_))
        rintro eV17 V17 ⟨p125, c125, rfl, x125, hbV17⟩
        have hzV17 := hbV17.size
        have lx125 := fun h => x125.lt h
        refine ⟨.slice p125 (dig B16 a).length c125, rfl, hGx _ _ ?_⟩
        clear hGx Gx
        refine sv 126 (.slice q (dig B32 b).length d) ?_
        replace hq := (hq.past (bthru hbV16 hbV17))
        refine se 127 16 #[.slice q (dig B32 b).length d] (fun Gx hGx => ?_)
        ((with_reducible refine (((rOf_g q _ d V17 b hq rfl hl2).mono fun _ _ => GivesR.grr)).mono ?_))
        rintro eV18 V18 ⟨p127, c127, rfl, x127, hbV18⟩
        have hzV18 := hbV18.size
        have lx127 := fun h => x127.lt h
        refine ⟨.slice p127 (dig B16 b).length c127, rfl, hGx _ _ ?_⟩
        clear hGx Gx
        replace x125 := (x125.past hbV18)
        refine se 128 17 #[.slice p125 (dig B16 a).length c125, .slice p127 (dig B16 b).length c127] (fun Gx hGx => ?_)
        ((with_reducible refine (((refTimes_any p125 p127 _ _ c125 c127 a b V18 (x125).rd (x127).rd rfl rfl (by omega)).mono fun _ _ => GivesR.grr)).mono ?_))
        rintro eV19 V19 ⟨p128, c128, rfl, x128, hbV19⟩
        have hzV19 := hbV19.size
        have lx128 := fun h => x128.lt h
        refine ⟨.slice p128 (dig B16 (a * b)).length c128, rfl, hGx _ _ ?_⟩
        clear hGx Gx
        refine se 129 14 #[.slice p128 (dig B16 (a * b)).length c128] (fun Gx hGx => ?_)
        ((with_reducible refine (refTo_any p128 _ c128 (a * b) _ V19 rfl (x128).rd rfl (by omega)).mono ?_))
        rintro eV20 V20 ⟨p129, c129, rfl, o129, hbV20⟩
        have hzV20 := hbV20.size
        refine ⟨.slice p129 (dig B32 (a * b)).length c129, rfl, hGx _ _ ?_⟩
        clear hGx Gx
        replace o51 := (o51.past (bthru (bthru (bthru (bthru (bthru (bthru (bthru (bthru (bthru hbV11 hbV12) hbV13) hbV14) hbV15) hbV16) hbV17) hbV18) hbV19) hbV20))
        refine se 130 12 #[.slice p51 (natL 0 (a * b)).length c51, .slice p129 (dig B32 (a * b)).length c129] (fun Gx hGx => ?_)
        ((with_reducible refine (refSameNat_any p51 p129 _ c51 _ c129 _ _ V20 (o51).rd (o129).rd rfl rfl (natL_good (by simpa using f121)) (by omega)).mono ?_))
        rintro eV21 V21 ⟨rfl, hbV21⟩
        have hzV21 := hbV21.size
        refine ⟨.bool true, rfl, hGx _ _ ?_⟩
        clear hGx Gx
        refine sv 131 (.bool false) ?_
        refine sv 132 (.bool false) ?_
        refine sv 133 (.bool false) ?_
        refine sv 134 (.bool false) ?_
        refine sv 135 (.int .i64 (natE 0 (a * 2 ^ N))) ?_
        rcases Bool.eq_false_or_eq_true ((natE 0 (a * 2 ^ N)) == 0) with f136 | f136
        · skip
          refine sv 136 (.bool true) ?_ (hr := ((show _ = Result.ok (Next.value (.bool ((natE 0 (a * 2 ^ N)) == 0))) _ from (by kernel_rfl)).trans (congrArg (fun z => Result.ok (Next.value (.bool z)) _) (show ((natE 0 (a * 2 ^ N)) == 0) = true from f136))))
          refine sv 137 (.bool true) ?_
          refine sv 138 (.slice p64 (natL 0 (a * 2 ^ N)).length c64) ?_
          refine sv 139 (.slice p (dig B32 a).length c) ?_
          replace hp := (hp.past (bthru (bthru (bthru (bthru hbV17 hbV18) hbV19) hbV20) hbV21))
          refine se 140 16 #[.slice p (dig B32 a).length c] (fun Gx hGx => ?_)
          ((with_reducible refine (((rOf_g p _ c V21 a hp rfl hl).mono fun _ _ => GivesR.grr)).mono ?_))
          rintro eV22 V22 ⟨p140, c140, rfl, x140, hbV22⟩
          have hzV22 := hbV22.size
          have lx140 := fun h => x140.lt h
          refine ⟨.slice p140 (dig B16 a).length c140, rfl, hGx _ _ ?_⟩
          clear hGx Gx
          refine sv 141 (.int .i64 ((N : Nat) : Int)) ?_
          refine se 142 18 #[.slice p140 (dig B16 a).length c140, .int .i64 ((N : Nat) : Int)] (fun Gx hGx => ?_)
          ((with_reducible refine (((refUp_any p140 _ c140 a N V22 (x140).rd rfl (by omega) (by omega)).mono fun _ _ => GivesR.grr)).mono ?_))
          rintro eV23 V23 ⟨p142, c142, rfl, x142, hbV23⟩
          have hzV23 := hbV23.size
          have lx142 := fun h => x142.lt h
          refine ⟨.slice p142 (dig B16 (a * 2 ^ N)).length c142, rfl, hGx _ _ ?_⟩
          clear hGx Gx
          refine se 143 14 #[.slice p142 (dig B16 (a * 2 ^ N)).length c142] (fun Gx hGx => ?_)
          ((with_reducible refine (refTo_any p142 _ c142 (a * 2 ^ N) _ V23 rfl (x142).rd rfl (by omega)).mono ?_))
          rintro eV24 V24 ⟨p143, c143, rfl, o143, hbV24⟩
          have hzV24 := hbV24.size
          refine ⟨.slice p143 (dig B32 (a * 2 ^ N)).length c143, rfl, hGx _ _ ?_⟩
          clear hGx Gx
          replace o64 := (o64.past (bthru (bthru (bthru (bthru (bthru (bthru (bthru (bthru (bthru (bthru (bthru hbV13 hbV14) hbV15) hbV16) hbV17) hbV18) hbV19) hbV20) hbV21) hbV22) hbV23) hbV24))
          refine se 144 12 #[.slice p64 (natL 0 (a * 2 ^ N)).length c64, .slice p143 (dig B32 (a * 2 ^ N)).length c143] (fun Gx hGx => ?_)
          ((with_reducible refine (refSameNat_any p64 p143 _ c64 _ c143 _ _ V24 (o64).rd (o143).rd rfl rfl (natL_good (by simpa using f136)) (by omega)).mono ?_))
          rintro eV25 V25 ⟨rfl, hbV25⟩
          have hzV25 := hbV25.size
          refine ⟨.bool true, rfl, hGx _ _ ?_⟩
          clear hGx Gx
          refine sv 145 (.bool false) ?_
          refine sv 146 (.bool false) ?_
          refine sv 147 (.bool false) ?_
          refine sx_nil ?_
          exact ⟨rfl, by kernel_rfl, (bthru (bthru (bthru (bthru (bthru (bthru (bthru (bthru hbV17 hbV18) hbV19) hbV20) hbV21) hbV22) hbV23) hbV24) hbV25)⟩
        refine sv 136 (.bool false) ?_ (hr := ((show _ = Result.ok (Next.value (.bool ((natE 0 (a * 2 ^ N)) == 0))) _ from (by kernel_rfl)).trans (congrArg (fun z => Result.ok (Next.value (.bool z)) _) (show ((natE 0 (a * 2 ^ N)) == 0) = false from f136))))
        refine sv 137 (.bool false) ?_
        refine so (some 138) ?_
        refine so (some 139) ?_
        refine so (some 140) ?_
        refine so (some 141) ?_
        refine so (some 142) ?_
        refine so (some 143) ?_
        refine so (some 144) ?_
        refine so (some 145) ?_
        refine sv 146 (.bool false) ?_
        refine sv 147 (.bool false) ?_
        refine sx_nil ?_
        exact ⟨rfl, by kernel_rfl, (bthru (bthru (bthru (bthru hbV17 hbV18) hbV19) hbV20) hbV21)⟩
      refine sv 121 (.bool false) ?_ (hr := ((show _ = Result.ok (Next.value (.bool ((natE 0 (a * b)) == 0))) _ from (by kernel_rfl)).trans (congrArg (fun z => Result.ok (Next.value (.bool z)) _) (show ((natE 0 (a * b)) == 0) = false from f121))))
      refine sv 122 (.bool false) ?_
      refine so (some 123) ?_
      refine so (some 124) ?_
      refine so (some 125) ?_
      refine so (some 126) ?_
      refine so (some 127) ?_
      refine so (some 128) ?_
      refine so (some 129) ?_
      refine so (some 130) ?_
      refine so (some 131) ?_
      refine sv 132 (.bool false) ?_
      refine sv 133 (.bool false) ?_
      refine sv 134 (.bool false) ?_
      refine sv 135 (.int .i64 (natE 0 (a * 2 ^ N))) ?_
      rcases Bool.eq_false_or_eq_true ((natE 0 (a * 2 ^ N)) == 0) with f136 | f136
      · skip
        refine sv 136 (.bool true) ?_ (hr := ((show _ = Result.ok (Next.value (.bool ((natE 0 (a * 2 ^ N)) == 0))) _ from (by kernel_rfl)).trans (congrArg (fun z => Result.ok (Next.value (.bool z)) _) (show ((natE 0 (a * 2 ^ N)) == 0) = true from f136))))
        refine sv 137 (.bool true) ?_
        refine sv 138 (.slice p64 (natL 0 (a * 2 ^ N)).length c64) ?_
        refine sv 139 (.slice p (dig B32 a).length c) ?_
        replace hp := (hp.past hbV16)
        refine se 140 16 #[.slice p (dig B32 a).length c] (fun Gx hGx => ?_)
        ((with_reducible refine (((rOf_g p _ c V16 a hp rfl hl).mono fun _ _ => GivesR.grr)).mono ?_))
        rintro eV17 V17 ⟨p140, c140, rfl, x140, hbV17⟩
        have hzV17 := hbV17.size
        have lx140 := fun h => x140.lt h
        refine ⟨.slice p140 (dig B16 a).length c140, rfl, hGx _ _ ?_⟩
        clear hGx Gx
        refine sv 141 (.int .i64 ((N : Nat) : Int)) ?_
        refine se 142 18 #[.slice p140 (dig B16 a).length c140, .int .i64 ((N : Nat) : Int)] (fun Gx hGx => ?_)
        ((with_reducible refine (((refUp_any p140 _ c140 a N V17 (x140).rd rfl (by omega) (by omega)).mono fun _ _ => GivesR.grr)).mono ?_))
        rintro eV18 V18 ⟨p142, c142, rfl, x142, hbV18⟩
        have hzV18 := hbV18.size
        have lx142 := fun h => x142.lt h
        refine ⟨.slice p142 (dig B16 (a * 2 ^ N)).length c142, rfl, hGx _ _ ?_⟩
        clear hGx Gx
        refine se 143 14 #[.slice p142 (dig B16 (a * 2 ^ N)).length c142] (fun Gx hGx => ?_)
        ((with_reducible refine (refTo_any p142 _ c142 (a * 2 ^ N) _ V18 rfl (x142).rd rfl (by omega)).mono ?_))
        rintro eV19 V19 ⟨p143, c143, rfl, o143, hbV19⟩
        have hzV19 := hbV19.size
        refine ⟨.slice p143 (dig B32 (a * 2 ^ N)).length c143, rfl, hGx _ _ ?_⟩
        clear hGx Gx
        replace o64 := (o64.past (bthru (bthru (bthru (bthru (bthru (bthru hbV13 hbV14) hbV15) hbV16) hbV17) hbV18) hbV19))
        refine se 144 12 #[.slice p64 (natL 0 (a * 2 ^ N)).length c64, .slice p143 (dig B32 (a * 2 ^ N)).length c143] (fun Gx hGx => ?_)
        ((with_reducible refine (refSameNat_any p64 p143 _ c64 _ c143 _ _ V19 (o64).rd (o143).rd rfl rfl (natL_good (by simpa using f136)) (by omega)).mono ?_))
        rintro eV20 V20 ⟨rfl, hbV20⟩
        have hzV20 := hbV20.size
        refine ⟨.bool true, rfl, hGx _ _ ?_⟩
        clear hGx Gx
        refine sv 145 (.bool false) ?_
        refine sv 146 (.bool false) ?_
        refine sv 147 (.bool false) ?_
        refine sx_nil ?_
        exact ⟨rfl, by kernel_rfl, (bthru (bthru (bthru hbV17 hbV18) hbV19) hbV20)⟩
      refine sv 136 (.bool false) ?_ (hr := ((show _ = Result.ok (Next.value (.bool ((natE 0 (a * 2 ^ N)) == 0))) _ from (by kernel_rfl)).trans (congrArg (fun z => Result.ok (Next.value (.bool z)) _) (show ((natE 0 (a * 2 ^ N)) == 0) = false from f136))))
      refine sv 137 (.bool false) ?_
      refine so (some 138) ?_
      refine so (some 139) ?_
      refine so (some 140) ?_
      refine so (some 141) ?_
      refine so (some 142) ?_
      refine so (some 143) ?_
      refine so (some 144) ?_
      refine so (some 145) ?_
      refine sv 146 (.bool false) ?_
      refine sv 147 (.bool false) ?_
      refine sx_nil ?_
      exact ⟨rfl, by kernel_rfl, (Below.refl _ _)⟩
    rintro U17 _ V17 ⟨rfl, hbV17⟩
    refine hGx _ _ ?_
    clear hGx Gx
    have hzV17 := hbV17.size
    refine sx_then ?_
    refine wp_cond_false (by kernel_rfl) ?_
    refine wp_skip ?_
    refine sx_then ?_
    refine wp_seq ?_
    refine wp_seq ?_
    refine sx_region ?_
    refine sv 148 (.int .i64 (dE b)) ?_
    rcases Bool.eq_false_or_eq_true ((dE b) == 0) with f149 | f149
    · skip
      refine sv 149 (.bool true) ?_ (hr := ((show _ = Result.ok (Next.value (.bool ((dE b) == 0))) _ from (by kernel_rfl)).trans (congrArg (fun z => Result.ok (Next.value (.bool z)) _) (show ((dE b) == 0) = true from f149))))
      refine sx_nil ?_
      refine sx_then ?_
      refine wp_cond_true (by kernel_rfl) ?_
      refine wp_seq ?_
      refine sx_region ?_
      refine sv 151 (.slice p (dig B32 a).length c) ?_
      replace hp := (hp.past (bthru hbV16 hbV17))
      refine se 152 16 #[.slice p (dig B32 a).length c] (fun Gx hGx => ?_)
      ((with_reducible refine (((rOf_g p _ c V17 a hp rfl hl).mono fun _ _ => GivesR.grr)).mono ?_))
      rintro eV18 V18 ⟨p152, c152, rfl, x152, hbV18⟩
      have hzV18 := hbV18.size
      have lx152 := fun h => x152.lt h
      refine ⟨.slice p152 (dig B16 a).length c152, rfl, hGx _ _ ?_⟩
      clear hGx Gx
      refine sv 153 (.slice q (dig B32 b).length d) ?_
      replace hq := (hq.past (bthru (bthru hbV16 hbV17) hbV18))
      refine se 154 16 #[.slice q (dig B32 b).length d] (fun Gx hGx => ?_)
      ((with_reducible refine (((rOf_g q _ d V18 b hq rfl hl2).mono fun _ _ => GivesR.grr)).mono ?_))
      rintro eV19 V19 ⟨p154, c154, rfl, x154, hbV19⟩
      have hzV19 := hbV19.size
      have lx154 := fun h => x154.lt h
      refine ⟨.slice p154 (dig B16 b).length c154, rfl, hGx _ _ ?_⟩
      clear hGx Gx
      replace x152 := (x152.past hbV19)
      refine se 155 19 #[.slice p152 (dig B16 a).length c152, .slice p154 (dig B16 b).length c154] (fun Gx hGx => ?_)
      ((with_reducible refine (((refInto_all p152 p154 _ _ c152 c154 a b V19 (x152).rd (x154).rd rfl rfl (by omega) (by omega) (dE_ok f149)).mono fun _ _ => GivesR2.grr)).mono ?_))
      rintro eV20 V20 ⟨p155, c155, q155, d155, rfl, x155, y155, hbV20⟩
      have hzV20 := hbV20.size
      have lx155 := fun h => x155.lt h
      have ly155 := fun h => y155.lt h
      refine ⟨.tuple #[.slice p155 (dig B16 (a / b)).length c155, .slice q155 (dig B16 (a % b)).length d155], rfl, hGx _ _ ?_⟩
      clear hGx Gx
      refine sv 150 (.tuple #[.slice p155 (dig B16 (a / b)).length c155, .slice q155 (dig B16 (a % b)).length d155]) ?_
      refine sv 156 (.slice p155 (dig B16 (a / b)).length c155) ?_
      refine sv 157 (.slice q155 (dig B16 (a % b)).length d155) ?_
      refine sv 22 (.slice p155 (dig B16 (a / b)).length c155) ?_
      refine sv 23 (.slice q155 (dig B16 (a % b)).length d155) ?_
      refine sx_nil ?_
      refine sx_then ?_
      refine wp_seq ?_
      refine sx_region ?_
      refine sv 158 (.slice p57 (dQ a b).length c57) ?_
      refine sv 159 (.slice p155 (dig B16 (a / b)).length c155) ?_
      refine se 160 14 #[.slice p155 (dig B16 (a / b)).length c155] (fun Gx hGx => ?_)
      ((with_reducible refine (refTo_any p155 _ c155 (a / b) _ V20 rfl (x155).rd rfl (by omega)).mono ?_))
      rintro eV21 V21 ⟨p160, c160, rfl, o160, hbV21⟩
      have hzV21 := hbV21.size
      refine ⟨.slice p160 (dig B32 (a / b)).length c160, rfl, hGx _ _ ?_⟩
      clear hGx Gx
      replace o57 := (o57.past (bthru (bthru (bthru (bthru (bthru (bthru (bthru (bthru (bthru hbV12 hbV13) hbV14) hbV15) hbV16) hbV17) hbV18) hbV19) hbV20) hbV21))
      refine se 161 12 #[.slice p57 (dQ a b).length c57, .slice p160 (dig B32 (a / b)).length c160] (fun Gx hGx => ?_)
      ((with_reducible refine (refSameNat_any p57 p160 _ c57 _ c160 _ _ V21 (o57).rd (o160).rd rfl rfl (dQ_ok (dE_ok f149)) (by omega)).mono ?_))
      rintro eV22 V22 ⟨rfl, hbV22⟩
      have hzV22 := hbV22.size
      refine ⟨.bool true, rfl, hGx _ _ ?_⟩
      clear hGx Gx
      refine sv 162 (.bool false) ?_
      refine sv 163 (.bool false) ?_
      refine sv 164 (.slice q57 (dR a b).length d57) ?_
      refine sv 165 (.slice q155 (dig B16 (a % b)).length d155) ?_
      replace y155 := (y155.past (bthru hbV21 hbV22))
      refine se 166 14 #[.slice q155 (dig B16 (a % b)).length d155] (fun Gx hGx => ?_)
      ((with_reducible refine (refTo_any q155 _ d155 (a % b) _ V22 rfl (y155).rd rfl (by omega)).mono ?_))
      rintro eV23 V23 ⟨p166, c166, rfl, o166, hbV23⟩
      have hzV23 := hbV23.size
      refine ⟨.slice p166 (dig B32 (a % b)).length c166, rfl, hGx _ _ ?_⟩
      clear hGx Gx
      replace r57 := (r57.past (bthru (bthru (bthru (bthru (bthru (bthru (bthru (bthru (bthru (bthru (bthru hbV12 hbV13) hbV14) hbV15) hbV16) hbV17) hbV18) hbV19) hbV20) hbV21) hbV22) hbV23))
      refine se 167 12 #[.slice q57 (dR a b).length d57, .slice p166 (dig B32 (a % b)).length c166] (fun Gx hGx => ?_)
      ((with_reducible refine (refSameNat_any q57 p166 _ d57 _ c166 _ _ V23 (r57).rd (o166).rd rfl rfl (dR_ok (dE_ok f149)) (by omega)).mono ?_))
      rintro eV24 V24 ⟨rfl, hbV24⟩
      have hzV24 := hbV24.size
      refine ⟨.bool true, rfl, hGx _ _ ?_⟩
      clear hGx Gx
      refine sv 168 (.bool false) ?_
      refine sv 169 (.bool false) ?_
      refine sx_nil ?_
      refine sx_then ?_
      refine wp_cond_false (by kernel_rfl) ?_
      refine wp_skip ?_
      refine sx_then ?_
      refine wp_seq ?_
      refine sx_region ?_
      refine sv 170 (.int .i64 0) ?_
      refine sv 171 (.bool true) ?_
      refine sv 172 (.bool true) ?_
      refine sv 173 (.slice p72 (dig B32 r).length c72) ?_
      replace o72 := (o72.past (bthru (bthru (bthru (bthru (bthru (bthru (bthru (bthru (bthru (bthru hbV14 hbV15) hbV16) hbV17) hbV18) hbV19) hbV20) hbV21) hbV22) hbV23) hbV24))
      refine se 174 20 #[.slice p72 (dig B32 r).length c72] (fun Gx hGx => ?_)
      ((with_reducible refine (chk_g p72 _ c72 V24 r (o72).rd rfl lr72).mono ?_))
      rintro eV25 V25 ⟨rfl, hbV25⟩
      have hzV25 := hbV25.size
      refine ⟨.int .i64 0, rfl, hGx _ _ ?_⟩
      clear hGx Gx
      refine sv 175 (.bool false) ?_
      refine sv 176 (.bool false) ?_
      refine sx_nil ?_
      refine sx_then ?_
      refine wp_cond_false (by kernel_rfl) ?_
      refine wp_skip ?_
      refine sx_then ?_
      refine wp_seq ?_
      refine sx_region ?_
      refine sv 177 (.slice p45 (natL 0 (a + b)).length c45) ?_
      replace o51 := (o51.past (bthru (bthru (bthru (bthru (bthru (bthru (bthru (bthru (bthru (bthru (bthru (bthru (bthru (bthru hbV11 hbV12) hbV13) hbV14) hbV15) hbV16) hbV17) hbV18) hbV19) hbV20) hbV21) hbV22) hbV23) hbV24) hbV25))
      replace o57 := (o57.past (bthru (bthru (bthru hbV22 hbV23) hbV24) hbV25))
      replace r57 := (r57.past (bthru hbV24 hbV25))
      replace o64 := (o64.past (bthru (bthru (bthru (bthru (bthru (bthru (bthru (bthru (bthru (bthru (bthru (bthru hbV13 hbV14) hbV15) hbV16) hbV17) hbV18) hbV19) hbV20) hbV21) hbV22) hbV23) hbV24) hbV25))
      replace o72 := (o72.past hbV25)
      replace o45 := (o45.past (bthru (bthru (bthru (bthru (bthru (bthru (bthru (bthru (bthru (bthru (bthru (bthru (bthru (bthru (bthru hbV10 hbV11) hbV12) hbV13) hbV14) hbV15) hbV16) hbV17) hbV18) hbV19) hbV20) hbV21) hbV22) hbV23) hbV24) hbV25))
      refine se 178 21 #[.slice p45 (natL 0 (a + b)).length c45] (fun Gx hGx => ?_)
      ((with_reducible refine (spoil_any p45 _ c45 _ (natL 0 (a + b)) V25 o45 rfl (by omega)).mono ?_))
      rintro eV26 V26 ⟨rfl, hgV26, hjV26⟩
      have hbV26 : Below V8.heap.size V8 V26 := (bthru (bthru (bthru (bthru (bthru (bthru (bthru (bthru (bthru (bthru (bthru (bthru (bthru (bthru (bthru (bthru hbV9 hbV10) hbV11) hbV12) hbV13) hbV14) hbV15) hbV16) hbV17) hbV18) hbV19) hbV20) hbV21) hbV22) hbV23) hbV24) hbV25).trans (hjV26.mono (by omega))
      have hzV26 := hbV26.size
      replace o51 := o51.kept hgV26 (fun h1 h2 => by first | exact ne_o45_o51 h1 h2 | (have a1 := bl_o45 h1; have a2 := bl_o51 h2; omega))
      replace o57 := o57.kept hgV26 (fun h1 h2 => by first | exact ne_o45_o57 h1 h2 | (have a1 := bl_o45 h1; have a2 := bl_o57 h2; omega))
      replace r57 := r57.kept hgV26 (fun h1 h2 => by first | exact ne_o45_r57 h1 h2 | (have a1 := bl_o45 h1; have a2 := bl_r57 h2; omega))
      replace o64 := o64.kept hgV26 (fun h1 h2 => by first | exact ne_o45_o64 h1 h2 | (have a1 := bl_o45 h1; have a2 := bl_o64 h2; omega))
      replace o72 := o72.kept hgV26 (fun h1 h2 => by first | exact ne_o45_o72 h1 h2 | (have a1 := bl_o45 h1; have a2 := bl_o72 h2; omega))
      refine ⟨.tuple #[], rfl, hGx _ _ ?_⟩
      clear hGx Gx
      refine sx_nil ?_
      refine sx_then ?_
      refine wp_seq ?_
      refine sx_region ?_
      refine sv 179 (.slice p51 (natL 0 (a * b)).length c51) ?_
      refine se 180 21 #[.slice p51 (natL 0 (a * b)).length c51] (fun Gx hGx => ?_)
      ((with_reducible refine (spoil_any p51 _ c51 _ (natL 0 (a * b)) V26 o51 rfl (by omega)).mono ?_))
      rintro eV27 V27 ⟨rfl, hgV27, hjV27⟩
      have hbV27 : Below V8.heap.size V8 V27 := hbV26.trans (hjV27.mono (by omega))
      have hzV27 := hbV27.size
      replace o57 := o57.kept hgV27 (fun h1 h2 => by first | exact ne_o51_o57 h1 h2 | (have a1 := bl_o51 h1; have a2 := bl_o57 h2; omega))
      replace r57 := r57.kept hgV27 (fun h1 h2 => by first | exact ne_o51_r57 h1 h2 | (have a1 := bl_o51 h1; have a2 := bl_r57 h2; omega))
      replace o64 := o64.kept hgV27 (fun h1 h2 => by first | exact ne_o51_o64 h1 h2 | (have a1 := bl_o51 h1; have a2 := bl_o64 h2; omega))
      replace o72 := o72.kept hgV27 (fun h1 h2 => by first | exact ne_o51_o72 h1 h2 | (have a1 := bl_o51 h1; have a2 := bl_o72 h2; omega))
      refine ⟨.tuple #[], rfl, hGx _ _ ?_⟩
      clear hGx Gx
      refine sx_nil ?_
      refine sx_then ?_
      refine wp_seq ?_
      refine sx_region ?_
      refine sv 181 (.slice p57 (dQ a b).length c57) ?_
      refine se 182 21 #[.slice p57 (dQ a b).length c57] (fun Gx hGx => ?_)
      ((with_reducible refine (spoil_any p57 _ c57 _ (dQ a b) V27 o57 rfl (by omega)).mono ?_))
      rintro eV28 V28 ⟨rfl, hgV28, hjV28⟩
      have hbV28 : Below V8.heap.size V8 V28 := hbV27.trans (hjV28.mono (by omega))
      have hzV28 := hbV28.size
      replace r57 := r57.kept hgV28 (fun h1 h2 => by first | exact ne_o57_r57 h1 h2 | (have a1 := bl_o57 h1; have a2 := bl_r57 h2; omega))
      replace o64 := o64.kept hgV28 (fun h1 h2 => by first | exact ne_o57_o64 h1 h2 | (have a1 := bl_o57 h1; have a2 := bl_o64 h2; omega))
      replace o72 := o72.kept hgV28 (fun h1 h2 => by first | exact ne_o57_o72 h1 h2 | (have a1 := bl_o57 h1; have a2 := bl_o72 h2; omega))
      refine ⟨.tuple #[], rfl, hGx _ _ ?_⟩
      clear hGx Gx
      refine sx_nil ?_
      refine sx_then ?_
      refine wp_seq ?_
      refine sx_region ?_
      refine sv 183 (.slice q57 (dR a b).length d57) ?_
      refine se 184 21 #[.slice q57 (dR a b).length d57] (fun Gx hGx => ?_)
      ((with_reducible refine (spoil_any q57 _ d57 _ (dR a b) V28 r57 rfl (by omega)).mono ?_))
      rintro eV29 V29 ⟨rfl, hgV29, hjV29⟩
      have hbV29 : Below V8.heap.size V8 V29 := hbV28.trans (hjV29.mono (by omega))
      have hzV29 := hbV29.size
      replace o64 := o64.kept hgV29 (fun h1 h2 => by first | exact ne_r57_o64 h1 h2 | (have a1 := bl_r57 h1; have a2 := bl_o64 h2; omega))
      replace o72 := o72.kept hgV29 (fun h1 h2 => by first | exact ne_r57_o72 h1 h2 | (have a1 := bl_r57 h1; have a2 := bl_o72 h2; omega))
      refine ⟨.tuple #[], rfl, hGx _ _ ?_⟩
      clear hGx Gx
      refine sx_nil ?_
      refine sx_then ?_
      refine wp_seq ?_
      refine sx_region ?_
      refine sv 185 (.slice p64 (natL 0 (a * 2 ^ N)).length c64) ?_
      refine se 186 21 #[.slice p64 (natL 0 (a * 2 ^ N)).length c64] (fun Gx hGx => ?_)
      ((with_reducible refine (spoil_any p64 _ c64 _ (natL 0 (a * 2 ^ N)) V29 o64 rfl (by omega)).mono ?_))
      rintro eV30 V30 ⟨rfl, hgV30, hjV30⟩
      have hbV30 : Below V8.heap.size V8 V30 := hbV29.trans (hjV30.mono (by omega))
      have hzV30 := hbV30.size
      replace o72 := o72.kept hgV30 (fun h1 h2 => by first | exact ne_o64_o72 h1 h2 | (have a1 := bl_o64 h1; have a2 := bl_o72 h2; omega))
      refine ⟨.tuple #[], rfl, hGx _ _ ?_⟩
      clear hGx Gx
      refine sx_nil ?_
      refine sx_then ?_
      refine sx_region ?_
      refine sv 187 (.slice p72 (dig B32 r).length c72) ?_
      refine se 188 21 #[.slice p72 (dig B32 r).length c72] (fun Gx hGx => ?_)
      ((with_reducible refine (spoil_any p72 _ c72 _ (dig B32 r) V30 o72 rfl (by omega)).mono ?_))
      rintro eV31 V31 ⟨rfl, hgV31, hjV31⟩
      have hbV31 : Below V8.heap.size V8 V31 := hbV30.trans (hjV31.mono (by omega))
      have hzV31 := hbV31.size
      refine ⟨.tuple #[], rfl, hGx _ _ ?_⟩
      clear hGx Gx
      refine sx_nil ?_
      refine sx_inblock ?_
      refine sx_then ?_
      refine sx_region ?_
      refine sv 40 (.int .i64 ((i : Nat) : Int)) ?_
      refine sv 41 (.int .i64 ((i + 1 : Nat) : Int)) ?_ (hr := ((show _ = Result.ok (Next.value (.int .i64 (IntKind.wrap .i64 (((i : Nat) : Int) + 1)))) _ by kernel_rfl).trans (congrArg (fun z => Result.ok (Next.value (.int .i64 z)) _) ((by rw [show (((i : Nat) : Int) + 1) = ((i + 1 : Nat) : Int) by omega]; exact IntWalk.i64_in _ (by have := of_decide_eq_true f39; omega))))))
      refine sv 10 (.int .i64 ((i + 1 : Nat) : Int)) ?_
      refine sx_nil ?_
      refine sx_then ?_
      refine ⟨gk0 - 1, (by have := of_decide_eq_true f39; omega), ?_⟩
      replace hp_0 := (hp_0.past hbV31)
      replace hq_0 := (hq_0.past hbV31)
      replace hr_0 := (hr_0.past hbV31)
      replace hy_0 := (hy_0.past hbV31)
      exact ⟨i + 1, by kernel_rfl, hp_0, hq_0, hr_0, hy_0, (bthru hbV8 hbV31), (by have := of_decide_eq_true f39; omega)⟩
    refine sv 149 (.bool false) ?_ (hr := ((show _ = Result.ok (Next.value (.bool ((dE b) == 0))) _ from (by kernel_rfl)).trans (congrArg (fun z => Result.ok (Next.value (.bool z)) _) (show ((dE b) == 0) = false from f149))))
    refine sx_nil ?_
    refine sx_then ?_
    refine wp_cond_false (by kernel_rfl) ?_
    refine wp_skip ?_
    refine sx_then ?_
    refine wp_seq ?_
    refine sx_region ?_
    refine sv 170 (.int .i64 0) ?_
    refine sv 171 (.bool true) ?_
    refine sv 172 (.bool true) ?_
    refine sv 173 (.slice p72 (dig B32 r).length c72) ?_
    replace o72 := (o72.past (bthru (bthru (bthru hbV14 hbV15) hbV16) hbV17))
    refine se 174 20 #[.slice p72 (dig B32 r).length c72] (fun Gx hGx => ?_)
    ((with_reducible refine (chk_g p72 _ c72 V17 r (o72).rd rfl lr72).mono ?_))
    rintro eV18 V18 ⟨rfl, hbV18⟩
    have hzV18 := hbV18.size
    refine ⟨.int .i64 0, rfl, hGx _ _ ?_⟩
    clear hGx Gx
    refine sv 175 (.bool false) ?_
    refine sv 176 (.bool false) ?_
    refine sx_nil ?_
    refine sx_then ?_
    refine wp_cond_false (by kernel_rfl) ?_
    refine wp_skip ?_
    refine sx_then ?_
    refine wp_seq ?_
    refine sx_region ?_
    refine sv 177 (.slice p45 (natL 0 (a + b)).length c45) ?_
    replace o51 := (o51.past (bthru (bthru (bthru (bthru (bthru (bthru (bthru hbV11 hbV12) hbV13) hbV14) hbV15) hbV16) hbV17) hbV18))
    replace o57 := (o57.past (bthru (bthru (bthru (bthru (bthru (bthru hbV12 hbV13) hbV14) hbV15) hbV16) hbV17) hbV18))
    replace r57 := (r57.past (bthru (bthru (bthru (bthru (bthru (bthru hbV12 hbV13) hbV14) hbV15) hbV16) hbV17) hbV18))
    replace o64 := (o64.past (bthru (bthru (bthru (bthru (bthru hbV13 hbV14) hbV15) hbV16) hbV17) hbV18))
    replace o72 := (o72.past hbV18)
    replace o45 := (o45.past (bthru (bthru (bthru (bthru (bthru (bthru (bthru (bthru hbV10 hbV11) hbV12) hbV13) hbV14) hbV15) hbV16) hbV17) hbV18))
    refine se 178 21 #[.slice p45 (natL 0 (a + b)).length c45] (fun Gx hGx => ?_)
    ((with_reducible refine (spoil_any p45 _ c45 _ (natL 0 (a + b)) V18 o45 rfl (by omega)).mono ?_))
    rintro eV19 V19 ⟨rfl, hgV19, hjV19⟩
    have hbV19 : Below V8.heap.size V8 V19 := (bthru (bthru (bthru (bthru (bthru (bthru (bthru (bthru (bthru hbV9 hbV10) hbV11) hbV12) hbV13) hbV14) hbV15) hbV16) hbV17) hbV18).trans (hjV19.mono (by omega))
    have hzV19 := hbV19.size
    replace o51 := o51.kept hgV19 (fun h1 h2 => by first | exact ne_o45_o51 h1 h2 | (have a1 := bl_o45 h1; have a2 := bl_o51 h2; omega))
    replace o57 := o57.kept hgV19 (fun h1 h2 => by first | exact ne_o45_o57 h1 h2 | (have a1 := bl_o45 h1; have a2 := bl_o57 h2; omega))
    replace r57 := r57.kept hgV19 (fun h1 h2 => by first | exact ne_o45_r57 h1 h2 | (have a1 := bl_o45 h1; have a2 := bl_r57 h2; omega))
    replace o64 := o64.kept hgV19 (fun h1 h2 => by first | exact ne_o45_o64 h1 h2 | (have a1 := bl_o45 h1; have a2 := bl_o64 h2; omega))
    replace o72 := o72.kept hgV19 (fun h1 h2 => by first | exact ne_o45_o72 h1 h2 | (have a1 := bl_o45 h1; have a2 := bl_o72 h2; omega))
    refine ⟨.tuple #[], rfl, hGx _ _ ?_⟩
    clear hGx Gx
    refine sx_nil ?_
    refine sx_then ?_
    refine wp_seq ?_
    refine sx_region ?_
    refine sv 179 (.slice p51 (natL 0 (a * b)).length c51) ?_
    refine se 180 21 #[.slice p51 (natL 0 (a * b)).length c51] (fun Gx hGx => ?_)
    ((with_reducible refine (spoil_any p51 _ c51 _ (natL 0 (a * b)) V19 o51 rfl (by omega)).mono ?_))
    rintro eV20 V20 ⟨rfl, hgV20, hjV20⟩
    have hbV20 : Below V8.heap.size V8 V20 := hbV19.trans (hjV20.mono (by omega))
    have hzV20 := hbV20.size
    replace o57 := o57.kept hgV20 (fun h1 h2 => by first | exact ne_o51_o57 h1 h2 | (have a1 := bl_o51 h1; have a2 := bl_o57 h2; omega))
    replace r57 := r57.kept hgV20 (fun h1 h2 => by first | exact ne_o51_r57 h1 h2 | (have a1 := bl_o51 h1; have a2 := bl_r57 h2; omega))
    replace o64 := o64.kept hgV20 (fun h1 h2 => by first | exact ne_o51_o64 h1 h2 | (have a1 := bl_o51 h1; have a2 := bl_o64 h2; omega))
    replace o72 := o72.kept hgV20 (fun h1 h2 => by first | exact ne_o51_o72 h1 h2 | (have a1 := bl_o51 h1; have a2 := bl_o72 h2; omega))
    refine ⟨.tuple #[], rfl, hGx _ _ ?_⟩
    clear hGx Gx
    refine sx_nil ?_
    refine sx_then ?_
    refine wp_seq ?_
    refine sx_region ?_
    refine sv 181 (.slice p57 (dQ a b).length c57) ?_
    refine se 182 21 #[.slice p57 (dQ a b).length c57] (fun Gx hGx => ?_)
    ((with_reducible refine (spoil_any p57 _ c57 _ (dQ a b) V20 o57 rfl (by omega)).mono ?_))
    rintro eV21 V21 ⟨rfl, hgV21, hjV21⟩
    have hbV21 : Below V8.heap.size V8 V21 := hbV20.trans (hjV21.mono (by omega))
    have hzV21 := hbV21.size
    replace r57 := r57.kept hgV21 (fun h1 h2 => by first | exact ne_o57_r57 h1 h2 | (have a1 := bl_o57 h1; have a2 := bl_r57 h2; omega))
    replace o64 := o64.kept hgV21 (fun h1 h2 => by first | exact ne_o57_o64 h1 h2 | (have a1 := bl_o57 h1; have a2 := bl_o64 h2; omega))
    replace o72 := o72.kept hgV21 (fun h1 h2 => by first | exact ne_o57_o72 h1 h2 | (have a1 := bl_o57 h1; have a2 := bl_o72 h2; omega))
    refine ⟨.tuple #[], rfl, hGx _ _ ?_⟩
    clear hGx Gx
    refine sx_nil ?_
    refine sx_then ?_
    refine wp_seq ?_
    refine sx_region ?_
    refine sv 183 (.slice q57 (dR a b).length d57) ?_
    refine se 184 21 #[.slice q57 (dR a b).length d57] (fun Gx hGx => ?_)
    ((with_reducible refine (spoil_any q57 _ d57 _ (dR a b) V21 r57 rfl (by omega)).mono ?_))
    rintro eV22 V22 ⟨rfl, hgV22, hjV22⟩
    have hbV22 : Below V8.heap.size V8 V22 := hbV21.trans (hjV22.mono (by omega))
    have hzV22 := hbV22.size
    replace o64 := o64.kept hgV22 (fun h1 h2 => by first | exact ne_r57_o64 h1 h2 | (have a1 := bl_r57 h1; have a2 := bl_o64 h2; omega))
    replace o72 := o72.kept hgV22 (fun h1 h2 => by first | exact ne_r57_o72 h1 h2 | (have a1 := bl_r57 h1; have a2 := bl_o72 h2; omega))
    refine ⟨.tuple #[], rfl, hGx _ _ ?_⟩
    clear hGx Gx
    refine sx_nil ?_
    refine sx_then ?_
    refine wp_seq ?_
    refine sx_region ?_
    refine sv 185 (.slice p64 (natL 0 (a * 2 ^ N)).length c64) ?_
    refine se 186 21 #[.slice p64 (natL 0 (a * 2 ^ N)).length c64] (fun Gx hGx => ?_)
    ((with_reducible refine (spoil_any p64 _ c64 _ (natL 0 (a * 2 ^ N)) V22 o64 rfl (by omega)).mono ?_))
    rintro eV23 V23 ⟨rfl, hgV23, hjV23⟩
    have hbV23 : Below V8.heap.size V8 V23 := hbV22.trans (hjV23.mono (by omega))
    have hzV23 := hbV23.size
    replace o72 := o72.kept hgV23 (fun h1 h2 => by first | exact ne_o64_o72 h1 h2 | (have a1 := bl_o64 h1; have a2 := bl_o72 h2; omega))
    refine ⟨.tuple #[], rfl, hGx _ _ ?_⟩
    clear hGx Gx
    refine sx_nil ?_
    refine sx_then ?_
    refine sx_region ?_
    refine sv 187 (.slice p72 (dig B32 r).length c72) ?_
    refine se 188 21 #[.slice p72 (dig B32 r).length c72] (fun Gx hGx => ?_)
    ((with_reducible refine (spoil_any p72 _ c72 _ (dig B32 r) V23 o72 rfl (by omega)).mono ?_))
    rintro eV24 V24 ⟨rfl, hgV24, hjV24⟩
    have hbV24 : Below V8.heap.size V8 V24 := hbV23.trans (hjV24.mono (by omega))
    have hzV24 := hbV24.size
    refine ⟨.tuple #[], rfl, hGx _ _ ?_⟩
    clear hGx Gx
    refine sx_nil ?_
    refine sx_inblock ?_
    refine sx_then ?_
    refine sx_region ?_
    refine sv 40 (.int .i64 ((i : Nat) : Int)) ?_
    refine sv 41 (.int .i64 ((i + 1 : Nat) : Int)) ?_ (hr := ((show _ = Result.ok (Next.value (.int .i64 (IntKind.wrap .i64 (((i : Nat) : Int) + 1)))) _ by kernel_rfl).trans (congrArg (fun z => Result.ok (Next.value (.int .i64 z)) _) ((by rw [show (((i : Nat) : Int) + 1) = ((i + 1 : Nat) : Int) by omega]; exact IntWalk.i64_in _ (by have := of_decide_eq_true f39; omega))))))
    refine sv 10 (.int .i64 ((i + 1 : Nat) : Int)) ?_
    refine sx_nil ?_
    refine sx_then ?_
    refine ⟨gk0 - 1, (by have := of_decide_eq_true f39; omega), ?_⟩
    replace hp_0 := (hp_0.past hbV24)
    replace hq_0 := (hq_0.past hbV24)
    replace hr_0 := (hr_0.past hbV24)
    replace hy_0 := (hy_0.past hbV24)
    exact ⟨i + 1, by kernel_rfl, hp_0, hq_0, hr_0, hy_0, (bthru hbV8 hbV24), (by have := of_decide_eq_true f39; omega)⟩
  refine sv 39 (.bool false) ?_ (hr := ((show _ = Result.ok (Next.value (.bool (decide (((i : Nat) : Int) < 2)))) _ from (by kernel_rfl)).trans (congrArg (fun z => Result.ok (Next.value (.bool z)) _) (show (decide (((i : Nat) : Int) < 2)) = false from f39))))
  refine sx_nil ?_
  refine sx_then ?_
  refine wp_cond_false (by kernel_rfl) ?_
  refine wp_exit ?_
  repeat (with_reducible refine sx_thenexit ?_)
  refine sx_exit (id := 0) ?_
  refine sx_then ?_
  refine wp_seq ?_
  refine sx_region ?_
  refine sv 6 (.bool true) ?_
  refine sx_nil ?_
  refine sx_then ?_
  refine wp_ret ?_
  repeat (first | with_reducible refine sx_thenret ?_ | with_reducible refine sx_blockret ?_)
  refine bodyPost_ret (v := .bool true) (by simp [results, Try.results3, go_sem]) rfl ?_
  exact ⟨rfl, (bthru (bthru (bthru (bthru (bthru hbV1 hbV4) hbV5) hbV6) hbV7) hbV8)⟩

end Go.Proofs.Ytlegnbigddhmlaa
