/- The law RestNats: its walk where an argument is none, or too long; and both. -/
import Derived.Test.YtlegnbigddhmlaaZLawRest
namespace Go.Proofs.Ytlegnbigddhmlaa
open Go.RowKit Go.Slip

set_option maxHeartbeats 4000000 in
set_option maxRecDepth 100000 in
theorem rest_bad (p : Option Addr) (c : Nat) (xs : List Nat) (q : Option Addr) (d : Nat) (ys : List Nat) (i0 : Int) (N : Nat) (w : World)
    (hp : Rd w .u32 p xs) (hl : xs.length * 4 ≤ 140737488351232) (hx : ∀ x ∈ xs, x < B32) (hq : Rd w .u32 q ys) (hl2 : ys.length * 4 ≤ 140737488351232) (hyb : ∀ x ∈ ys, x < B32) (hi : -9223372036854775808 ≤ i0 ∧ i0 ≤ 9223372036854775807) (hN : chs i0 100 = N) (he : err2 xs ys ≠ 0) :
    Calls Try.prog 3 #[.slice p xs.length c, .slice q ys.length d, .int .i64 i0] w fun e w' => e = .returned (.bool true) ∧ Below w.heap.size w w' := by
  have hN2 : N < 100 := by rw [← hN]; exact chs_lt i0 100 (by omega)
  have hTu : SxOne Try.prog 26 := sxOne_of (by kernel_rfl) (by kernel_rfl)
  refine calls_of_wp Try.func3 rfl ?_
  refine sx_frame (a' := ⟨((.slice p xs.length c) :: (.slice q ys.length d) :: (.int .i64 i0) :: undef :: undef :: undef :: undef :: undef :: undef :: undef :: undef :: undef :: undef :: undef :: undef :: undef :: undef :: undef :: undef :: undef :: undef :: undef :: undef :: undef :: undef :: undef :: undef :: undef :: undef :: undef :: undef :: undef :: undef :: undef :: undef :: undef :: undef :: undef :: undef :: undef :: undef :: undef :: undef :: undef :: undef :: undef :: undef :: undef :: undef :: undef :: undef :: undef :: undef :: undef :: undef :: undef :: undef :: undef :: undef :: undef :: undef :: undef :: undef :: undef :: undef :: undef :: undef :: undef :: undef :: undef :: undef :: undef :: undef :: undef :: undef :: undef :: undef :: undef :: undef :: undef :: undef :: undef :: undef :: undef :: undef :: undef :: undef :: undef :: undef :: undef :: undef :: undef :: undef :: undef :: undef :: undef :: undef :: undef :: undef :: undef :: undef :: undef :: undef :: undef :: undef :: undef :: undef :: undef :: undef :: undef :: undef :: undef :: undef :: undef :: undef :: undef :: undef :: undef :: undef :: undef :: undef :: undef :: undef :: undef :: undef :: undef :: undef :: undef :: undef :: undef :: undef :: undef :: undef :: undef :: undef :: undef :: undef :: undef :: undef :: undef :: undef :: undef :: undef :: undef :: undef :: undef :: undef :: undef :: undef :: undef :: undef :: undef :: undef :: undef :: undef :: undef :: undef :: undef :: undef :: undef :: undef :: undef :: undef :: undef :: undef :: undef :: undef :: undef :: undef :: undef :: undef :: undef :: undef :: undef :: undef :: undef :: undef :: undef :: undef :: undef :: undef :: undef :: undef :: undef :: undef :: undef :: undef :: undef :: undef :: []).toArray, []⟩) (by kernel_rfl) ?_
  refine wp_seq ?_
  refine sx_region ?_
  refine sv 6 (.bool false) ?_
  refine sx_nil ?_
  refine sx_then ?_
  refine wp_seq ?_
  refine wp_seq ?_
  refine sx_region ?_
  refine se 24 4 #[] (fun Gx hGx => ?_)
  ((with_reducible refine (natBegun_any w).mono ?_))
  rintro eV1 V1 ⟨rfl, hbV1⟩
  have hzV1 := hbV1.size
  refine ⟨.bool true, rfl, hGx _ _ ?_⟩
  clear hGx Gx
  refine sv 25 (.bool false) ?_
  refine sx_nil ?_
  refine sx_then ?_
  refine wp_cond_false (by kernel_rfl) ?_
  refine wp_skip ?_
  refine sx_then ?_
  refine wp_seq ?_
  refine sx_region ?_
  refine sv 26 (.slice p xs.length c) ?_
  replace hp := (hp.past hbV1)
  refine se 27 5 #[.slice p xs.length c] (fun Gx hGx => ?_)
  ((with_reducible refine (twin_any p _ c xs _ hp rfl (by omega)).mono ?_))
  rintro eV2 V2 ⟨p27, c27, rfl, o27, hbV2⟩
  have hzV2 := hbV2.size
  refine ⟨.slice p27 xs.length c27, rfl, hGx _ _ ?_⟩
  clear hGx Gx
  refine snv 28 (.slice (some ⟨V2.heap.size, 0, none⟩) 2 2) #[.int .u32 5, .int .u32 6] 26 (fun V3 hbV3 hzV3 b28 => ?_)
  replace o27 := (o27.past hbV3)
  refine sap 29 tyNat V1.heap.size p27 _ c27 xs o27 rfl _ 2 2 [5, 6] (rd_two b28) rfl (by simp; omega) (by unfold maxLen; simp; omega) (by omega) (fun p3 c3 V4 o3 hjV4 => ?_)
  have hbV4 : Below V1.heap.size V1 V4 := (bthru hbV2 hbV3).trans (hjV4.mono (by omega))
  have hzV4 := hbV4.size
  refine sv 7 (.slice p3 (xs ++ [5, 6]).length c3) ?_
  refine sx_nil ?_
  refine sx_then ?_
  refine wp_seq ?_
  have lc3 : xs.length ≤ c3 := by have h := (o3).le_cap; simp at h; omega
  obtain ⟨V5, hVV5⟩ : ∃ V, V = (V4).drew := ⟨_, rfl⟩
  have hbV5 : Below (V4).heap.size (V4) V5 := by rw [hVV5]; exact (Below.refl _ _).drew
  have hzV5 : V5.heap.size = (V4).heap.size := by rw [hVV5]; rfl
  refine sxd _ (fun w' => True) hVV5 True.intro ?_
  clear hVV5
  refine tk 0 30 (.slice p3 (xs ++ [5, 6]).length c3) True.intro ?_
  refine tk 1 31 (.slice p xs.length c) True.intro ?_
  refine tk 2 32 (.int .i64 ((xs.length : Nat) : Int)) True.intro ?_
  refine tk 3 33 (.slice p3 xs.length c3) True.intro ?_ (hy := fun w' _ => (exec_sl (p := p3) (n := (xs ++ [5, 6]).length) (c := c3) (m := xs.length) tyNat (by kernel_rfl) (by kernel_rfl) lc3))
  refine tk 4 34 (.slice q ys.length d) True.intro ?_
  refine sxr [5] ?_
  refine rd1 (fun Kx hKx => ?_)
  replace hq := (hq.past (bthru (bthru hbV1 hbV4) hbV5))
  refine sek 35 5 #[.slice q ys.length d] ?_
  ((with_reducible refine (twin_any q _ d ys _ hq rfl (by omega)).mono ?_))
  rintro eV6 V6 ⟨p35, c35, rfl, o35, hbV6⟩
  have hzV6 := hbV6.size
  refine ⟨.slice p35 ys.length c35, rfl, ?_⟩
  refine hKx.out _ _ True.intro ?_
  clear hKx Kx
  refine tk 6 8 (.slice p3 xs.length c3) True.intro ?_
  refine tk 7 9 (.slice p35 ys.length c35) True.intro ?_
  refine sx_done (by kernel_rfl) ?_
  refine sx_then ?_
  refine wp_seq ?_
  refine sx_region ?_
  refine sv 36 (.int .i64 i0) ?_
  refine se 37 6 #[.int .i64 i0, .int .i64 100] (fun Gx hGx => ?_)
  ((with_reducible refine (choose_b V6 i0 N hN hi).mono ?_))
  rintro eV7 V7 ⟨rfl, hbV7⟩
  have hzV7 := hbV7.size
  refine ⟨.int .i64 ((N : Nat) : Int), rfl, hGx _ _ ?_⟩
  clear hGx Gx
  refine sv 2 (.int .i64 ((N : Nat) : Int)) ?_
  refine sx_nil ?_
  refine sx_then ?_
  refine wp_seq ?_
  refine wp_seq ?_
  refine sx_region ?_
  refine sv 10 (.int .i64 0) ?_
  refine sx_nil ?_
  refine sx_then ?_
  refine wp_block ?_
  refine sx_frame (a' := ⟨((.slice p xs.length c) :: (.slice q ys.length d) :: (.int .i64 ((N : Nat) : Int)) :: undef :: undef :: undef :: (.bool false) :: (.slice p3 (xs ++ [5, 6]).length c3) :: (.slice p3 xs.length c3) :: (.slice p35 ys.length c35) :: (.int .i64 0) :: undef :: undef :: undef :: undef :: undef :: undef :: undef :: undef :: undef :: undef :: undef :: undef :: undef :: (.bool true) :: (.bool false) :: (.slice p xs.length c) :: (.slice p27 xs.length c27) :: (.slice (some ⟨V2.heap.size, 0, none⟩) 2 2) :: (.slice p3 (xs ++ [5, 6]).length c3) :: (.slice p3 (xs ++ [5, 6]).length c3) :: (.slice p xs.length c) :: (.int .i64 ((xs.length : Nat) : Int)) :: (.slice p3 xs.length c3) :: (.slice q ys.length d) :: (.slice p35 ys.length c35) :: (.int .i64 i0) :: (.int .i64 ((N : Nat) : Int)) :: undef :: undef :: undef :: undef :: undef :: undef :: undef :: undef :: undef :: undef :: undef :: undef :: undef :: undef :: undef :: undef :: undef :: undef :: undef :: undef :: undef :: undef :: undef :: undef :: undef :: undef :: undef :: undef :: undef :: undef :: undef :: undef :: undef :: undef :: undef :: undef :: undef :: undef :: undef :: undef :: undef :: undef :: undef :: undef :: undef :: undef :: undef :: undef :: undef :: undef :: undef :: undef :: undef :: undef :: undef :: undef :: undef :: undef :: undef :: undef :: undef :: undef :: undef :: undef :: undef :: undef :: undef :: undef :: undef :: undef :: undef :: undef :: undef :: undef :: undef :: undef :: undef :: undef :: undef :: undef :: undef :: undef :: undef :: undef :: undef :: undef :: undef :: undef :: undef :: undef :: undef :: undef :: undef :: undef :: undef :: undef :: undef :: undef :: undef :: undef :: undef :: undef :: undef :: undef :: undef :: undef :: undef :: undef :: undef :: undef :: undef :: undef :: undef :: undef :: undef :: undef :: undef :: undef :: undef :: undef :: undef :: undef :: undef :: undef :: undef :: undef :: undef :: undef :: undef :: undef :: undef :: undef :: undef :: undef :: undef :: undef :: undef :: undef :: undef :: undef :: undef :: undef :: undef :: undef :: undef :: undef :: undef :: undef :: undef :: undef :: undef :: []).toArray, []⟩) (by kernel_rfl) ?_
  refine sx_loop2 (fun (gk : Nat) U0 a' w' => ∃ (i : Nat), a' = ⟨((.slice p xs.length c) :: (.slice q ys.length d) :: (.int .i64 ((N : Nat) : Int)) :: undef :: undef :: undef :: (U0 6) :: (.slice p3 (xs ++ [5, 6]).length c3) :: (.slice p3 xs.length c3) :: (.slice p35 ys.length c35) :: (.int .i64 ((i : Nat) : Int)) :: (U0 11) :: (U0 12) :: (U0 13) :: (U0 14) :: (U0 15) :: (U0 16) :: (U0 17) :: (U0 18) :: (U0 19) :: (U0 20) :: (U0 21) :: (U0 22) :: (U0 23) :: (.bool true) :: (.bool false) :: (.slice p xs.length c) :: (.slice p27 xs.length c27) :: (.slice (some ⟨V2.heap.size, 0, none⟩) 2 2) :: (.slice p3 (xs ++ [5, 6]).length c3) :: (.slice p3 (xs ++ [5, 6]).length c3) :: (.slice p xs.length c) :: (.int .i64 ((xs.length : Nat) : Int)) :: (.slice p3 xs.length c3) :: (.slice q ys.length d) :: (.slice p35 ys.length c35) :: (.int .i64 i0) :: (.int .i64 ((N : Nat) : Int)) :: (U0 38) :: (U0 39) :: (U0 40) :: (U0 41) :: (U0 42) :: (U0 43) :: (U0 44) :: (U0 45) :: (U0 46) :: (U0 47) :: (U0 48) :: (U0 49) :: (U0 50) :: (U0 51) :: (U0 52) :: (U0 53) :: (U0 54) :: (U0 55) :: (U0 56) :: (U0 57) :: (U0 58) :: (U0 59) :: (U0 60) :: (U0 61) :: (U0 62) :: (U0 63) :: (U0 64) :: (U0 65) :: (U0 66) :: (U0 67) :: (U0 68) :: (U0 69) :: (U0 70) :: (U0 71) :: (U0 72) :: (U0 73) :: (U0 74) :: (U0 75) :: (U0 76) :: (U0 77) :: (U0 78) :: (U0 79) :: (U0 80) :: (U0 81) :: (U0 82) :: (U0 83) :: (U0 84) :: (U0 85) :: (U0 86) :: (U0 87) :: (U0 88) :: (U0 89) :: (U0 90) :: (U0 91) :: (U0 92) :: (U0 93) :: (U0 94) :: (U0 95) :: (U0 96) :: (U0 97) :: (U0 98) :: (U0 99) :: (U0 100) :: (U0 101) :: (U0 102) :: (U0 103) :: (U0 104) :: (U0 105) :: (U0 106) :: (U0 107) :: (U0 108) :: (U0 109) :: (U0 110) :: (U0 111) :: (U0 112) :: (U0 113) :: (U0 114) :: (U0 115) :: (U0 116) :: (U0 117) :: (U0 118) :: (U0 119) :: (U0 120) :: (U0 121) :: (U0 122) :: (U0 123) :: (U0 124) :: (U0 125) :: (U0 126) :: (U0 127) :: (U0 128) :: (U0 129) :: (U0 130) :: (U0 131) :: (U0 132) :: (U0 133) :: (U0 134) :: (U0 135) :: (U0 136) :: (U0 137) :: (U0 138) :: (U0 139) :: (U0 140) :: (U0 141) :: (U0 142) :: (U0 143) :: (U0 144) :: (U0 145) :: (U0 146) :: (U0 147) :: (U0 148) :: (U0 149) :: (U0 150) :: (U0 151) :: (U0 152) :: (U0 153) :: (U0 154) :: (U0 155) :: (U0 156) :: (U0 157) :: (U0 158) :: (U0 159) :: (U0 160) :: (U0 161) :: (U0 162) :: (U0 163) :: (U0 164) :: (U0 165) :: (U0 166) :: (U0 167) :: (U0 168) :: (U0 169) :: (U0 170) :: (U0 171) :: (U0 172) :: (U0 173) :: (U0 174) :: (U0 175) :: (U0 176) :: (U0 177) :: (U0 178) :: (U0 179) :: (U0 180) :: (U0 181) :: (U0 182) :: (U0 183) :: (U0 184) :: (U0 185) :: (U0 186) :: (U0 187) :: (U0 188) :: []).toArray, []⟩ ∧ (Rd w' .u32 p xs) ∧ (Rd w' .u32 q ys) ∧ (Rd w' .u32 p3 (xs ++ [5, 6])) ∧ (Rd w' .u32 p35 ys) ∧ Below V7.heap.size V7 w' ∧ (gk + i = 2)) 2 ?_ (fun Gx hGx => ?_)
  · skip
    replace hp := (hp.past (bthru (bthru (bthru hbV4 hbV5) hbV6) hbV7))
    replace hq := (hq.past (bthru hbV6 hbV7))
    replace o3 := (o3.past (bthru (bthru hbV5 hbV6) hbV7))
    replace o35 := (o35.past hbV7)
    exact ⟨0, by kernel_rfl, hp, hq, (o3).rd, (o35).rd, Below.refl _ _, (by omega)⟩
  rintro gk0 U0 _ V8 ⟨i, rfl, hp, hq, hr, hy, hbV8, hgk⟩
  refine hGx _ _ _ ?_
  clear hGx Gx
  have hzV8 := hbV8.size
  have hp_0 := hp
  have hq_0 := hq
  have hr_0 := hr
  have hy_0 := hy
  refine wp_seq ?_
  refine wp_seq ?_
  refine sx_region ?_
  refine sv 38 (.int .i64 ((i : Nat) : Int)) ?_
  rcases Bool.eq_false_or_eq_true (decide (((i : Nat) : Int) < 2)) with f39 | f39
  · skip
    refine sv 39 (.bool true) ?_ (hr := ((show _ = Result.ok (Next.value (.bool (decide (((i : Nat) : Int) < 2)))) _ from (by kernel_rfl)).trans (congrArg (fun z => Result.ok (Next.value (.bool z)) _) (show (decide (((i : Nat) : Int) < 2)) = true from f39))))
    refine sx_nil ?_
    refine sx_then ?_
    refine wp_cond_true (by kernel_rfl) ?_
    refine wp_skip ?_
    refine sx_then ?_
    refine wp_seq ?_
    refine wp_block ?_
    refine wp_seq ?_
    refine sx_region ?_
    refine sv 43 (.slice p3 xs.length c3) ?_
    refine sv 44 (.slice p35 ys.length c35) ?_
    refine se 45 7 #[.slice p3 xs.length c3, .slice p35 ys.length c35] (fun Gx hGx => ?_)
    ((with_reducible refine (add_a p3 p35 _ c3 _ c35 xs ys V8 (hr).pre hy rfl rfl (by omega) (by omega) hx hyb).mono ?_))
    rintro eV9 V9 ⟨z45, e45, p45, c45, rfl, o45, hbV9, hl45⟩
    have hzV9 := hbV9.size
    have bl_o45 := fun (h : p45.isSome = true) => (o45).blk_lt h
    refine ⟨.tuple #[.slice p45 z45.length c45, .int .i64 e45], rfl, hGx _ _ ?_⟩
    clear hGx Gx
    refine sv 42 (.tuple #[.slice p45 z45.length c45, .int .i64 e45]) ?_
    refine sv 46 (.slice p45 z45.length c45) ?_
    refine sv 47 (.int .i64 e45) ?_
    refine sv 11 (.slice p45 z45.length c45) ?_
    refine sv 12 (.int .i64 e45) ?_
    refine sx_nil ?_
    refine sx_then ?_
    refine wp_seq ?_
    refine sx_region ?_
    refine sv 49 (.slice p3 xs.length c3) ?_
    refine sv 50 (.slice p35 ys.length c35) ?_
    replace hr := (hr.past hbV9)
    replace hy := (hy.past hbV9)
    refine se 51 8 #[.slice p3 xs.length c3, .slice p35 ys.length c35] (fun Gx hGx => ?_)
    ((with_reducible refine (mul_a p3 p35 _ c3 _ c35 xs ys V9 (hr).pre hy rfl rfl (by omega) (by omega) hx hyb).mono ?_))
    rintro eV10 V10 ⟨z51, e51, p51, c51, rfl, o51, hbV10, hl51⟩
    have hzV10 := hbV10.size
    have bl_o51 := fun (h : p51.isSome = true) => (o51).blk_lt h
    refine ⟨.tuple #[.slice p51 z51.length c51, .int .i64 e51], rfl, hGx _ _ ?_⟩
    clear hGx Gx
    refine sv 48 (.tuple #[.slice p51 z51.length c51, .int .i64 e51]) ?_
    refine sv 52 (.slice p51 z51.length c51) ?_
    refine sv 53 (.int .i64 e51) ?_
    refine sv 13 (.slice p51 z51.length c51) ?_
    refine sv 14 (.int .i64 e51) ?_
    refine sx_nil ?_
    refine sx_then ?_
    refine wp_seq ?_
    refine sx_region ?_
    refine sv 55 (.slice p3 xs.length c3) ?_
    refine sv 56 (.slice p35 ys.length c35) ?_
    replace hr := (hr.past hbV10)
    replace hy := (hy.past hbV10)
    refine se 57 9 #[.slice p3 xs.length c3, .slice p35 ys.length c35] (fun Gx hGx => ?_)
    ((with_reducible refine (natDiv_err p3 p35 _ c3 _ c35 xs ys V10 (hr).pre hy rfl rfl (by omega) (by omega) he).mono ?_))
    rintro eV11 V11 ⟨p57, c57, q57, d57, rfl, o57, r57, hbV11, hne⟩
    have hzV11 := hbV11.size
    have bl_o57 := fun (h : p57.isSome = true) => (o57).blk_lt h
    have bl_r57 := fun (h : q57.isSome = true) => (r57).blk_lt h
    have ne_o57_r57 := hne
    refine ⟨.tuple #[.slice p57 ([] : List Nat).length c57, .slice q57 ([] : List Nat).length d57, .int .i64 (err2 xs ys)], rfl, hGx _ _ ?_⟩
    clear hGx Gx
    refine sv 54 (.tuple #[.slice p57 ([] : List Nat).length c57, .slice q57 ([] : List Nat).length d57, .int .i64 (err2 xs ys)]) ?_
    refine sv 58 (.slice p57 ([] : List Nat).length c57) ?_
    refine sv 59 (.slice q57 ([] : List Nat).length d57) ?_
    refine sv 60 (.int .i64 (err2 xs ys)) ?_
    refine sv 15 (.slice p57 ([] : List Nat).length c57) ?_
    refine sv 16 (.slice q57 ([] : List Nat).length d57) ?_
    refine sv 17 (.int .i64 (err2 xs ys)) ?_
    refine sx_nil ?_
    refine sx_then ?_
    refine wp_seq ?_
    refine sx_region ?_
    refine sv 62 (.slice p3 xs.length c3) ?_
    refine sv 63 (.int .i64 ((N : Nat) : Int)) ?_
    replace hr := (hr.past hbV11)
    refine se 64 10 #[.slice p3 xs.length c3, .int .i64 ((N : Nat) : Int)] (fun Gx hGx => ?_)
    ((with_reducible refine (shift_a p3 _ c3 xs V11 (hr).pre rfl (by omega) hx N hN2).mono ?_))
    rintro eV12 V12 ⟨z64, e64, p64, c64, rfl, o64, hbV12, hl64⟩
    have hzV12 := hbV12.size
    have bl_o64 := fun (h : p64.isSome = true) => (o64).blk_lt h
    refine ⟨.tuple #[.slice p64 z64.length c64, .int .i64 e64], rfl, hGx _ _ ?_⟩
    clear hGx Gx
    refine sv 61 (.tuple #[.slice p64 z64.length c64, .int .i64 e64]) ?_
    refine sv 65 (.slice p64 z64.length c64) ?_
    refine sv 66 (.int .i64 e64) ?_
    refine sv 18 (.slice p64 z64.length c64) ?_
    refine sv 19 (.int .i64 e64) ?_
    refine sx_nil ?_
    refine sx_then ?_
    refine wp_seq ?_
    refine sx_region ?_
    refine sv 68 (.slice p3 xs.length c3) ?_
    refine sv 69 (.int .i64 ((N : Nat) : Int)) ?_
    refine sv 70 (.int .i64 ((N % 10 : Nat) : Int)) ?_ (hr := (exec_rem ((N % 10 : Nat) : Int) (by kernel_rfl) (by kernel_rfl) ((show (10 : Int) ≠ 0 by omega)) ((by exact (Int.ofNat_tmod N 10).symm))))
    refine sv 71 (.int .i64 ((N % 10 + 1 : Nat) : Int)) ?_ (hr := ((show _ = Result.ok (Next.value (.int .i64 (IntKind.wrap .i64 ((1 : Int) + ((N % 10 : Nat) : Int))))) _ by kernel_rfl).trans (congrArg (fun z => Result.ok (Next.value (.int .i64 z)) _) ((by rw [show ((1 : Int) + ((N % 10 : Nat) : Int)) = ((N % 10 + 1 : Nat) : Int) by omega]; exact IntWalk.i64_in _ (by omega))))))
    replace hr := (hr.past hbV12)
    refine se 72 11 #[.slice p3 xs.length c3, .int .i64 ((N % 10 + 1 : Nat) : Int)] (fun Gx hGx => ?_)
    ((with_reducible refine (root_a p3 _ c3 xs V12 (hr).pre rfl (by omega) hx (N % 10 + 1) (by omega) (by omega)).mono ?_))
    rintro eV13 V13 ⟨z72, e72, p72, c72, rfl, o72, hbV13, hl72⟩
    have hzV13 := hbV13.size
    have bl_o72 := fun (h : p72.isSome = true) => (o72).blk_lt h
    refine ⟨.tuple #[.slice p72 z72.length c72, .int .i64 e72], rfl, hGx _ _ ?_⟩
    clear hGx Gx
    refine sv 67 (.tuple #[.slice p72 z72.length c72, .int .i64 e72]) ?_
    refine sv 73 (.slice p72 z72.length c72) ?_
    refine sv 74 (.int .i64 e72) ?_
    refine sv 20 (.slice p72 z72.length c72) ?_
    refine sv 21 (.int .i64 e72) ?_
    refine sx_nil ?_
    refine sx_then ?_
    refine wp_seq ?_
    refine wp_seq ?_
    refine sx_region ?_
    refine sv 75 (.slice p3 xs.length c3) ?_
    refine sv 76 (.slice p xs.length c) ?_
    replace hr := (hr.past hbV13)
    replace hp := (hp.past (bthru (bthru (bthru (bthru hbV9 hbV10) hbV11) hbV12) hbV13))
    refine se 77 12 #[.slice p3 xs.length c3, .slice p xs.length c] (fun Gx hGx => ?_)
    ((with_reducible refine (refSameNat_any p3 p _ c3 _ c xs xs V13 (hr).pre hp rfl rfl rfl (by omega)).mono ?_))
    rintro eV14 V14 ⟨rfl, hbV14⟩
    have hzV14 := hbV14.size
    refine ⟨.bool true, rfl, hGx _ _ ?_⟩
    clear hGx Gx
    refine sv 78 (.bool false) ?_
    refine sv 79 (.bool false) ?_
    refine sv 80 (.slice p35 ys.length c35) ?_
    refine sv 81 (.slice q ys.length d) ?_
    replace hy := (hy.past (bthru (bthru (bthru hbV11 hbV12) hbV13) hbV14))
    replace hq := (hq.past (bthru (bthru (bthru (bthru (bthru hbV9 hbV10) hbV11) hbV12) hbV13) hbV14))
    refine se 82 12 #[.slice p35 ys.length c35, .slice q ys.length d] (fun Gx hGx => ?_)
    ((with_reducible refine (refSameNat_any p35 q _ c35 _ d ys ys V14 hy hq rfl rfl rfl (by omega)).mono ?_))
    rintro eV15 V15 ⟨rfl, hbV15⟩
    have hzV15 := hbV15.size
    refine ⟨.bool true, rfl, hGx _ _ ?_⟩
    clear hGx Gx
    refine sv 83 (.bool false) ?_
    refine sv 84 (.bool false) ?_
    refine sv 85 (.bool false) ?_
    refine sv 86 (.slice p3 (xs ++ [5, 6]).length c3) ?_
    refine sv 87 (.slice p xs.length c) ?_
    refine sv 88 (.int .i64 ((xs.length : Nat) : Int)) ?_
    replace hr := (hr.past (bthru hbV14 hbV15))
    refine sv 89 (.pointer (some (at_ p3 xs.length))) ?_ (hr := (exec_ix (p := p3) (n := (xs ++ [5, 6]).length) (c := c3) (m := xs.length) tyNat (hr).solid (by kernel_rfl) (by kernel_rfl) (by simp)))
    refine sv 90 (.int .u32 5) ?_ (hr := (exec_ldr hr hTu (by kernel_rfl) (by simp) (dg_snoc0 _ 5 6)))
    refine sv 91 (.bool false) ?_
    refine sv 92 (.bool false) ?_
    refine sv 93 (.bool false) ?_
    refine sv 94 (.slice p3 (xs ++ [5, 6]).length c3) ?_
    refine sv 95 (.slice p xs.length c) ?_
    refine sv 96 (.int .i64 ((xs.length : Nat) : Int)) ?_
    refine sv 97 (.int .i64 ((xs.length + 1 : Nat) : Int)) ?_ (hr := ((show _ = Result.ok (Next.value (.int .i64 (IntKind.wrap .i64 (((xs.length : Nat) : Int) + 1)))) _ by kernel_rfl).trans (congrArg (fun z => Result.ok (Next.value (.int .i64 z)) _) ((by rw [show (((xs.length : Nat) : Int) + 1) = ((xs.length + 1 : Nat) : Int) by omega]; exact IntWalk.i64_in _ (by omega))))))
    refine sv 98 (.pointer (some (at_ p3 (xs.length + 1)))) ?_ (hr := (exec_ix (p := p3) (n := (xs ++ [5, 6]).length) (c := c3) (m := xs.length + 1) tyNat (hr).solid (by kernel_rfl) (by kernel_rfl) (by simp)))
    refine sv 99 (.int .u32 6) ?_ (hr := (exec_ldr hr hTu (by kernel_rfl) (by simp) (dg_snoc1 _ 5 6)))
    refine sv 100 (.bool false) ?_
    refine sv 101 (.bool false) ?_
    refine sx_nil ?_
    refine sx_then ?_
    refine wp_cond_false (by kernel_rfl) ?_
    refine wp_skip ?_
    refine sx_then ?_
    refine wp_seq ?_
    refine wp_seq ?_
    refine sx_region ?_
    refine sv 102 (.slice p xs.length c) ?_
    refine sv 103 (.slice q ys.length d) ?_
    replace hp := (hp.past (bthru hbV14 hbV15))
    replace hq := (hq.past hbV15)
    refine se 104 13 #[.slice p xs.length c, .slice q ys.length d] (fun Gx hGx => ?_)
    ((with_reducible refine (twoNats_b p q _ c _ d V15 _ _ hp hq rfl rfl (by omega) (by omega) _ rfl).mono ?_))
    rintro eV16 V16 ⟨rfl, hbV16⟩
    have hzV16 := hbV16.size
    refine ⟨.int .i64 (err2 xs ys), rfl, hGx _ _ ?_⟩
    clear hGx Gx
    refine sv 105 (.bool false) ?_ (hr := ((show _ = Result.ok (Next.value (.bool ((err2 xs ys) == 0))) _ from (by kernel_rfl)).trans (congrArg (fun z => Result.ok (Next.value (.bool z)) _) (show ((err2 xs ys) == 0) = false from (by simpa using he)))))
    refine sx_nil ?_
    refine sx_then ?_
    refine wp_cond_false (by kernel_rfl) ?_
    refine wp_skip ?_
    refine sx_then ?_
    refine wp_seq ?_
    refine sx_region ?_
    refine sv 177 (.slice p45 z45.length c45) ?_
    replace o51 := (o51.past (bthru (bthru (bthru (bthru (bthru hbV11 hbV12) hbV13) hbV14) hbV15) hbV16))
    replace o57 := (o57.past (bthru (bthru (bthru (bthru hbV12 hbV13) hbV14) hbV15) hbV16))
    replace r57 := (r57.past (bthru (bthru (bthru (bthru hbV12 hbV13) hbV14) hbV15) hbV16))
    replace o64 := (o64.past (bthru (bthru (bthru hbV13 hbV14) hbV15) hbV16))
    replace o72 := (o72.past (bthru (bthru hbV14 hbV15) hbV16))
    replace o45 := (o45.past (bthru (bthru (bthru (bthru (bthru (bthru hbV10 hbV11) hbV12) hbV13) hbV14) hbV15) hbV16))
    refine se 178 21 #[.slice p45 z45.length c45] (fun Gx hGx => ?_)
    ((with_reducible refine (spoil_any p45 _ c45 _ z45 V16 o45 rfl (by omega)).mono ?_))
    rintro eV17 V17 ⟨rfl, hgV17, hjV17⟩
    have hbV17 : Below V8.heap.size V8 V17 := (bthru (bthru (bthru (bthru (bthru (bthru (bthru hbV9 hbV10) hbV11) hbV12) hbV13) hbV14) hbV15) hbV16).trans (hjV17.mono (by omega))
    have hzV17 := hbV17.size
    replace o51 := o51.kept hgV17 (fun h1 h2 => by first | exact ne_o45_o51 h1 h2 | (have a1 := bl_o45 h1; have a2 := bl_o51 h2; omega))
    replace o57 := o57.kept hgV17 (fun h1 h2 => by first | exact ne_o45_o57 h1 h2 | (have a1 := bl_o45 h1; have a2 := bl_o57 h2; omega))
    replace r57 := r57.kept hgV17 (fun h1 h2 => by first | exact ne_o45_r57 h1 h2 | (have a1 := bl_o45 h1; have a2 := bl_r57 h2; omega))
    replace o64 := o64.kept hgV17 (fun h1 h2 => by first | exact ne_o45_o64 h1 h2 | (have a1 := bl_o45 h1; have a2 := bl_o64 h2; omega))
    replace o72 := o72.kept hgV17 (fun h1 h2 => by first | exact ne_o45_o72 h1 h2 | (have a1 := bl_o45 h1; have a2 := bl_o72 h2; omega))
    refine ⟨.tuple #[], rfl, hGx _ _ ?_⟩
    clear hGx Gx
    refine sx_nil ?_
    refine sx_then ?_
    refine wp_seq ?_
    refine sx_region ?_
    refine sv 179 (.slice p51 z51.length c51) ?_
    refine se 180 21 #[.slice p51 z51.length c51] (fun Gx hGx => ?_)
    ((with_reducible refine (spoil_any p51 _ c51 _ z51 V17 o51 rfl (by omega)).mono ?_))
    rintro eV18 V18 ⟨rfl, hgV18, hjV18⟩
    have hbV18 : Below V8.heap.size V8 V18 := hbV17.trans (hjV18.mono (by omega))
    have hzV18 := hbV18.size
    replace o57 := o57.kept hgV18 (fun h1 h2 => by first | exact ne_o51_o57 h1 h2 | (have a1 := bl_o51 h1; have a2 := bl_o57 h2; omega))
    replace r57 := r57.kept hgV18 (fun h1 h2 => by first | exact ne_o51_r57 h1 h2 | (have a1 := bl_o51 h1; have a2 := bl_r57 h2; omega))
    replace o64 := o64.kept hgV18 (fun h1 h2 => by first | exact ne_o51_o64 h1 h2 | (have a1 := bl_o51 h1; have a2 := bl_o64 h2; omega))
    replace o72 := o72.kept hgV18 (fun h1 h2 => by first | exact ne_o51_o72 h1 h2 | (have a1 := bl_o51 h1; have a2 := bl_o72 h2; omega))
    refine ⟨.tuple #[], rfl, hGx _ _ ?_⟩
    clear hGx Gx
    refine sx_nil ?_
    refine sx_then ?_
    refine wp_seq ?_
    refine sx_region ?_
    refine sv 181 (.slice p57 ([] : List Nat).length c57) ?_
    refine se 182 21 #[.slice p57 ([] : List Nat).length c57] (fun Gx hGx => ?_)
    ((with_reducible refine (spoil_any p57 _ c57 _ [] V18 o57 rfl (by simp)).mono ?_))
    rintro eV19 V19 ⟨rfl, hgV19, hjV19⟩
    have hbV19 : Below V8.heap.size V8 V19 := hbV18.trans (hjV19.mono (by omega))
    have hzV19 := hbV19.size
    replace r57 := r57.kept hgV19 (fun h1 h2 => by first | exact ne_o57_r57 h1 h2 | (have a1 := bl_o57 h1; have a2 := bl_r57 h2; omega))
    replace o64 := o64.kept hgV19 (fun h1 h2 => by first | exact ne_o57_o64 h1 h2 | (have a1 := bl_o57 h1; have a2 := bl_o64 h2; omega))
    replace o72 := o72.kept hgV19 (fun h1 h2 => by first | exact ne_o57_o72 h1 h2 | (have a1 := bl_o57 h1; have a2 := bl_o72 h2; omega))
    refine ⟨.tuple #[], rfl, hGx _ _ ?_⟩
    clear hGx Gx
    refine sx_nil ?_
    refine sx_then ?_
    refine wp_seq ?_
    refine sx_region ?_
    refine sv 183 (.slice q57 ([] : List Nat).length d57) ?_
    refine se 184 21 #[.slice q57 ([] : List Nat).length d57] (fun Gx hGx => ?_)
    ((with_reducible refine (spoil_any q57 _ d57 _ [] V19 r57 rfl (by simp)).mono ?_))
    rintro eV20 V20 ⟨rfl, hgV20, hjV20⟩
    have hbV20 : Below V8.heap.size V8 V20 := hbV19.trans (hjV20.mono (by omega))
    have hzV20 := hbV20.size
    replace o64 := o64.kept hgV20 (fun h1 h2 => by first | exact ne_r57_o64 h1 h2 | (have a1 := bl_r57 h1; have a2 := bl_o64 h2; omega))
    replace o72 := o72.kept hgV20 (fun h1 h2 => by first | exact ne_r57_o72 h1 h2 | (have a1 := bl_r57 h1; have a2 := bl_o72 h2; omega))
    refine ⟨.tuple #[], rfl, hGx _ _ ?_⟩
    clear hGx Gx
    refine sx_nil ?_
    refine sx_then ?_
    refine wp_seq ?_
    refine sx_region ?_
    refine sv 185 (.slice p64 z64.length c64) ?_
    refine se 186 21 #[.slice p64 z64.length c64] (fun Gx hGx => ?_)
    ((with_reducible refine (spoil_any p64 _ c64 _ z64 V20 o64 rfl (by omega)).mono ?_))
    rintro eV21 V21 ⟨rfl, hgV21, hjV21⟩
    have hbV21 : Below V8.heap.size V8 V21 := hbV20.trans (hjV21.mono (by omega))
    have hzV21 := hbV21.size
    replace o72 := o72.kept hgV21 (fun h1 h2 => by first | exact ne_o64_o72 h1 h2 | (have a1 := bl_o64 h1; have a2 := bl_o72 h2; omega))
    refine ⟨.tuple #[], rfl, hGx _ _ ?_⟩
    clear hGx Gx
    refine sx_nil ?_
    refine sx_then ?_
    refine sx_region ?_
    refine sv 187 (.slice p72 z72.length c72) ?_
    refine se 188 21 #[.slice p72 z72.length c72] (fun Gx hGx => ?_)
    ((with_reducible refine (spoil_any p72 _ c72 _ z72 V21 o72 rfl (by omega)).mono ?_))
    rintro eV22 V22 ⟨rfl, hgV22, hjV22⟩
    have hbV22 : Below V8.heap.size V8 V22 := hbV21.trans (hjV22.mono (by omega))
    have hzV22 := hbV22.size
    refine ⟨.tuple #[], rfl, hGx _ _ ?_⟩
    clear hGx Gx
    refine sx_nil ?_
    refine sx_inblock ?_
    refine sx_then ?_
    refine sx_region ?_
    refine sv 40 (.int .i64 ((i : Nat) : Int)) ?_
    refine sv 41 (.int .i64 ((i + 1 : Nat) : Int)) ?_ (hr := ((show _ = Result.ok (Next.value (.int .i64 (IntKind.wrap .i64 (((i : Nat) : Int) + 1)))) _ by kernel_rfl).trans (congrArg (fun z => Result.ok (Next.value (.int .i64 z)) _) ((by rw [show (((i : Nat) : Int) + 1) = ((i + 1 : Nat) : Int) by omega]; exact IntWalk.i64_in _ (by have := of_decide_eq_true f39; omega))))))
    refine sv 10 (.int .i64 ((i + 1 : Nat) : Int)) ?_
    refine sx_nil ?_
    refine sx_then ?_
    refine ⟨gk0 - 1, (by have := of_decide_eq_true f39; omega), ?_⟩
    replace hp_0 := (hp_0.past hbV22)
    replace hq_0 := (hq_0.past hbV22)
    replace hr_0 := (hr_0.past hbV22)
    replace hy_0 := (hy_0.past hbV22)
    exact ⟨i + 1, by kernel_rfl, hp_0, hq_0, hr_0, hy_0, (bthru hbV8 hbV22), (by have := of_decide_eq_true f39; omega)⟩
  refine sv 39 (.bool false) ?_ (hr := ((show _ = Result.ok (Next.value (.bool (decide (((i : Nat) : Int) < 2)))) _ from (by kernel_rfl)).trans (congrArg (fun z => Result.ok (Next.value (.bool z)) _) (show (decide (((i : Nat) : Int) < 2)) = false from f39))))
  refine sx_nil ?_
  refine sx_then ?_
  refine wp_cond_false (by kernel_rfl) ?_
  refine wp_exit ?_
  repeat (with_reducible refine sx_thenexit ?_)
  refine sx_exit (id := 0) ?_
  refine sx_then ?_
  refine wp_seq ?_
  refine sx_region ?_
  refine sv 6 (.bool true) ?_
  refine sx_nil ?_
  refine sx_then ?_
  refine wp_ret ?_
  repeat (first | with_reducible refine sx_thenret ?_ | with_reducible refine sx_blockret ?_)
  refine bodyPost_ret (v := .bool true) (by simp [results, Try.results3, go_sem]) rfl ?_
  exact ⟨rfl, (bthru (bthru (bthru (bthru (bthru hbV1 hbV4) hbV5) hbV6) hbV7) hbV8)⟩

theorem rest_any (p : Option Addr) (n c : Nat) (xs : List Nat) (q : Option Addr) (m d : Nat) (ys : List Nat) (i0 : Int) (w : World)
    (hp : Rd w .u32 p xs) (hn : n = xs.length) (hl : xs.length * 4 ≤ 140737488351232) (hx : ∀ x ∈ xs, x < B32) (hq : Rd w .u32 q ys) (hm : m = ys.length) (hl2 : ys.length * 4 ≤ 140737488351232) (hyb : ∀ x ∈ ys, x < B32) (hi : -9223372036854775808 ≤ i0 ∧ i0 ≤ 9223372036854775807) :
    Calls Try.prog 3 #[.slice p n c, .slice q m d, .int .i64 i0] w fun e w' => e = .returned (.bool true) ∧ Below w.heap.size w w' := by
  subst hn hm
  by_cases he : err2 xs ys = 0
  · have hxs : errNat xs = 0 := by unfold err2 at he; split at he <;> simp_all
    have hys : errNat ys = 0 := by unfold err2 at he; rw [if_pos hxs] at he; exact he
    obtain ⟨ex, lx⟩ := errNat_ok hx hxs
    obtain ⟨ey, ly⟩ := errNat_ok hyb hys
    rw [ex] at hp lx ⊢
    rw [ey] at hq ly ⊢
    exact rest_good p c _ q d _ i0 _ w hp lx hq ly hi rfl
  · exact rest_bad p c xs q d ys i0 _ w hp hl hx hq hl2 hyb hi rfl he


end Go.Proofs.Ytlegnbigddhmlaa
