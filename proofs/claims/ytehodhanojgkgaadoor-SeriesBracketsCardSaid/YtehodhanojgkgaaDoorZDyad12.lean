/- dyad: Cmp, Compare. -/
import Derived.Test.YtehodhanojgkgaaDoorZF
import Derived.Test.YtehodhanojgkgaaDoorZLimb6
namespace Go.Proofs.YtehodhanojgkgaaDoor
open Go.RowKit Go.Slip

set_option maxHeartbeats 1000000 in
theorem topD_any (g : Bool) (p : Option Addr) (n c : Nat) (e : Int) (m : Nat) (w : World) (hp : Rd w .u32 p (dig B32 m)) (hn : n = (dig B32 m).length) (hl : (dig B32 m).length ≤ 1000000) (he : -1000000 ≤ e ∧ e ≤ 1000000) :
    Calls Tryd.prog 77 #[.agg #[.bool g, .slice p n c, .int .i64 e]] w fun en w' => en = .returned (.int .i64 (topD ⟨g, m, e⟩)) ∧ Below w.heap.size w w' := by
  subst hn
  obtain ⟨W1, hW1⟩ : ∃ W1, W1 = w.alloc (.cells #[.bool g, .slice p (dig B32 m).length c, .int .i64 e] 62) := ⟨_, rfl⟩
  have hs1 : Below w.heap.size w W1 := by rw [hW1]; exact (Below.refl _ _).alloc (Nat.le_refl _) _
  have A1 : Box3 W1 w.heap.size (.bool g) (.slice p (dig B32 m).length c) (.int .i64 e) := by rw [hW1]; exact box3_new w _ _ _ _
  have hp1 := hp.past hs1
  have hbl := blen_len32 m
  have HW1 := Lib.hid hW1
  obtain ⟨L, hL⟩ : ∃ L, blen m = L := ⟨_, rfl⟩
  have HL := Lib.hid hL
  have HT := Lib.hid (show topD ⟨g, m, e⟩ = e + (L : Int) by unfold topD; rw [hL])
  have e1 : IntKind.i64.wrap (e + (L : Int)) = e + (L : Int) := IntWalk.i64_in _ (by omega)
  clear hW1 hL
  go_enter Tryd.func77, Tryd.ntmps77
  go_wp2_with fail
  rw [← HW1.out]
  clear HW1
  go_region_held3 (fun w' => w'.cell? ⟨w.heap.size, 0, none⟩ = some (.bool g) ∧ w'.cell? ⟨w.heap.size, 1, none⟩ = some (.slice p (dig B32 m).length c) ∧ w'.cell? ⟨w.heap.size, 2, none⟩ = some (.int .i64 e))
    (first | exact ⟨A1.drew.c0, A1.drew.c1, A1.drew.c2⟩ | exact ⟨A1.c0, A1.c1, A1.c2⟩)
    (first | (go_at_call 72; refine (len_any p _ c m _ hp1.drew rfl (by clear e1; omega)).mono ?_; rw [HL.out]; rintro e2 w2 ⟨rfl, rfl⟩))
  all_goals (go_wp2_with fail)
  all_goals go_ret
  all_goals exact ⟨ret_int HT.out.symm, hs1.drew⟩

theorem cmpN_bd (a b : Nat) : -1 ≤ cmpN a b ∧ cmpN a b ≤ 1 := by
  unfold cmpN
  split
  · omega
  · split <;> omega

theorem dSign_bd (v : Dv) : -1 ≤ dSign v ∧ dSign v ≤ 1 := by
  unfold dSign
  split
  · omega
  · split <;> omega

theorem clip_eq (n : Int) : clip n = max (-1) (min 1 n) := rfl

set_option maxHeartbeats 8000000 in
set_option maxRecDepth 100000 in
theorem cmpD_any (g h : Bool) (p q : Option Addr) (n c m d : Nat) (e f : Int) (a b : Nat) (w : World) (hp : Rd w .u32 p (dig B32 a)) (hq : Rd w .u32 q (dig B32 b)) (hn : n = (dig B32 a).length) (hm : m = (dig B32 b).length)
    (hl : (dig B32 a).length ≤ 1000000) (hl2 : (dig B32 b).length ≤ 1000000) (he : -1000000 ≤ e ∧ e ≤ 1000000) (hf : -1000000 ≤ f ∧ f ≤ 1000000) :
    Calls Tryd.prog 54 #[.agg #[.bool g, .slice p n c, .int .i64 e], .agg #[.bool h, .slice q m d, .int .i64 f]] w fun en w' => en = .returned (.int .i64 (pCmp ⟨g, a, e⟩ ⟨h, b, f⟩)) ∧ Below w.heap.size w w' := by
  subst hn hm
  obtain ⟨W1, hW1⟩ : ∃ W1, W1 = (w.alloc (.cells #[.bool g, .slice p (dig B32 a).length c, .int .i64 e] 62)).alloc (.cells #[.bool h, .slice q (dig B32 b).length d, .int .i64 f] 62) := ⟨_, rfl⟩
  have hs1 : Below w.heap.size w W1 := by rw [hW1]; exact two_laid w _ _
  have A1 : Box3 W1 w.heap.size (.bool g) (.slice p (dig B32 a).length c) (.int .i64 e) := by rw [hW1]; exact (box3_new w _ _ _ _).laid _
  have B1 : Box3 W1 (w.heap.size + 1) (.bool h) (.slice q (dig B32 b).length d) (.int .i64 f) := by
    have := box3_new (w.alloc (.cells #[.bool g, .slice p (dig B32 a).length c, .int .i64 e] 62)) (.bool h) (.slice q (dig B32 b).length d) (.int .i64 f) 62
    rw [hW1]; simpa using this
  have hp1 := hp.past hs1
  have hq1 := hq.past hs1
  have HW1 := Lib.hid hW1
  clear hW1
  have hS := dSign_bd ⟨g, a, e⟩
  have hT := dSign_bd ⟨h, b, f⟩
  have HC := Lib.hid (show pCmp ⟨g, a, e⟩ ⟨h, b, f⟩ = if dSign ⟨g, a, e⟩ ≠ dSign ⟨h, b, f⟩ ∨ dSign ⟨g, a, e⟩ = 0 then clip (dSign ⟨g, a, e⟩ - dSign ⟨h, b, f⟩)
    else (if topD ⟨g, a, e⟩ ≠ topD ⟨h, b, f⟩ then clip (topD ⟨g, a, e⟩ - topD ⟨h, b, f⟩) else cmpN (a * 2 ^ (e - min e f).toNat) (b * 2 ^ (f - min e f).toNat)) * dSign ⟨g, a, e⟩ from rfl)
  obtain ⟨S, hSS⟩ : ∃ S, dSign ⟨g, a, e⟩ = S := ⟨_, rfl⟩
  obtain ⟨T, hTT⟩ : ∃ T, dSign ⟨h, b, f⟩ = T := ⟨_, rfl⟩
  rw [hSS] at HC hS
  rw [hTT] at HC hT
  have HSS := Lib.hid hSS
  have HTT := Lib.hid hTT
  clear hSS hTT
  go_enter Tryd.func54, Tryd.ntmps54
  go_wp2_with fail
  rw [← HW1.out]
  clear HW1
  go_cut [5, 6] (fun s5 s6 wx => s5 = .int .i64 S ∧ s6 = .int .i64 T ∧ Below W1.heap.size W1 wx)
  case first =>
    go_region_held3 (fun w' => (w'.cell? ⟨w.heap.size, 0, none⟩ = some (.bool g) ∧ w'.cell? ⟨w.heap.size, 1, none⟩ = some (.slice p (dig B32 a).length c) ∧ w'.cell? ⟨w.heap.size, 2, none⟩ = some (.int .i64 e)) ∧
        (w'.cell? ⟨w.heap.size + 1, 0, none⟩ = some (.bool h) ∧ w'.cell? ⟨w.heap.size + 1, 1, none⟩ = some (.slice q (dig B32 b).length d) ∧ w'.cell? ⟨w.heap.size + 1, 2, none⟩ = some (.int .i64 f)))
      (first
             | exact ⟨⟨((A1.drew.past hbx).past hby).c0, ((A1.drew.past hbx).past hby).c1, ((A1.drew.past hbx).past hby).c2⟩, ((B1.drew.past hbx).past hby).c0, ((B1.drew.past hbx).past hby).c1, ((B1.drew.past hbx).past hby).c2⟩
             | exact ⟨⟨((A1.drew.past hby).past hbx).c0, ((A1.drew.past hby).past hbx).c1, ((A1.drew.past hby).past hbx).c2⟩, ((B1.drew.past hby).past hbx).c0, ((B1.drew.past hby).past hbx).c1, ((B1.drew.past hby).past hbx).c2⟩
             | exact ⟨⟨(A1.drew.past hbx).c0, (A1.drew.past hbx).c1, (A1.drew.past hbx).c2⟩, (B1.drew.past hbx).c0, (B1.drew.past hbx).c1, (B1.drew.past hbx).c2⟩
             | exact ⟨⟨(A1.drew.past hby).c0, (A1.drew.past hby).c1, (A1.drew.past hby).c2⟩, (B1.drew.past hby).c0, (B1.drew.past hby).c1, (B1.drew.past hby).c2⟩
             | exact ⟨⟨(A1.drew).c0, (A1.drew).c1, (A1.drew).c2⟩, (B1.drew).c0, (B1.drew).c1, (B1.drew).c2⟩
             | exact ⟨⟨(A1).c0, (A1).c1, (A1).c2⟩, (B1).c0, (B1).c1, (B1).c2⟩
             )
      (first
        | (go_at_call_of 51 (Value.agg #[.bool g, .slice p (dig B32 a).length c, .int .i64 e]); refine (signD_any g p _ c e a _ rfl).mono ?_; rw [HSS.out]; rintro ex wx ⟨rfl, hbx⟩)
        | (go_at_call_of 51 (Value.agg #[.bool h, .slice q (dig B32 b).length d, .int .i64 f]); refine (signD_any h q _ d f b _ rfl).mono ?_; rw [HTT.out]; rintro ey wy ⟨rfl, hby⟩))
    all_goals (go_wp2_with fail)
    all_goals go_meet
    all_goals (first
      | exact ⟨rfl, rfl, ((Below.refl _ _).drew.trans hbx).trans (hby.mono hbx.size)⟩
      | exact ⟨rfl, rfl, ((Below.refl _ _).drew.trans hby).trans (hbx.mono hby.size)⟩)
  case rest =>
    obtain ⟨rfl, rfl, hb2⟩ := hcut
    have hs2 := hs1.trans (hb2.mono hs1.size)
    replace A1 := A1.past hb2
    replace B1 := B1.past hb2
    replace hp1 := hp1.past hb2
    replace hq1 := hq1.past hb2
    clear hb2
    by_cases hST : S = T
    · subst hST
      by_cases h0 : S = 0
      · subst h0
        have HK := Lib.hid (HC.out.trans (if_pos (.inr rfl)))
        go_wp2
        go_ret
        exact ⟨ret_int HK.out.symm, hs2⟩
      · have HK := Lib.hid (HC.out.trans (if_neg (by intro h; rcases h with h | h; exact h rfl; exact h0 h)))
        have t1 : (S == S) = true := by simp
        have t2 : (S != S) = false := by simp
        have t3 : (S == 0) = false := beq_eq_false_iff_ne.2 h0
        have hS2 : S = 1 ∨ S = -1 := by omega
        have HS2 := Lib.hid hS2
        clear hS2
        have hbx : -50000000 ≤ topD ⟨g, a, e⟩ ∧ topD ⟨g, a, e⟩ ≤ 50000000 := by unfold topD; have := blen_len32 a; simp only; omega
        have hby : -50000000 ≤ topD ⟨h, b, f⟩ ∧ topD ⟨h, b, f⟩ ≤ 50000000 := by unfold topD; have := blen_len32 b; simp only; omega
        have HTX := fun W h1 => Lib.hid (topD_any g p _ c e a W h1 rfl hl he)
        have HTY := fun W h1 => Lib.hid (topD_any h q _ d f b W h1 rfl hl2 hf)
        generalize topD ⟨g, a, e⟩ = x at *
        generalize topD ⟨h, b, f⟩ = y at *
        obtain ⟨w2, hw2⟩ : ∃ w2, w2 = wc := ⟨_, rfl⟩
        subst hw2
        clear h0
        go_wp2_with fail
        clear t1 t2 t3
        go_cut [8, 9] (fun s8 s9 wx => s8 = .int .i64 x ∧ s9 = .int .i64 y ∧ Below w2.heap.size w2 wx)
        case first =>
          go_region_held3 (fun w' => (w'.cell? ⟨w.heap.size, 0, none⟩ = some (.bool g) ∧ w'.cell? ⟨w.heap.size, 1, none⟩ = some (.slice p (dig B32 a).length c) ∧ w'.cell? ⟨w.heap.size, 2, none⟩ = some (.int .i64 e)) ∧
              (w'.cell? ⟨w.heap.size + 1, 0, none⟩ = some (.bool h) ∧ w'.cell? ⟨w.heap.size + 1, 1, none⟩ = some (.slice q (dig B32 b).length d) ∧ w'.cell? ⟨w.heap.size + 1, 2, none⟩ = some (.int .i64 f)))
            (first
                   | exact ⟨⟨((A1.drew.past hbx).past hby).c0, ((A1.drew.past hbx).past hby).c1, ((A1.drew.past hbx).past hby).c2⟩, ((B1.drew.past hbx).past hby).c0, ((B1.drew.past hbx).past hby).c1, ((B1.drew.past hbx).past hby).c2⟩
                   | exact ⟨⟨((A1.drew.past hby).past hbx).c0, ((A1.drew.past hby).past hbx).c1, ((A1.drew.past hby).past hbx).c2⟩, ((B1.drew.past hby).past hbx).c0, ((B1.drew.past hby).past hbx).c1, ((B1.drew.past hby).past hbx).c2⟩
                   | exact ⟨⟨(A1.drew.past hbx).c0, (A1.drew.past hbx).c1, (A1.drew.past hbx).c2⟩, (B1.drew.past hbx).c0, (B1.drew.past hbx).c1, (B1.drew.past hbx).c2⟩
                   | exact ⟨⟨(A1.drew.past hby).c0, (A1.drew.past hby).c1, (A1.drew.past hby).c2⟩, (B1.drew.past hby).c0, (B1.drew.past hby).c1, (B1.drew.past hby).c2⟩
                   | exact ⟨⟨(A1.drew).c0, (A1.drew).c1, (A1.drew).c2⟩, (B1.drew).c0, (B1.drew).c1, (B1.drew).c2⟩
                   | exact ⟨⟨(A1).c0, (A1).c1, (A1).c2⟩, (B1).c0, (B1).c1, (B1).c2⟩
                   )
            (first
              | (go_at_call_of 77 (Value.agg #[.bool g, .slice p (dig B32 a).length c, .int .i64 e]); refine (HTX _ ?_).out.mono ?_; (first | exact hp1.drew | exact hp1.drew.past hby); rintro ex wx ⟨rfl, hbx⟩)
              | (go_at_call_of 77 (Value.agg #[.bool h, .slice q (dig B32 b).length d, .int .i64 f]); refine (HTY _ ?_).out.mono ?_; (first | exact hq1.drew | exact hq1.drew.past hbx); rintro ey wy ⟨rfl, hby⟩))
          all_goals (go_wp2_with fail)
          all_goals go_meet
          all_goals (first
            | exact ⟨rfl, rfl, ((Below.refl _ _).drew.trans hbx).trans (hby.mono hbx.size)⟩
            | exact ⟨rfl, rfl, ((Below.refl _ _).drew.trans hby).trans (hbx.mono hby.size)⟩)
        case rest =>
          obtain ⟨rfl, rfl, hb3⟩ := hcut
          have hs3 := hs2.trans (hb3.mono hs2.size)
          replace A1 := A1.past hb3
          replace B1 := B1.past hb3
          replace hp1 := hp1.past hb3
          replace hq1 := hq1.past hb3
          clear hb3
          by_cases hxy : x = y
          · subst hxy
            have HJ := Lib.hid (HK.out.trans (congrArg (· * S) (if_neg (by simp))))
            have t1 : (x == x) = true := by simp
            have t2 : (x != x) = false := by simp
            have a2 := A1.c2
            have b2 := B1.c2
            go_wp2_with fail
            clear a2 b2 t1 t2
            have hk1 : min e f ≤ e := by omega
            have hk2 : min e f ≤ f := by omega
            have hk3 : -1000000 ≤ min e f := by omega
            generalize min e f = k at *
            obtain ⟨N1, hN1⟩ : ∃ N1, N1 = (e - k).toNat := ⟨_, rfl⟩
            obtain ⟨N2, hN2⟩ : ∃ N2, N2 = (f - k).toNat := ⟨_, rfl⟩
            rw [← hN1, ← hN2] at HJ
            have n1 : N1 ≤ 2000000 := by omega
            have n2 : N2 ≤ 2000000 := by omega
            have lX : (dig B32 (a * 2 ^ N1)).length ≤ 2000000 := by have := len_shl a N1; omega
            have lY : (dig B32 (b * 2 ^ N2)).length ≤ 2000000 := by have := len_shl b N2; omega
            have hC := cmpN_bd (a * 2 ^ N1) (b * 2 ^ N2)
            have e1 : IntKind.i64.wrap (e - k) = (N1 : Int) := by rw [IntWalk.i64_in _ (by omega)]; omega
            have e2 : IntKind.i64.wrap (f - k) = (N2 : Int) := by rw [IntWalk.i64_in _ (by omega)]; omega
            clear hN1 hN2 HK HC
            obtain ⟨w3, hw3⟩ : ∃ w3, w3 = wc := ⟨_, rfl⟩
            subst hw3
            have HX := fun W h1 => Lib.hid (shl_any p _ c a N1 W h1 rfl (by omega) (by omega))
            have HY := fun W h1 => Lib.hid (shl_any q _ d b N2 W h1 rfl (by omega) (by omega))
            generalize a * 2 ^ N1 = xx at *
            generalize b * 2 ^ N2 = yy at *
            go_cut [7] (fun s7 wx => s7 = .int .i64 (cmpN xx yy) ∧ Below w3.heap.size w3 wx)
            case first =>
              go_region_held3 (fun w' => (w'.cell? ⟨w.heap.size, 1, none⟩ = some (.slice p (dig B32 a).length c) ∧ w'.cell? ⟨w.heap.size, 2, none⟩ = some (.int .i64 e)) ∧
                  (w'.cell? ⟨w.heap.size + 1, 1, none⟩ = some (.slice q (dig B32 b).length d) ∧ w'.cell? ⟨w.heap.size + 1, 2, none⟩ = some (.int .i64 f)))
                (first
                       | exact ⟨⟨(((A1.drew.past hbx).past hby).past hbz).c1, (((A1.drew.past hbx).past hby).past hbz).c2⟩, (((B1.drew.past hbx).past hby).past hbz).c1, (((B1.drew.past hbx).past hby).past hbz).c2⟩
                       | exact ⟨⟨((A1.drew.past hbx).past hby).c1, ((A1.drew.past hbx).past hby).c2⟩, ((B1.drew.past hbx).past hby).c1, ((B1.drew.past hbx).past hby).c2⟩
                       | exact ⟨⟨(A1.drew.past hbx).c1, (A1.drew.past hbx).c2⟩, (B1.drew.past hbx).c1, (B1.drew.past hbx).c2⟩
                       | exact ⟨⟨(A1.drew).c1, (A1.drew).c2⟩, (B1.drew).c1, (B1.drew).c2⟩
                       | exact ⟨⟨(A1).c1, (A1).c2⟩, (B1).c1, (B1).c2⟩
                       )
                (first
                  | (go_at_call_of 79 (Value.slice p (dig B32 a).length c); refine (HX _ ?_).out.mono ?_; exact hp1.drew; rintro ex wx ⟨px, cx, rfl, hox, hbx⟩)
                  | (go_at_call_of 79 (Value.slice q (dig B32 b).length d); refine (HY _ ?_).out.mono ?_; exact hq1.drew.past hbx; rintro ey wy ⟨py, cy, rfl, hoy, hby⟩)
                  | (go_at_call 78; refine (cmp_any px py _ _ cx cy xx yy _ (hox.past hby).rd hoy.rd rfl rfl (by clear e1 e2; omega) (by clear e1 e2; omega)).mono ?_; rintro ez wz ⟨rfl, hbz⟩))
              all_goals (clear e1 e2)
              all_goals (go_wp2_with fail)
              all_goals go_meet
              all_goals exact ⟨rfl, (((Below.refl _ _).drew.trans hbx).trans (hby.mono hbx.size)).trans (hbz.mono (Nat.le_trans hbx.size hby.size))⟩
            case rest =>
              obtain ⟨rfl, hb4⟩ := hcut
              clear e1 e2
              have HJ2 := HJ
              generalize cmpN xx yy = C at *
              replace hs3 := hs3.trans (hb4.mono hs3.size)
              replace A1 := A1.past hb4
              have a0 := A1.c0
              have a1 := A1.c1
              have a2 := A1.c2
              go_wp2_with fail
              clear a0 a1 a2
              ((with_reducible refine (signD_any g p _ c e a _ rfl).mono ?_))
              rw [HSS.out]
              rintro e5 w5 ⟨rfl, hb5⟩
              have hs5 := hs3.trans (hb5.mono hs3.size)
              rcases HS2.out with rfl | rfl
              · go_wp2
                go_ret
                exact ⟨ret_int (by rw [HJ2.out]; omega), hs5⟩
              · go_wp2
                go_ret
                exact ⟨ret_int (by rw [HJ2.out]; omega), hs5⟩
          · have HJ := Lib.hid (HK.out.trans (congrArg (· * S) (if_pos hxy)))
            have t1 : (x == y) = false := beq_eq_false_iff_ne.2 hxy
            have t2 : (x != y) = true := by rw [bne, t1]; rfl
            clear hxy
            have a0 := A1.c0
            have a1 := A1.c1
            have a2 := A1.c2
            go_wp2_with fail
            obtain ⟨C, hC⟩ : ∃ C, max (-1) (min 1 (x - y)) = C := ⟨_, rfl⟩
            have HJ2 := Lib.hid (show pCmp ⟨g, a, e⟩ ⟨h, b, f⟩ = C * S by rw [HJ.out, clip_eq, hC])
            rw [hC]
            have hC1 : -1 ≤ C ∧ C ≤ 1 := by omega
            clear HJ HK HC hC a0 a1 a2 t1 t2
            ((with_reducible refine (signD_any g p _ c e a _ rfl).mono ?_))
            rw [HSS.out]
            rintro e5 w5 ⟨rfl, hb5⟩
            have hs5 := hs3.trans (hb5.mono hs3.size)
            rcases HS2.out with rfl | rfl
            · go_wp2
              go_ret
              exact ⟨ret_int (by rw [HJ2.out]; omega), hs5⟩
            · go_wp2
              go_ret
              exact ⟨ret_int (by rw [HJ2.out]; omega), hs5⟩
    · have HK := Lib.hid (HC.out.trans (if_pos (.inl hST)))
      have t1 : (S == T) = false := beq_eq_false_iff_ne.2 hST
      have t2 : (S != T) = true := by rw [bne, t1]; rfl
      clear hST
      go_wp2
      go_ret
      exact ⟨ret_int HK.out.symm, hs2⟩

end Go.Proofs.YtehodhanojgkgaaDoor
