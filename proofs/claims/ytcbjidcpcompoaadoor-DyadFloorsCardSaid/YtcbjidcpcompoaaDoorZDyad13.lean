/- dyad: Floor. -/
import Derived.Test.YtcbjidcpcompoaaDoorZDyad10
import Derived.Test.YtcbjidcpcompoaaDoorZE
namespace Go.Proofs.YtcbjidcpcompoaaDoor
open Go.RowKit Go.Slip


def GivesFl (w : World) (xs : List Nat) (neg : Bool) (er : Int) (en : Ending) (w' : World) : Prop :=
  ∃ p c, en = .returned (.tuple #[.slice p xs.length c, .bool neg, .int .i64 er]) ∧ Own w' w.heap.size .u32 66 p c xs ∧ Below w.heap.size w w'

/-- What Floor tells. -/
def flNeg (e0 : Int) (v : Dv) : Bool := if natE e0 (dFloor v) = 0 then v.neg else false



theorem shr_zero (p : Option Addr) (n c : Nat) (a : Nat) (w : World) (hp : Rd w .u32 p (dig B32 a)) (hn : n = (dig B32 a).length) (hc : (dig B32 a).length ≤ c) (hl : (dig B32 a).length ≤ 1000000000) :
    Calls Tryd.prog 49 #[.slice p n c, .int .i64 0] w (Gives w .u32 66 (dig B32 a)) := by
  have h := shr_any p n c a 0 w hp hn hc hl (by omega)
  rw [Nat.pow_zero, Nat.div_one] at h
  exact h

set_option maxHeartbeats 4000000 in
set_option maxRecDepth 100000 in
theorem dyFloor_any (a : Din) (w : World) (ha : InD w a) (hT : TabW w) :
    Calls Tryd.prog 23 #[.agg #[.bool a.g, .slice a.p a.xs.length a.c, .int .i64 a.e]] w (GivesFl w (natL (errDy a) (dFloor (dyV a))) (flNeg (errDy a) (dyV a)) (natE (errDy a) (dFloor (dyV a)))) := by
  obtain ⟨W1, hW1⟩ : ∃ W1, W1 = w.alloc (.cells #[.bool a.g, .slice a.p a.xs.length a.c, .int .i64 a.e] 25) := ⟨_, rfl⟩
  have hs1 : Below w.heap.size w W1 := by rw [hW1]; exact (Below.refl _ _).alloc (Nat.le_refl _) _
  have A1 : Box3 W1 w.heap.size (.bool a.g) (.slice a.p a.xs.length a.c) (.int .i64 a.e) := by rw [hW1]; exact box3_new w _ _ _ _
  have hz1 : W1.heap.size = w.heap.size + 1 := by rw [hW1]; simp
  have ha1 := ha.past hs1
  have hT1 := hT.past hs1
  have HW1 := Lib.hid hW1
  clear hW1
  have HC := fun W bk h1 h2 => Lib.hid (dyCheck1_new a W bk h1 h2 ha.len)
  by_cases he : errDy a = 0
  · simp only [he] at HC
    rw [he]
    obtain ⟨hla, hea, hea2⟩ := dyV_bd ha he
    obtain ⟨ma, exa, eva, la, e1a, e2a⟩ := ha.ok he
    have HVA := Lib.hid (show bare ⟨a.g, ma, a.e⟩ = dyV a by unfold dyV; rw [eva])
    have HXA := Lib.hid exa
    have hca := ha.cap
    have HE := Lib.hid he
    clear he exa eva
    generalize dyV a = va at *
    obtain ⟨gv, mv, fv⟩ := va
    simp only at hla hea hea2
    clear HE
    have hf1 : fv ≤ 58400 := by omega
    by_cases h0 : 0 < fv
    · obtain ⟨N, rfl⟩ : ∃ N : Nat, fv = (N : Int) := ⟨fv.toNat, by omega⟩
      have HF := Lib.hid (show dFloor ⟨gv, mv, (N : Int)⟩ = mv * 2 ^ N by unfold dFloor; simp)
      have m1 : max 0 (-(N : Int)) = ((0 : Nat) : Int) := by omega
      have lF : (dig B32 (mv * 2 ^ N)).length ≤ 1000000 := by have := len_shl mv N; omega
      have lz : mv / 2 ^ 0 = mv := by simp
      rw [HF.out]
      go_enter Tryd.func23, Tryd.ntmps23
      go_wp2_with fail
      rw [← HW1.out]
      clear HW1
      ((with_reducible refine (HC _ _ hz1.symm ha1.rd).out.mono ?_))
      rintro e2 w2 ⟨rfl, hb2⟩
      have hb3 : Below W1.heap.size W1 w2 := ((Below.refl _ _).alloc (Nat.le_refl _) _).trans (hb2.mono (by simp))
      have hs2 := hs1.trans (hb3.mono hs1.size)
      replace A1 := A1.past hb3
      replace ha1 := ha1.past hb3
      replace hT1 := hT1.past hb3
      clear hb2 hs1 hb3
      have ra1 : Rd w2 .u32 a.p (dig B32 ma) := by rw [← HXA.out]; exact ha1.rd
      have a0 := A1.c0
      have a1 := A1.c1
      have a2 := A1.c2
      go_wp2_with fail
      ((with_reducible refine (ofD_any a.g a.p _ a.c a.e ma _ ra1 (by rw [HXA.out]) hca (by omega) (by omega) hT1).mono ?_))
      rw [HVA.out]
      rintro e4 w4 ⟨p4, c4, rfl, ho4, hb4⟩
      have hs4 := hs2.trans (hb4.mono hs2.size)
      have hb5 : Below w4.heap.size w4 (w4.alloc (.cells #[.bool gv, .slice p4 (dig B32 mv).length c4, .int .i64 (N : Int)] 60)) := (Below.refl _ _).alloc (Nat.le_refl _) _
      have X1 := box3_new w4 (.bool gv) (.slice p4 (dig B32 mv).length c4) (.int .i64 (N : Int)) 60
      have hs5 := hs4.trans (hb5.mono hs4.size)
      replace ho4 := ho4.past hb5
      clear a0 a1 a2
      go_wp2_with fail
      ((with_reducible refine (shr_zero p4 _ c4 mv _ ho4.rd rfl ho4.le_cap (by omega)).mono ?_))
      rintro e5 w5 ⟨p5, c5, rfl, ho5, hb5⟩
      replace hs5 := hs5.trans (hb5.mono hs5.size)
      replace X1 := X1.past hb5
      replace ho4 := ho4.past hb5
      have hzb := hs2.size
      have hx := X1
      obtain ⟨x0, x1, x2, _, _, _, _⟩ := hx
      go_wp2_with fail
      clear x0 x1 x2
      ((with_reducible refine (shl_any p4 _ c4 mv N _ ho4.rd rfl (by omega) (by omega)).mono ?_))
      rintro e6 w6 ⟨p6, c6, rfl, ho6, hb6⟩
      have hz5 := hs5.size
      have hz6 := hb6.size
      have hs6 := hs5.trans (hb6.mono hs5.size)
      replace X1 := X1.past hb6
      by_cases hL : 1200 < (dig B32 (mv * 2 ^ N)).length
      · have e1 : natE 0 (mv * 2 ^ N) = 2 := by unfold natE; rw [if_pos rfl, if_pos hL]
        have e2 : natL 0 (mv * 2 ^ N) = [] := by unfold natL; rw [e1]; simp
        have e3 : flNeg 0 ⟨gv, mv, (N : Int)⟩ = false := by unfold flNeg; rw [HF.out, e1]; rfl
        have E1 := Lib.hid e1
        have E2 := Lib.hid e2
        have E3 := Lib.hid e3
        clear e1 e2 e3
        obtain ⟨x0, x1, x2, _, _, _, _⟩ := X1
        go_wp2
        go_ret3
        rw [E1.out, E2.out, E3.out]
        exact ⟨none, 0, rfl, Own.nil _ _ _ _, hs6⟩
      · have e1 : natE 0 (mv * 2 ^ N) = 0 := by unfold natE; rw [if_pos rfl, if_neg hL]
        have e2 : natL 0 (mv * 2 ^ N) = dig B32 (mv * 2 ^ N) := by unfold natL; rw [e1]; simp
        have e3 : flNeg 0 ⟨gv, mv, (N : Int)⟩ = gv := by unfold flNeg; rw [HF.out, e1]; rfl
        have E1 := Lib.hid e1
        have E2 := Lib.hid e2
        have E3 := Lib.hid e3
        clear e1 e2 e3
        obtain ⟨x0, x1, x2, _, _, _, _⟩ := X1
        go_wp2_with fail
        go_quiet (fail)
        go_wp2
        go_ret3
        rw [E1.out, E2.out, E3.out]
        refine ⟨p6, c6, rfl, ?_, ?_⟩
        · first | exact (ho6.mono (by omega)).drewN _ | exact (ho6.mono (by omega)).drew
        · exact below_drewN hs6 _
    · obtain ⟨N, hN⟩ : ∃ N : Nat, -fv = (N : Int) := ⟨(-fv).toNat, by omega⟩
      have HF := Lib.hid (show dFloor ⟨gv, mv, fv⟩ = mv / 2 ^ N by
        unfold dFloor
        by_cases h1 : 0 ≤ fv
        · have : N = 0 := by omega
          subst this
          have h2 : fv = 0 := by omega
          subst h2
          simp
        · rw [if_neg h1]; simp only [hN, Int.toNat_natCast])
      have m1 : max 0 (-fv) = (N : Int) := by omega
      have lF : (dig B32 (mv / 2 ^ N)).length ≤ 1000000 := by have := dig_len_mono B32_two (Nat.div_le_self mv (2 ^ N)); omega
      have hf2 : -20000 ≤ fv := by omega
      have hN2 : N ≤ 20000 := by omega
      clear hN
      rw [HF.out]
      go_enter Tryd.func23, Tryd.ntmps23
      go_wp2_with fail
      rw [← HW1.out]
      clear HW1
      ((with_reducible refine (HC _ _ hz1.symm ha1.rd).out.mono ?_))
      rintro e2 w2 ⟨rfl, hb2⟩
      have hb3 : Below W1.heap.size W1 w2 := ((Below.refl _ _).alloc (Nat.le_refl _) _).trans (hb2.mono (by simp))
      have hs2 := hs1.trans (hb3.mono hs1.size)
      replace A1 := A1.past hb3
      replace ha1 := ha1.past hb3
      replace hT1 := hT1.past hb3
      clear hb2 hs1 hb3
      have ra1 : Rd w2 .u32 a.p (dig B32 ma) := by rw [← HXA.out]; exact ha1.rd
      have a0 := A1.c0
      have a1 := A1.c1
      have a2 := A1.c2
      go_wp2_with fail
      ((with_reducible refine (ofD_any a.g a.p _ a.c a.e ma _ ra1 (by rw [HXA.out]) hca (by omega) (by omega) hT1).mono ?_))
      rw [HVA.out]
      rintro e4 w4 ⟨p4, c4, rfl, ho4, hb4⟩
      have hs4 := hs2.trans (hb4.mono hs2.size)
      have hb5 : Below w4.heap.size w4 (w4.alloc (.cells #[.bool gv, .slice p4 (dig B32 mv).length c4, .int .i64 fv] 60)) := (Below.refl _ _).alloc (Nat.le_refl _) _
      have X1 := box3_new w4 (.bool gv) (.slice p4 (dig B32 mv).length c4) (.int .i64 fv) 60
      have hs5 := hs4.trans (hb5.mono hs4.size)
      replace ho4 := ho4.past hb5
      clear a0 a1 a2
      go_wp2_with fail
      ((with_reducible refine (shr_any p4 _ c4 mv N _ ho4.rd rfl ho4.le_cap (by omega) (by omega)).mono ?_))
      rintro e6 w6 ⟨p6, c6, rfl, ho6, hb6⟩
      have hz5 := hs5.size
      have hz6 := hb6.size
      have hs6 := hs5.trans (hb6.mono hs5.size)
      replace X1 := X1.past hb6
      by_cases hL : 1200 < (dig B32 (mv / 2 ^ N)).length
      · have e1 : natE 0 (mv / 2 ^ N) = 2 := by unfold natE; rw [if_pos rfl, if_pos hL]
        have e2 : natL 0 (mv / 2 ^ N) = [] := by unfold natL; rw [e1]; simp
        have e3 : flNeg 0 ⟨gv, mv, fv⟩ = false := by unfold flNeg; rw [HF.out, e1]; rfl
        have E1 := Lib.hid e1
        have E2 := Lib.hid e2
        have E3 := Lib.hid e3
        clear e1 e2 e3
        obtain ⟨x0, x1, x2, _, _, _, _⟩ := X1
        go_wp2
        go_ret3
        rw [E1.out, E2.out, E3.out]
        exact ⟨none, 0, rfl, Own.nil _ _ _ _, hs6⟩
      · have e1 : natE 0 (mv / 2 ^ N) = 0 := by unfold natE; rw [if_pos rfl, if_neg hL]
        have e2 : natL 0 (mv / 2 ^ N) = dig B32 (mv / 2 ^ N) := by unfold natL; rw [e1]; simp
        have e3 : flNeg 0 ⟨gv, mv, fv⟩ = gv := by unfold flNeg; rw [HF.out, e1]; rfl
        have E1 := Lib.hid e1
        have E2 := Lib.hid e2
        have E3 := Lib.hid e3
        clear e1 e2 e3
        obtain ⟨x0, x1, x2, _, _, _, _⟩ := X1
        go_wp2_with fail
        go_quiet (fail)
        go_wp2
        go_ret3
        rw [E1.out, E2.out, E3.out]
        refine ⟨p6, c6, rfl, ?_, ?_⟩
        · first | exact (ho6.mono (by omega)).drewN _ | exact (ho6.mono (by omega)).drew
        · exact below_drewN hs6 _
  · have HE := Lib.hid he
    obtain ⟨er, her⟩ : ∃ er, errDy a = er := ⟨_, rfl⟩
    simp only [her] at HC
    rw [her] at HE ⊢
    have hz0 : (er == 0) = false := beq_eq_false_iff_ne.2 HE.out
    have hz2 : (er != 0) = true := by rw [bne, hz0]; rfl
    have e1 : natE er (dFloor (dyV a)) = er := by unfold natE; rw [if_neg HE.out]
    have e2 : natL er (dFloor (dyV a)) = [] := by unfold natL; rw [e1, if_neg HE.out]
    have e3 : flNeg er (dyV a) = false := by unfold flNeg; rw [e1, if_neg HE.out]
    rw [e1, e2, e3]
    clear he her e1 e2 e3
    go_enter Tryd.func23, Tryd.ntmps23
    go_wp2_with fail
    rw [← HW1.out]
    clear HW1
    ((with_reducible refine (HC _ _ hz1.symm ha1.rd).out.mono ?_))
    rintro e2 w2 ⟨rfl, hb2⟩
    have hb3 : Below W1.heap.size W1 w2 := ((Below.refl _ _).alloc (Nat.le_refl _) _).trans (hb2.mono (by simp))
    go_wp2
    go_ret3
    exact ⟨none, 0, rfl, Own.nil _ _ _ _, hs1.trans (hb3.mono hs1.size)⟩

end Go.Proofs.YtcbjidcpcompoaaDoor
