/- The references' Ln2Of; the laws' sumOf. -/
import Derived.Test.YtehodhanojgkgaaDoorZQ
import Derived.Test.YtehodhanojgkgaaDoorZA
namespace Go.Slip

/-- 1 over k times 2 to the power of k, for k from 1 to J, over 2 to the power of P. -/
def lsum (P : Nat) : Nat → Nat
  | 0 => 0
  | j + 1 => lsum P j + 2 ^ (P - (j + 1)) / (j + 1)
theorem lsum_le (P : Nat) : ∀ J, J ≤ P → lsum P J + 2 ^ (P - J) ≤ 2 * 2 ^ P
  | 0, _ => by simp only [lsum]; rw [Nat.sub_zero]; omega
  | J + 1, h => by
    have h1 := lsum_le P J (by omega)
    simp only [lsum]
    have h2 : 2 ^ (P - J) = 2 ^ (P - (J + 1)) * 2 := by rw [← Nat.pow_succ]; congr 1; omega
    have h3 := Nat.div_le_self (2 ^ (P - (J + 1))) (J + 1)
    omega
theorem sI_pos (t : Bool) {n P : Nat} (hn : 2 ≤ n) (j : Nat) : 0 ≤ sI t n P j := by
  cases t with
  | true => exact sI_nonneg hn j
  | false =>
    have : ∀ j, sC (cM false) n P j = 0 := by
      intro j
      induction j with
      | zero => rfl
      | succ j ih => simp only [sC]; rw [ih]; simp [cM]
    unfold sI
    rw [this]
    omega

end Go.Slip
namespace Go.Proofs.YtehodhanojgkgaaDoor
open Go.RowKit Go.Slip

set_option maxHeartbeats 4000000 in
set_option maxRecDepth 100000 in
theorem ln2Of_any (P0 : Int) (P : Nat) (w : World) (hP0 : P0 = P) (hP : P ≤ 1500) :
    Calls Tryd.prog 16 #[.int .i64 P0] w (GivesZ w (lsum P P)) := by
  subst hP0
  have k : ∀ x : Nat, x ≤ 2 * 2 ^ P → (dig B16 x).length ≤ 942 := fun x hx => term_len16 (P := P) hx (by omega)
  have lpw : ∀ j, (dig B16 (2 ^ (P - j))).length ≤ 942 := fun j => k _ (by have : 2 ^ (P - j) ≤ 2 ^ P := Nat.pow_le_pow_right (by omega) (by omega); omega)
  have lq : ∀ x : Nat, x ≤ 10000 → (dig B16 x).length ≤ 942 := fun x hx => term_len16 (P := 14) (by omega) (by omega)
  have ld : ∀ j, (dig B16 (2 ^ (P - j) / j)).length ≤ 942 := fun j => Nat.le_trans (dig_len_mono B16_two (Nat.div_le_self _ _)) (lpw j)
  have ls : ∀ j, j ≤ P → (dig B16 (lsum P j)).length ≤ 942 := fun j hj => k _ (by have := lsum_le P j hj; have h0 : 0 < 2 ^ (P - j) := Nat.pow_pos (by omega); omega)
  have z0 : lsum P 0 = 0 := rfl
  have hT41 : SxAgg Tryd.prog 41 2 := sxAgg_of (by kernel_rfl) (by kernel_rfl)
  refine calls_of_wp Tryd.func16 rfl ?_
  refine sx_frame (a' := ⟨((.int .i64 ((P : Nat) : Int)) :: undef :: undef :: undef :: undef :: undef :: undef :: undef :: undef :: undef :: undef :: undef :: undef :: undef :: undef :: undef :: undef :: undef :: undef :: undef :: undef :: undef :: undef :: undef :: undef :: undef :: undef :: []).toArray, []⟩) (by kernel_rfl) ?_
  refine wp_seq ?_
  refine sx_region ?_
  refine sn 2 #[.bool false, .slice none 0 0] 41 (fun V1 hbV1 hzV1 b2 => ?_)
  refine sx_nil ?_
  refine sx_then ?_
  refine wp_seq ?_
  refine sx_region ?_
  refine sv 3 (.slice none 0 0) ?_
  refine sx_nil ?_
  refine sx_then ?_
  refine wp_seq ?_
  refine wp_seq ?_
  refine sx_region ?_
  refine sv 4 (.int .i64 1) ?_
  refine sx_nil ?_
  refine sx_then ?_
  refine wp_block ?_
  refine sx_frame (a' := ⟨((.int .i64 ((P : Nat) : Int)) :: undef :: (.pointer (some ⟨w.heap.size, 0, none⟩)) :: (.slice none 0 0) :: (.int .i64 1) :: undef :: undef :: undef :: undef :: undef :: undef :: undef :: undef :: undef :: undef :: undef :: undef :: undef :: undef :: undef :: undef :: undef :: undef :: undef :: undef :: undef :: undef :: []).toArray, []⟩) (by kernel_rfl) ?_
  refine sx_loop2 (fun (gk : Nat) U0 a' w' => ∃ (j : Nat) (p3 : Option Addr) (m3 : Nat) (c3 : Nat), a' = ⟨((.int .i64 ((P : Nat) : Int)) :: undef :: (.pointer (some ⟨w.heap.size, 0, none⟩)) :: (.slice p3 m3 c3) :: (.int .i64 ((j + 1 : Nat) : Int)) :: (U0 5) :: (U0 6) :: (U0 7) :: (U0 8) :: (U0 9) :: (U0 10) :: (U0 11) :: (U0 12) :: (U0 13) :: (U0 14) :: (U0 15) :: (U0 16) :: (U0 17) :: (U0 18) :: (U0 19) :: (U0 20) :: (U0 21) :: (U0 22) :: (U0 23) :: (U0 24) :: undef :: undef :: []).toArray, []⟩ ∧ (Rf w' (w.heap.size + 1) p3 c3 (dig B16 (lsum P j))) ∧ Below V1.heap.size V1 w' ∧ (gk + j = P + 1) ∧ (j ≤ P) ∧ (m3 = (dig B16 (lsum P j)).length)) (P + 1) ?_ (fun Gx hGx => ?_)
  · skip
    exact ⟨0, none, 0, 0, by kernel_rfl, (by rw [z0, dig_zero]; exact rf_nil _ _ _), Below.refl _ _, (by omega), (by omega), (by rw [z0, dig_zero]; rfl)⟩
  rintro gk0 U0 _ V2 ⟨j, p3, m3, c3, rfl, x3, hbV2, hj, hjp, hm3⟩
  refine hGx _ _ _ ?_
  clear hGx Gx
  have hzV2 := hbV2.size
  have lx3 := fun h => x3.lt h
  have l3 := ls j hjp
  have l4 := lpw (j + 1)
  have l5 := ld (j + 1)
  have l6 := lq (j + 1) (by omega)
  refine wp_seq ?_
  refine wp_seq ?_
  refine sx_region ?_
  refine sv 7 (.int .i64 ((j + 1 : Nat) : Int)) ?_
  refine sv 8 (.int .i64 ((P : Nat) : Int)) ?_
  rcases Bool.eq_false_or_eq_true (decide (((j + 1 : Nat) : Int) ≤ ((P : Nat) : Int))) with f9 | f9
  · skip
    refine sv 9 (.bool true) ?_ (hr := ((show _ = Result.ok (Next.value (.bool (decide (((j + 1 : Nat) : Int) ≤ ((P : Nat) : Int))))) _ from (by kernel_rfl)).trans (congrArg (fun z => Result.ok (Next.value (.bool z)) _) (show (decide (((j + 1 : Nat) : Int) ≤ ((P : Nat) : Int))) = true from f9))))
    refine sx_nil ?_
    refine sx_then ?_
    refine wp_cond_true (by kernel_rfl) ?_
    refine wp_skip ?_
    refine sx_then ?_
    refine wp_seq ?_
    refine wp_block ?_
    refine wp_seq ?_
    refine sx_region ?_
    have hlt := of_decide_eq_true f9
    refine sv 13 (.int .i64 ((P : Nat) : Int)) ?_
    refine sv 14 (.int .i64 ((j + 1 : Nat) : Int)) ?_
    refine sv 15 (.int .i64 ((P - (j + 1) : Nat) : Int)) ?_ (hr := ((show _ = Result.ok (Next.value (.int .i64 (IntKind.wrap .i64 (((P : Nat) : Int) - ((j + 1 : Nat) : Int))))) _ by kernel_rfl).trans (congrArg (fun z => Result.ok (Next.value (.int .i64 z)) _) ((by rw [show ((P : Nat) : Int) - ((j + 1 : Nat) : Int) = ((P - (j + 1) : Nat) : Int) by omega]; exact IntWalk.i64_in _ (by omega))))))
    refine se 16 47 #[.int .i64 ((P - (j + 1) : Nat) : Int)] (fun Gx hGx => ?_)
    ((with_reducible refine (rpow2 _ (P - (j + 1)) rfl (by omega) _).mono ?_))
    rintro eV3 V3 ⟨p16, c16, rfl, x16, hbV3⟩
    have hzV3 := hbV3.size
    have lx16 := fun h => x16.lt h
    refine ⟨.slice p16 (dig B16 (2 ^ (P - (j + 1)))).length c16, rfl, hGx _ _ ?_⟩
    clear hGx Gx
    refine sv 17 (.int .i64 ((j + 1 : Nat) : Int)) ?_
    refine se 18 42 #[.int .i64 ((j + 1 : Nat) : Int)] (fun Gx hGx => ?_)
    ((with_reducible refine (rfrom _ (j + 1) rfl (by omega) _).mono ?_))
    rintro eV4 V4 ⟨p18, c18, rfl, x18, hbV4⟩
    have hzV4 := hbV4.size
    have lx18 := fun h => x18.lt h
    refine ⟨.slice p18 (dig B16 (j + 1)).length c18, rfl, hGx _ _ ?_⟩
    clear hGx Gx
    replace x16 := (x16.past hbV4)
    refine se 19 46 #[.slice p16 (dig B16 (2 ^ (P - (j + 1)))).length c16, .slice p18 (dig B16 (j + 1)).length c18] (fun Gx hGx => ?_)
    ((with_reducible refine (rinto p16 p18 _ _ c16 c18 _ (j + 1) (2 ^ (P - (j + 1)) / (j + 1)) _ x16.rd x18.rd rfl rfl (by omega) (by omega) (by omega) rfl).mono ?_))
    rintro eV5 V5 ⟨p19, c19, r19, e19, f19, rfl, x19, hbV5⟩
    have hzV5 := hbV5.size
    have lx19 := fun h => x19.lt h
    refine ⟨.tuple #[.slice p19 (dig B16 (2 ^ (P - (j + 1)) / (j + 1))).length c19, .slice r19 e19 f19], rfl, hGx _ _ ?_⟩
    clear hGx Gx
    refine sv 12 (.tuple #[.slice p19 (dig B16 (2 ^ (P - (j + 1)) / (j + 1))).length c19, .slice r19 e19 f19]) ?_
    refine sv 20 (.slice p19 (dig B16 (2 ^ (P - (j + 1)) / (j + 1))).length c19) ?_
    refine sv 21 (.slice r19 e19 f19) ?_
    refine sv 5 (.slice p19 (dig B16 (2 ^ (P - (j + 1)) / (j + 1))).length c19) ?_
    refine sv 6 (.slice r19 e19 f19) ?_
    refine sx_nil ?_
    refine sx_then ?_
    refine sx_region ?_
    refine sv 22 (.slice p3 m3 c3) ?_
    refine sv 23 (.slice p19 (dig B16 (2 ^ (P - (j + 1)) / (j + 1))).length c19) ?_
    replace x3 := (x3.past (bthru (bthru hbV3 hbV4) hbV5))
    refine se 24 44 #[.slice p3 m3 c3, .slice p19 (dig B16 (2 ^ (P - (j + 1)) / (j + 1))).length c19] (fun Gx hGx => ?_)
    ((with_reducible refine (rplus p3 p19 m3 _ c3 c19 _ _ (lsum P (j + 1)) _ x3.rd x19.rd hm3 rfl (by omega) (by omega) rfl).mono ?_))
    rintro eV6 V6 ⟨p24, c24, rfl, x24, hbV6⟩
    have hzV6 := hbV6.size
    have lx24 := fun h => x24.lt h
    refine ⟨.slice p24 (dig B16 (lsum P (j + 1))).length c24, rfl, hGx _ _ ?_⟩
    clear hGx Gx
    refine sv 3 (.slice p24 (dig B16 (lsum P (j + 1))).length c24) ?_
    refine sx_nil ?_
    refine sx_inblock ?_
    refine sx_then ?_
    refine sx_region ?_
    refine sv 10 (.int .i64 ((j + 1 : Nat) : Int)) ?_
    refine sv 11 (.int .i64 ((j + 1 + 1 : Nat) : Int)) ?_ (hr := ((show _ = Result.ok (Next.value (.int .i64 (IntKind.wrap .i64 (((j + 1 : Nat) : Int) + 1)))) _ by kernel_rfl).trans (congrArg (fun z => Result.ok (Next.value (.int .i64 z)) _) ((by rw [show (((j + 1 : Nat) : Int) + 1) = ((j + 1 + 1 : Nat) : Int) by omega]; exact IntWalk.i64_in _ (by omega))))))
    refine sv 4 (.int .i64 ((j + 1 + 1 : Nat) : Int)) ?_
    refine sx_nil ?_
    refine sx_then ?_
    refine ⟨gk0 - 1, (by omega), ?_⟩
    exact ⟨j + 1, p24, (dig B16 (lsum P (j + 1))).length, c24, by kernel_rfl, x24.mono (by omega), (bthru (bthru (bthru (bthru hbV2 hbV3) hbV4) hbV5) hbV6), (by omega), (by omega), rfl⟩
  refine sv 9 (.bool false) ?_ (hr := ((show _ = Result.ok (Next.value (.bool (decide (((j + 1 : Nat) : Int) ≤ ((P : Nat) : Int))))) _ from (by kernel_rfl)).trans (congrArg (fun z => Result.ok (Next.value (.bool z)) _) (show (decide (((j + 1 : Nat) : Int) ≤ ((P : Nat) : Int))) = false from f9))))
  refine sx_nil ?_
  refine sx_then ?_
  refine wp_cond_false (by kernel_rfl) ?_
  refine wp_exit ?_
  repeat (with_reducible refine sx_thenexit ?_)
  refine sx_exit (id := 0) ?_
  refine sx_then ?_
  refine wp_seq ?_
  refine sx_region ?_
  refine sv 25 (.slice p3 m3 c3) ?_
  refine sv 26 (.agg #[.bool false, .slice p3 m3 c3]) ?_
  replace b2 := (b2.past hbV2)
  refine ss none b2 hT41 0 #[.bool false, .slice p3 m3 c3] #[.bool false, .slice p3 m3 c3] ?_
  have boV3 := b2
  clear b2
  intro V3 hOV3 b2
  have hzV3 := hOV3.size
  refine sx_nil ?_
  refine sx_then ?_
  refine wp_ret ?_
  have ⟨b2_0, b2_1⟩ := b2.bx.e2
  repeat (first | with_reducible refine sx_thenret ?_ | with_reducible refine sx_blockret ?_)
  refine bodyPost_ret (v := .agg #[.bool false, .slice p3 m3 c3]) (by simp [results, Tryd.results16, go_sem, b2_0, b2_1]) rfl ?_
  have hjj : j = P := by have := of_decide_eq_false f9; omega
  have he : lsum P P = lsum P j := by rw [hjj]
  rw [he]
  replace x3 := (x3.only hOV3 (fun h => by have := lx3 h; omega))
  exact ⟨p3, c3, by rw [hm3], x3.mono (by omega), ((bthru hbV1 hbV2).trans (hOV3.below (by omega)))⟩


set_option maxHeartbeats 4000000 in
set_option maxRecDepth 100000 in
theorem sumOf_any (N W0 : Int) (n w0 : Nat) (t : Bool) (w : World) (hN : N = n) (hW : W0 = w0) (hn : 2 ≤ n) (hn2 : n ≤ 10000) (hw : w0 ≤ 1500) :
    Calls Tryd.prog 20 #[.int .i64 N, .int .i64 W0, .bool t] w (GRf w (dig B16 (An t n w0).toNat)) := by
  subst hN hW
  have hnn : n * n ≤ 10000 * 10000 := Nat.mul_le_mul hn2 hn2
  have hnp : 0 < n * n := Nat.mul_pos (by omega) (by omega)
  have ln : (dig B16 n).length ≤ 942 := term_len16 (P := 14) (by omega) (by omega)
  have lnn : (dig B16 (n * n)).length ≤ 942 := term_len16 (P := 27) (by omega) (by omega)
  have lp : (dig B16 (2 ^ w0)).length ≤ 942 := term_len16 (P := w0) (by omega) (by omega)
  cases t with
  | true =>
    refine calls_of_wp Tryd.func20 rfl ?_
    refine sx_frame (a' := ⟨((.int .i64 ((n : Nat) : Int)) :: (.int .i64 ((w0 : Nat) : Int)) :: (.bool true) :: undef :: undef :: undef :: undef :: undef :: undef :: undef :: undef :: undef :: undef :: undef :: undef :: undef :: undef :: undef :: undef :: undef :: undef :: undef :: undef :: undef :: undef :: undef :: undef :: undef :: undef :: undef :: undef :: undef :: undef :: undef :: undef :: undef :: undef :: undef :: undef :: undef :: undef :: undef :: undef :: undef :: undef :: undef :: undef :: undef :: undef :: undef :: undef :: undef :: undef :: undef :: undef :: undef :: undef :: undef :: []).toArray, []⟩) (by kernel_rfl) ?_
    refine wp_seq ?_
    refine sx_region ?_
    refine sv 6 (.slice none 0 0) ?_
    refine sx_nil ?_
    refine sx_then ?_
    refine wp_seq ?_
    refine sx_region ?_
    refine sv 15 (.int .i64 ((w0 : Nat) : Int)) ?_
    refine se 16 47 #[.int .i64 ((w0 : Nat) : Int)] (fun Gx hGx => ?_)
    ((with_reducible refine (rpow2 _ w0 rfl (by omega) _).mono ?_))
    rintro eV1 V1 ⟨p16, c16, rfl, x16, hbV1⟩
    have hzV1 := hbV1.size
    have lx16 := fun h => x16.lt h
    refine ⟨.slice p16 (dig B16 (2 ^ w0)).length c16, rfl, hGx _ _ ?_⟩
    clear hGx Gx
    refine sv 17 (.int .i64 ((n : Nat) : Int)) ?_
    refine se 18 42 #[.int .i64 ((n : Nat) : Int)] (fun Gx hGx => ?_)
    ((with_reducible refine (rfrom _ n rfl (by omega) _).mono ?_))
    rintro eV2 V2 ⟨p18, c18, rfl, x18, hbV2⟩
    have hzV2 := hbV2.size
    have lx18 := fun h => x18.lt h
    refine ⟨.slice p18 (dig B16 n).length c18, rfl, hGx _ _ ?_⟩
    clear hGx Gx
    replace x16 := (x16.past hbV2)
    refine se 19 46 #[.slice p16 (dig B16 (2 ^ w0)).length c16, .slice p18 (dig B16 n).length c18] (fun Gx hGx => ?_)
    ((with_reducible refine (rinto p16 p18 _ _ c16 c18 (2 ^ w0) n (2 ^ w0 / n ^ (2 * 0 + 1)) _ x16.rd x18.rd rfl rfl (by omega) (by omega) (by omega) (by rw [Nat.pow_one])).mono ?_))
    rintro eV3 V3 ⟨p19, c19, r19, e19, f19, rfl, x19, hbV3⟩
    have hzV3 := hbV3.size
    have lx19 := fun h => x19.lt h
    refine ⟨.tuple #[.slice p19 (dig B16 (2 ^ w0 / n ^ (2 * 0 + 1))).length c19, .slice r19 e19 f19], rfl, hGx _ _ ?_⟩
    clear hGx Gx
    refine sv 14 (.tuple #[.slice p19 (dig B16 (2 ^ w0 / n ^ (2 * 0 + 1))).length c19, .slice r19 e19 f19]) ?_
    refine sv 20 (.slice p19 (dig B16 (2 ^ w0 / n ^ (2 * 0 + 1))).length c19) ?_
    refine sv 21 (.slice r19 e19 f19) ?_
    refine sv 7 (.slice p19 (dig B16 (2 ^ w0 / n ^ (2 * 0 + 1))).length c19) ?_
    refine sv 8 (.slice r19 e19 f19) ?_
    refine sx_nil ?_
    refine sx_then ?_
    refine wp_seq ?_
    refine sx_region ?_
    refine sv 9 (.slice none 0 0) ?_
    refine sv 10 (.slice none 0 0) ?_
    refine sx_nil ?_
    refine sx_then ?_
    refine wp_seq ?_
    refine wp_seq ?_
    refine sx_region ?_
    refine sv 11 (.int .i64 1) ?_
    refine sx_nil ?_
    refine sx_then ?_
    refine wp_block ?_
    refine sx_frame (a' := ⟨((.int .i64 ((n : Nat) : Int)) :: (.int .i64 ((w0 : Nat) : Int)) :: (.bool true) :: undef :: undef :: undef :: (.slice none 0 0) :: (.slice p19 (dig B16 (2 ^ w0 / n ^ (2 * 0 + 1))).length c19) :: (.slice r19 e19 f19) :: (.slice none 0 0) :: (.slice none 0 0) :: (.int .i64 1) :: undef :: undef :: (.tuple #[.slice p19 (dig B16 (2 ^ w0 / n ^ (2 * 0 + 1))).length c19, .slice r19 e19 f19]) :: (.int .i64 ((w0 : Nat) : Int)) :: (.slice p16 (dig B16 (2 ^ w0)).length c16) :: (.int .i64 ((n : Nat) : Int)) :: (.slice p18 (dig B16 n).length c18) :: (.tuple #[.slice p19 (dig B16 (2 ^ w0 / n ^ (2 * 0 + 1))).length c19, .slice r19 e19 f19]) :: (.slice p19 (dig B16 (2 ^ w0 / n ^ (2 * 0 + 1))).length c19) :: (.slice r19 e19 f19) :: undef :: undef :: undef :: undef :: undef :: undef :: undef :: undef :: undef :: undef :: undef :: undef :: undef :: undef :: undef :: undef :: undef :: undef :: undef :: undef :: undef :: undef :: undef :: undef :: undef :: undef :: undef :: undef :: undef :: undef :: undef :: undef :: undef :: undef :: undef :: undef :: []).toArray, []⟩) (by kernel_rfl) ?_
    refine sx_loop2 (fun (gk : Nat) U0 a' w' => ∃ (j : Nat) (p7 : Option Addr) (c7 : Nat) (p9 : Option Addr) (m9 : Nat) (c9 : Nat) (p10 : Option Addr) (m10 : Nat) (c10 : Nat), a' = ⟨((.int .i64 ((n : Nat) : Int)) :: (.int .i64 ((w0 : Nat) : Int)) :: (.bool true) :: undef :: undef :: undef :: (.slice none 0 0) :: (.slice p7 (dig B16 (2 ^ w0 / n ^ (2 * j + 1))).length c7) :: (.slice r19 e19 f19) :: (.slice p9 m9 c9) :: (.slice p10 m10 c10) :: (.int .i64 ((2 * j + 1 : Nat) : Int)) :: (U0 12) :: (U0 13) :: (.tuple #[.slice p19 (dig B16 (2 ^ w0 / n ^ (2 * 0 + 1))).length c19, .slice r19 e19 f19]) :: (.int .i64 ((w0 : Nat) : Int)) :: (.slice p16 (dig B16 (2 ^ w0)).length c16) :: (.int .i64 ((n : Nat) : Int)) :: (.slice p18 (dig B16 n).length c18) :: (.tuple #[.slice p19 (dig B16 (2 ^ w0 / n ^ (2 * 0 + 1))).length c19, .slice r19 e19 f19]) :: (.slice p19 (dig B16 (2 ^ w0 / n ^ (2 * 0 + 1))).length c19) :: (.slice r19 e19 f19) :: (U0 22) :: (U0 23) :: (U0 24) :: (U0 25) :: (U0 26) :: (U0 27) :: (U0 28) :: (U0 29) :: (U0 30) :: (U0 31) :: (U0 32) :: (U0 33) :: (U0 34) :: (U0 35) :: (U0 36) :: (U0 37) :: (U0 38) :: (U0 39) :: (U0 40) :: (U0 41) :: (U0 42) :: (U0 43) :: (U0 44) :: (U0 45) :: (U0 46) :: (U0 47) :: (U0 48) :: (U0 49) :: (U0 50) :: (U0 51) :: (U0 52) :: (U0 53) :: (U0 54) :: undef :: undef :: undef :: []).toArray, []⟩ ∧ (Rf w' w.heap.size p7 c7 (dig B16 (2 ^ w0 / n ^ (2 * j + 1)))) ∧ (Rf w' w.heap.size p9 c9 (dig B16 (sC (cP true) n w0 j))) ∧ (Rf w' w.heap.size p10 c10 (dig B16 (sC (cM true) n w0 j))) ∧ Below V3.heap.size V3 w' ∧ (gk + j = w0 + 2) ∧ (∀ i, i < j → n ^ (2 * i + 1) ≤ 2 ^ w0) ∧ (m9 = (dig B16 (sC (cP true) n w0 j)).length) ∧ (m10 = (dig B16 (sC (cM true) n w0 j)).length)) (w0 + 2) ?_ (fun Gx hGx => ?_)
    · skip
      exact ⟨0, p19, c19, none, 0, 0, none, 0, 0, by kernel_rfl, x19.mono (by omega), (by rw [show sC (cP true) n w0 0 = 0 from rfl, dig_zero]; exact rf_nil _ _ _), (by rw [show sC (cM true) n w0 0 = 0 from rfl, dig_zero]; exact rf_nil _ _ _), Below.refl _ _, (by omega), (fun i h => absurd h (by omega)), (by rw [show sC (cP true) n w0 0 = 0 from rfl, dig_zero]; rfl), (by rw [show sC (cM true) n w0 0 = 0 from rfl, dig_zero]; rfl)⟩
    rintro gk0 U0 _ V4 ⟨j, p7, c7, p9, m9, c9, p10, m10, c10, rfl, x7, x9, x10, hbV4, hj, hne, hm9, hm10⟩
    refine hGx _ _ _ ?_
    clear hGx Gx
    have hzV4 := hbV4.size
    have lx7 := fun h => x7.lt h
    have lx9 := fun h => x9.lt h
    have lx10 := fun h => x10.lt h
    have lX : (dig B16 (2 ^ w0 / n ^ (2 * j + 1))).length ≤ 942 := term_len16 (P := w0) (Nat.le_trans (Nat.div_le_self _ _) (by omega)) (by omega)
    have lP : (dig B16 (sC (cP true) n w0 j)).length ≤ 942 := term_len16 (P := w0) (sC_le _ (cP_le true) hn _) (by omega)
    have lM : (dig B16 (sC (cM true) n w0 j)).length ≤ 942 := term_len16 (P := w0) (sC_le _ (cM_le true) hn _) (by omega)
    have lT : (dig B16 (tj n w0 j)).length ≤ 942 := term_len16 (P := w0) (Nat.le_trans (Nat.div_le_self _ _) (by omega)) (by omega)
    refine wp_seq ?_
    refine wp_seq ?_
    refine sx_region ?_
    refine sv 22 (.slice p7 (dig B16 (2 ^ w0 / n ^ (2 * j + 1))).length c7) ?_
    refine sv 23 (.int .i64 (((dig B16 (2 ^ w0 / n ^ (2 * j + 1))).length : Nat) : Int)) ?_
    rcases Bool.eq_false_or_eq_true (decide ((((dig B16 (2 ^ w0 / n ^ (2 * j + 1))).length : Nat) : Int) > 0)) with f24 | f24
    · skip
      refine sv 24 (.bool true) ?_ (hr := ((show _ = Result.ok (Next.value (.bool (decide ((((dig B16 (2 ^ w0 / n ^ (2 * j + 1))).length : Nat) : Int) > 0)))) _ from (by kernel_rfl)).trans (congrArg (fun z => Result.ok (Next.value (.bool z)) _) (show (decide ((((dig B16 (2 ^ w0 / n ^ (2 * j + 1))).length : Nat) : Int) > 0)) = true from f24))))
      refine sx_nil ?_
      refine sx_then ?_
      refine wp_cond_true (by kernel_rfl) ?_
      refine wp_skip ?_
      refine sx_then ?_
      refine wp_seq ?_
      refine wp_block ?_
      refine wp_seq ?_
      refine sx_region ?_
      have hx := le_of_quot (n := n) (P := w0) (j := j) (pos_of_len16 (by have := of_decide_eq_true f24; omega))
      have hj2 := j_le hn hx
      have hx2 : ∀ i, i < j + 1 → n ^ (2 * i + 1) ≤ 2 ^ w0 := fun i hi => by rcases Nat.lt_or_ge i j with h | h; exact hne i h; rw [show i = j by omega]; exact hx
      have lJ : (dig B16 (2 * j + 1)).length ≤ 942 := term_len16 (P := w0) (Nat.le_trans hj2 (Nat.le_trans (Nat.le_of_lt Nat.lt_two_pow_self) (by omega))) (by omega)
      refine sv 28 (.slice p7 (dig B16 (2 ^ w0 / n ^ (2 * j + 1))).length c7) ?_
      refine sv 29 (.int .i64 ((2 * j + 1 : Nat) : Int)) ?_
      refine se 30 42 #[.int .i64 ((2 * j + 1 : Nat) : Int)] (fun Gx hGx => ?_)
      ((with_reducible refine (rfrom _ (2 * j + 1) rfl (by omega) _).mono ?_))
      rintro eV5 V5 ⟨p30, c30, rfl, x30, hbV5⟩
      have hzV5 := hbV5.size
      have lx30 := fun h => x30.lt h
      refine ⟨.slice p30 (dig B16 (2 * j + 1)).length c30, rfl, hGx _ _ ?_⟩
      clear hGx Gx
      replace x7 := (x7.past hbV5)
      refine se 31 46 #[.slice p7 (dig B16 (2 ^ w0 / n ^ (2 * j + 1))).length c7, .slice p30 (dig B16 (2 * j + 1)).length c30] (fun Gx hGx => ?_)
      ((with_reducible refine (rinto p7 p30 _ _ c7 c30 _ (2 * j + 1) (tj n w0 j) _ x7.rd x30.rd rfl rfl (by omega) (by omega) (by omega) (quot_term n w0 j)).mono ?_))
      rintro eV6 V6 ⟨p31, c31, r31, e31, f31, rfl, x31, hbV6⟩
      have hzV6 := hbV6.size
      have lx31 := fun h => x31.lt h
      refine ⟨.tuple #[.slice p31 (dig B16 (tj n w0 j)).length c31, .slice r31 e31 f31], rfl, hGx _ _ ?_⟩
      clear hGx Gx
      refine sv 27 (.tuple #[.slice p31 (dig B16 (tj n w0 j)).length c31, .slice r31 e31 f31]) ?_
      refine sv 32 (.slice p31 (dig B16 (tj n w0 j)).length c31) ?_
      refine sv 33 (.slice r31 e31 f31) ?_
      refine sv 12 (.slice p31 (dig B16 (tj n w0 j)).length c31) ?_
      refine sv 13 (.slice r31 e31 f31) ?_
      refine sx_nil ?_
      refine sx_then ?_
      refine wp_seq ?_
      refine wp_seq ?_
      refine sx_region ?_
      refine sv 34 (.bool true) ?_
      refine sv 35 (.bool true) ?_
      refine sv 36 (.int .i64 ((2 * j + 1 : Nat) : Int)) ?_
      refine sv 37 (.int .i64 (((2 * j + 1) % 4 : Nat) : Int)) ?_ (hr := (exec_rem (((2 * j + 1) % 4 : Nat) : Int) (by kernel_rfl) (by kernel_rfl) ((show (4 : Int) ≠ 0 by omega)) ((by exact (Int.ofNat_tmod (2 * j + 1) 4).symm))))
      rcases Bool.eq_false_or_eq_true ((((2 * j + 1) % 4 : Nat) : Int) == 3) with f38 | f38
      · skip
        refine sv 38 (.bool true) ?_ (hr := ((show _ = Result.ok (Next.value (.bool ((((2 * j + 1) % 4 : Nat) : Int) == 3))) _ from (by kernel_rfl)).trans (congrArg (fun z => Result.ok (Next.value (.bool z)) _) (show ((((2 * j + 1) % 4 : Nat) : Int) == 3) = true from f38))))
        refine sv 39 (.bool true) ?_
        refine sx_nil ?_
        refine sx_then ?_
        refine wp_cond_true (by kernel_rfl) ?_
        refine sx_region ?_
        refine sv 40 (.slice p10 m10 c10) ?_
        refine sv 41 (.slice p31 (dig B16 (tj n w0 j)).length c31) ?_
        replace x10 := (x10.past (bthru hbV5 hbV6))
        refine se 42 44 #[.slice p10 m10 c10, .slice p31 (dig B16 (tj n w0 j)).length c31] (fun Gx hGx => ?_)
        ((with_reducible refine (rplus p10 p31 m10 _ c10 c31 _ (tj n w0 j) (sC (cM true) n w0 (j + 1)) _ x10.rd x31.rd hm10 rfl (by omega) (by omega) (by simp only [sC]; rw [show cM true j = 1 by unfold cM; rw [if_pos ⟨rfl, by have := beq_iff_eq.1 f38; omega⟩], Nat.one_mul])).mono ?_))
        rintro eV7 V7 ⟨p42, c42, rfl, x42, hbV7⟩
        have hzV7 := hbV7.size
        have lx42 := fun h => x42.lt h
        refine ⟨.slice p42 (dig B16 (sC (cM true) n w0 (j + 1))).length c42, rfl, hGx _ _ ?_⟩
        clear hGx Gx
        refine sv 10 (.slice p42 (dig B16 (sC (cM true) n w0 (j + 1))).length c42) ?_
        refine sx_nil ?_
        refine sx_then ?_
        refine sx_region ?_
        refine sv 47 (.slice p7 (dig B16 (2 ^ w0 / n ^ (2 * j + 1))).length c7) ?_
        refine sv 48 (.int .i64 ((n : Nat) : Int)) ?_
        refine sv 49 (.int .i64 ((n : Nat) : Int)) ?_
        refine sv 50 (.int .i64 ((n * n : Nat) : Int)) ?_ (hr := ((show _ = Result.ok (Next.value (.int .i64 (IntKind.wrap .i64 (((n : Nat) : Int) * ((n : Nat) : Int))))) _ by kernel_rfl).trans (congrArg (fun z => Result.ok (Next.value (.int .i64 z)) _) ((by rw [← Int.natCast_mul]; exact IntWalk.i64_in _ (by omega))))))
        refine se 51 42 #[.int .i64 ((n * n : Nat) : Int)] (fun Gx hGx => ?_)
        ((with_reducible refine (rfrom _ (n * n) rfl (by omega) _).mono ?_))
        rintro eV8 V8 ⟨p51, c51, rfl, x51, hbV8⟩
        have hzV8 := hbV8.size
        have lx51 := fun h => x51.lt h
        refine ⟨.slice p51 (dig B16 (n * n)).length c51, rfl, hGx _ _ ?_⟩
        clear hGx Gx
        replace x7 := (x7.past (bthru (bthru hbV6 hbV7) hbV8))
        refine se 52 46 #[.slice p7 (dig B16 (2 ^ w0 / n ^ (2 * j + 1))).length c7, .slice p51 (dig B16 (n * n)).length c51] (fun Gx hGx => ?_)
        ((with_reducible refine (rinto p7 p51 _ _ c7 c51 _ (n * n) _ _ x7.rd x51.rd rfl rfl (by omega) (by omega) (by omega) (quot_next n w0 j)).mono ?_))
        rintro eV9 V9 ⟨p52, c52, r52, e52, f52, rfl, x52, hbV9⟩
        have hzV9 := hbV9.size
        have lx52 := fun h => x52.lt h
        refine ⟨.tuple #[.slice p52 (dig B16 (2 ^ w0 / n ^ (2 * (j + 1) + 1))).length c52, .slice r52 e52 f52], rfl, hGx _ _ ?_⟩
        clear hGx Gx
        refine sv 46 (.tuple #[.slice p52 (dig B16 (2 ^ w0 / n ^ (2 * (j + 1) + 1))).length c52, .slice r52 e52 f52]) ?_
        refine sv 53 (.slice p52 (dig B16 (2 ^ w0 / n ^ (2 * (j + 1) + 1))).length c52) ?_
        refine sv 54 (.slice r52 e52 f52) ?_
        refine sv 7 (.slice p52 (dig B16 (2 ^ w0 / n ^ (2 * (j + 1) + 1))).length c52) ?_
        refine sx_nil ?_
        refine sx_inblock ?_
        refine sx_then ?_
        refine sx_region ?_
        refine sv 25 (.int .i64 ((2 * j + 1 : Nat) : Int)) ?_
        refine sv 26 (.int .i64 ((2 * (j + 1) + 1 : Nat) : Int)) ?_ (hr := ((show _ = Result.ok (Next.value (.int .i64 (IntKind.wrap .i64 (((2 * j + 1 : Nat) : Int) + 2)))) _ by kernel_rfl).trans (congrArg (fun z => Result.ok (Next.value (.int .i64 z)) _) ((by rw [show (((2 * j + 1 : Nat) : Int) + 2) = ((2 * (j + 1) + 1 : Nat) : Int) by omega]; exact IntWalk.i64_in _ (by omega))))))
        refine sv 11 (.int .i64 ((2 * (j + 1) + 1 : Nat) : Int)) ?_
        refine sx_nil ?_
        refine sx_then ?_
        refine ⟨gk0 - 1, (by omega), ?_⟩
        replace x9 := (x9.past (bthru (bthru (bthru (bthru hbV5 hbV6) hbV7) hbV8) hbV9))
        replace x42 := (x42.past (bthru hbV8 hbV9))
        exact ⟨j + 1, p52, c52, p9, m9, c9, p42, (dig B16 (sC (cM true) n w0 (j + 1))).length, c42, by kernel_rfl, x52.mono (by omega), (by rw [show sC (cP true) n w0 (j + 1) = sC (cP true) n w0 j by simp only [sC]; rw [show cP true j = 0 by unfold cP; rw [if_pos ⟨rfl, by have := beq_iff_eq.1 f38; omega⟩]]; omega]; exact x9), x42.mono (by omega), (bthru (bthru (bthru (bthru (bthru hbV4 hbV5) hbV6) hbV7) hbV8) hbV9), (by omega), hx2, (by rw [show sC (cP true) n w0 (j + 1) = sC (cP true) n w0 j by simp only [sC]; rw [show cP true j = 0 by unfold cP; rw [if_pos ⟨rfl, by have := beq_iff_eq.1 f38; omega⟩]]; omega]; exact hm9), rfl⟩
      refine sv 38 (.bool false) ?_ (hr := ((show _ = Result.ok (Next.value (.bool ((((2 * j + 1) % 4 : Nat) : Int) == 3))) _ from (by kernel_rfl)).trans (congrArg (fun z => Result.ok (Next.value (.bool z)) _) (show ((((2 * j + 1) % 4 : Nat) : Int) == 3) = false from f38))))
      refine sv 39 (.bool false) ?_
      refine sx_nil ?_
      refine sx_then ?_
      refine wp_cond_false (by kernel_rfl) ?_
      refine sx_region ?_
      refine sv 43 (.slice p9 m9 c9) ?_
      refine sv 44 (.slice p31 (dig B16 (tj n w0 j)).length c31) ?_
      replace x9 := (x9.past (bthru hbV5 hbV6))
      refine se 45 44 #[.slice p9 m9 c9, .slice p31 (dig B16 (tj n w0 j)).length c31] (fun Gx hGx => ?_)
      ((with_reducible refine (rplus p9 p31 m9 _ c9 c31 _ (tj n w0 j) (sC (cP true) n w0 (j + 1)) _ x9.rd x31.rd hm9 rfl (by omega) (by omega) (by simp only [sC]; rw [show cP true j = 1 by unfold cP; rw [if_neg (fun h => by have := beq_eq_false_iff_ne.1 f38; omega)], Nat.one_mul])).mono ?_))
      rintro eV7 V7 ⟨p45, c45, rfl, x45, hbV7⟩
      have hzV7 := hbV7.size
      have lx45 := fun h => x45.lt h
      refine ⟨.slice p45 (dig B16 (sC (cP true) n w0 (j + 1))).length c45, rfl, hGx _ _ ?_⟩
      clear hGx Gx
      refine sv 9 (.slice p45 (dig B16 (sC (cP true) n w0 (j + 1))).length c45) ?_
      refine sx_nil ?_
      refine sx_then ?_
      refine sx_region ?_
      refine sv 47 (.slice p7 (dig B16 (2 ^ w0 / n ^ (2 * j + 1))).length c7) ?_
      refine sv 48 (.int .i64 ((n : Nat) : Int)) ?_
      refine sv 49 (.int .i64 ((n : Nat) : Int)) ?_
      refine sv 50 (.int .i64 ((n * n : Nat) : Int)) ?_ (hr := ((show _ = Result.ok (Next.value (.int .i64 (IntKind.wrap .i64 (((n : Nat) : Int) * ((n : Nat) : Int))))) _ by kernel_rfl).trans (congrArg (fun z => Result.ok (Next.value (.int .i64 z)) _) ((by rw [← Int.natCast_mul]; exact IntWalk.i64_in _ (by omega))))))
      refine se 51 42 #[.int .i64 ((n * n : Nat) : Int)] (fun Gx hGx => ?_)
      ((with_reducible refine (rfrom _ (n * n) rfl (by omega) _).mono ?_))
      rintro eV8 V8 ⟨p51, c51, rfl, x51, hbV8⟩
      have hzV8 := hbV8.size
      have lx51 := fun h => x51.lt h
      refine ⟨.slice p51 (dig B16 (n * n)).length c51, rfl, hGx _ _ ?_⟩
      clear hGx Gx
      replace x7 := (x7.past (bthru (bthru hbV6 hbV7) hbV8))
      refine se 52 46 #[.slice p7 (dig B16 (2 ^ w0 / n ^ (2 * j + 1))).length c7, .slice p51 (dig B16 (n * n)).length c51] (fun Gx hGx => ?_)
      ((with_reducible refine (rinto p7 p51 _ _ c7 c51 _ (n * n) _ _ x7.rd x51.rd rfl rfl (by omega) (by omega) (by omega) (quot_next n w0 j)).mono ?_))
      rintro eV9 V9 ⟨p52, c52, r52, e52, f52, rfl, x52, hbV9⟩
      have hzV9 := hbV9.size
      have lx52 := fun h => x52.lt h
      refine ⟨.tuple #[.slice p52 (dig B16 (2 ^ w0 / n ^ (2 * (j + 1) + 1))).length c52, .slice r52 e52 f52], rfl, hGx _ _ ?_⟩
      clear hGx Gx
      refine sv 46 (.tuple #[.slice p52 (dig B16 (2 ^ w0 / n ^ (2 * (j + 1) + 1))).length c52, .slice r52 e52 f52]) ?_
      refine sv 53 (.slice p52 (dig B16 (2 ^ w0 / n ^ (2 * (j + 1) + 1))).length c52) ?_
      refine sv 54 (.slice r52 e52 f52) ?_
      refine sv 7 (.slice p52 (dig B16 (2 ^ w0 / n ^ (2 * (j + 1) + 1))).length c52) ?_
      refine sx_nil ?_
      refine sx_inblock ?_
      refine sx_then ?_
      refine sx_region ?_
      refine sv 25 (.int .i64 ((2 * j + 1 : Nat) : Int)) ?_
      refine sv 26 (.int .i64 ((2 * (j + 1) + 1 : Nat) : Int)) ?_ (hr := ((show _ = Result.ok (Next.value (.int .i64 (IntKind.wrap .i64 (((2 * j + 1 : Nat) : Int) + 2)))) _ by kernel_rfl).trans (congrArg (fun z => Result.ok (Next.value (.int .i64 z)) _) ((by rw [show (((2 * j + 1 : Nat) : Int) + 2) = ((2 * (j + 1) + 1 : Nat) : Int) by omega]; exact IntWalk.i64_in _ (by omega))))))
      refine sv 11 (.int .i64 ((2 * (j + 1) + 1 : Nat) : Int)) ?_
      refine sx_nil ?_
      refine sx_then ?_
      refine ⟨gk0 - 1, (by omega), ?_⟩
      replace x45 := (x45.past (bthru hbV8 hbV9))
      replace x10 := (x10.past (bthru (bthru (bthru (bthru hbV5 hbV6) hbV7) hbV8) hbV9))
      exact ⟨j + 1, p52, c52, p45, (dig B16 (sC (cP true) n w0 (j + 1))).length, c45, p10, m10, c10, by kernel_rfl, x52.mono (by omega), x45.mono (by omega), (by rw [show sC (cM true) n w0 (j + 1) = sC (cM true) n w0 j by simp only [sC]; rw [show cM true j = 0 by unfold cM; rw [if_neg (fun h => by have := beq_eq_false_iff_ne.1 f38; omega)]]; omega]; exact x10), (bthru (bthru (bthru (bthru (bthru hbV4 hbV5) hbV6) hbV7) hbV8) hbV9), (by omega), hx2, rfl, (by rw [show sC (cM true) n w0 (j + 1) = sC (cM true) n w0 j by simp only [sC]; rw [show cM true j = 0 by unfold cM; rw [if_neg (fun h => by have := beq_eq_false_iff_ne.1 f38; omega)]]; omega]; exact hm10)⟩
    refine sv 24 (.bool false) ?_ (hr := ((show _ = Result.ok (Next.value (.bool (decide ((((dig B16 (2 ^ w0 / n ^ (2 * j + 1))).length : Nat) : Int) > 0)))) _ from (by kernel_rfl)).trans (congrArg (fun z => Result.ok (Next.value (.bool z)) _) (show (decide ((((dig B16 (2 ^ w0 / n ^ (2 * j + 1))).length : Nat) : Int) > 0)) = false from f24))))
    refine sx_nil ?_
    refine sx_then ?_
    refine wp_cond_false (by kernel_rfl) ?_
    refine wp_exit ?_
    repeat (with_reducible refine sx_thenexit ?_)
    refine sx_exit (id := 0) ?_
    refine sx_then ?_
    refine wp_seq ?_
    refine sx_region ?_
    refine sv 55 (.slice p9 m9 c9) ?_
    refine sv 56 (.slice p10 m10 c10) ?_
    refine se 57 43 #[.slice p9 m9 c9, .slice p10 m10 c10] (fun Gx hGx => ?_)
    ((with_reducible refine (rless p9 p10 _ _ c9 c10 _ _ (sI true n w0 j).toNat _ x9.rd x10.rd hm9 hm10 (by omega) (by have h := sI_pos true (P := w0) hn j; unfold sI at h; omega) (by unfold sI; omega)).mono ?_))
    rintro eV5 V5 ⟨p57, c57, rfl, x57, hbV5⟩
    have hzV5 := hbV5.size
    have lx57 := fun h => x57.lt h
    refine ⟨.slice p57 (dig B16 (sI true n w0 j).toNat).length c57, rfl, hGx _ _ ?_⟩
    clear hGx Gx
    refine sv 6 (.slice p57 (dig B16 (sI true n w0 j).toNat).length c57) ?_
    refine sx_nil ?_
    refine sx_then ?_
    refine wp_ret ?_
    repeat (first | with_reducible refine sx_thenret ?_ | with_reducible refine sx_blockret ?_)
    refine bodyPost_ret (v := .slice p57 (dig B16 (sI true n w0 j).toNat).length c57) (by simp [results, Tryd.results20, go_sem]) rfl ?_
    have hIJ : IsJ n w0 j := isJ_of ((dig_len_zero B16_two _).1 (by have := of_decide_eq_false f24; omega)) hne (by omega)
    have hIJ2 := isJ_le hn hIJ
    have he : An true n w0 = sI true n w0 j := by unfold An; rw [sI_stop true hn hIJ (by omega)]
    rw [he]
    exact ⟨p57, c57, rfl, x57.mono (by omega), (bthru (bthru (bthru (bthru hbV1 hbV2) hbV3) hbV4) hbV5)⟩
  | false =>
    refine calls_of_wp Tryd.func20 rfl ?_
    refine sx_frame (a' := ⟨((.int .i64 ((n : Nat) : Int)) :: (.int .i64 ((w0 : Nat) : Int)) :: (.bool false) :: undef :: undef :: undef :: undef :: undef :: undef :: undef :: undef :: undef :: undef :: undef :: undef :: undef :: undef :: undef :: undef :: undef :: undef :: undef :: undef :: undef :: undef :: undef :: undef :: undef :: undef :: undef :: undef :: undef :: undef :: undef :: undef :: undef :: undef :: undef :: undef :: undef :: undef :: undef :: undef :: undef :: undef :: undef :: undef :: undef :: undef :: undef :: undef :: undef :: undef :: undef :: undef :: undef :: undef :: undef :: []).toArray, []⟩) (by kernel_rfl) ?_
    refine wp_seq ?_
    refine sx_region ?_
    refine sv 6 (.slice none 0 0) ?_
    refine sx_nil ?_
    refine sx_then ?_
    refine wp_seq ?_
    refine sx_region ?_
    refine sv 15 (.int .i64 ((w0 : Nat) : Int)) ?_
    refine se 16 47 #[.int .i64 ((w0 : Nat) : Int)] (fun Gx hGx => ?_)
    ((with_reducible refine (rpow2 _ w0 rfl (by omega) _).mono ?_))
    rintro eV1 V1 ⟨p16, c16, rfl, x16, hbV1⟩
    have hzV1 := hbV1.size
    have lx16 := fun h => x16.lt h
    refine ⟨.slice p16 (dig B16 (2 ^ w0)).length c16, rfl, hGx _ _ ?_⟩
    clear hGx Gx
    refine sv 17 (.int .i64 ((n : Nat) : Int)) ?_
    refine se 18 42 #[.int .i64 ((n : Nat) : Int)] (fun Gx hGx => ?_)
    ((with_reducible refine (rfrom _ n rfl (by omega) _).mono ?_))
    rintro eV2 V2 ⟨p18, c18, rfl, x18, hbV2⟩
    have hzV2 := hbV2.size
    have lx18 := fun h => x18.lt h
    refine ⟨.slice p18 (dig B16 n).length c18, rfl, hGx _ _ ?_⟩
    clear hGx Gx
    replace x16 := (x16.past hbV2)
    refine se 19 46 #[.slice p16 (dig B16 (2 ^ w0)).length c16, .slice p18 (dig B16 n).length c18] (fun Gx hGx => ?_)
    ((with_reducible refine (rinto p16 p18 _ _ c16 c18 (2 ^ w0) n (2 ^ w0 / n ^ (2 * 0 + 1)) _ x16.rd x18.rd rfl rfl (by omega) (by omega) (by omega) (by rw [Nat.pow_one])).mono ?_))
    rintro eV3 V3 ⟨p19, c19, r19, e19, f19, rfl, x19, hbV3⟩
    have hzV3 := hbV3.size
    have lx19 := fun h => x19.lt h
    refine ⟨.tuple #[.slice p19 (dig B16 (2 ^ w0 / n ^ (2 * 0 + 1))).length c19, .slice r19 e19 f19], rfl, hGx _ _ ?_⟩
    clear hGx Gx
    refine sv 14 (.tuple #[.slice p19 (dig B16 (2 ^ w0 / n ^ (2 * 0 + 1))).length c19, .slice r19 e19 f19]) ?_
    refine sv 20 (.slice p19 (dig B16 (2 ^ w0 / n ^ (2 * 0 + 1))).length c19) ?_
    refine sv 21 (.slice r19 e19 f19) ?_
    refine sv 7 (.slice p19 (dig B16 (2 ^ w0 / n ^ (2 * 0 + 1))).length c19) ?_
    refine sv 8 (.slice r19 e19 f19) ?_
    refine sx_nil ?_
    refine sx_then ?_
    refine wp_seq ?_
    refine sx_region ?_
    refine sv 9 (.slice none 0 0) ?_
    refine sv 10 (.slice none 0 0) ?_
    refine sx_nil ?_
    refine sx_then ?_
    refine wp_seq ?_
    refine wp_seq ?_
    refine sx_region ?_
    refine sv 11 (.int .i64 1) ?_
    refine sx_nil ?_
    refine sx_then ?_
    refine wp_block ?_
    refine sx_frame (a' := ⟨((.int .i64 ((n : Nat) : Int)) :: (.int .i64 ((w0 : Nat) : Int)) :: (.bool false) :: undef :: undef :: undef :: (.slice none 0 0) :: (.slice p19 (dig B16 (2 ^ w0 / n ^ (2 * 0 + 1))).length c19) :: (.slice r19 e19 f19) :: (.slice none 0 0) :: (.slice none 0 0) :: (.int .i64 1) :: undef :: undef :: (.tuple #[.slice p19 (dig B16 (2 ^ w0 / n ^ (2 * 0 + 1))).length c19, .slice r19 e19 f19]) :: (.int .i64 ((w0 : Nat) : Int)) :: (.slice p16 (dig B16 (2 ^ w0)).length c16) :: (.int .i64 ((n : Nat) : Int)) :: (.slice p18 (dig B16 n).length c18) :: (.tuple #[.slice p19 (dig B16 (2 ^ w0 / n ^ (2 * 0 + 1))).length c19, .slice r19 e19 f19]) :: (.slice p19 (dig B16 (2 ^ w0 / n ^ (2 * 0 + 1))).length c19) :: (.slice r19 e19 f19) :: undef :: undef :: undef :: undef :: undef :: undef :: undef :: undef :: undef :: undef :: undef :: undef :: undef :: undef :: undef :: undef :: undef :: undef :: undef :: undef :: undef :: undef :: undef :: undef :: undef :: undef :: undef :: undef :: undef :: undef :: undef :: undef :: undef :: undef :: undef :: undef :: []).toArray, []⟩) (by kernel_rfl) ?_
    refine sx_loop2 (fun (gk : Nat) U0 a' w' => ∃ (j : Nat) (p7 : Option Addr) (c7 : Nat) (p9 : Option Addr) (m9 : Nat) (c9 : Nat) (p10 : Option Addr) (m10 : Nat) (c10 : Nat), a' = ⟨((.int .i64 ((n : Nat) : Int)) :: (.int .i64 ((w0 : Nat) : Int)) :: (.bool false) :: undef :: undef :: undef :: (.slice none 0 0) :: (.slice p7 (dig B16 (2 ^ w0 / n ^ (2 * j + 1))).length c7) :: (.slice r19 e19 f19) :: (.slice p9 m9 c9) :: (.slice p10 m10 c10) :: (.int .i64 ((2 * j + 1 : Nat) : Int)) :: (U0 12) :: (U0 13) :: (.tuple #[.slice p19 (dig B16 (2 ^ w0 / n ^ (2 * 0 + 1))).length c19, .slice r19 e19 f19]) :: (.int .i64 ((w0 : Nat) : Int)) :: (.slice p16 (dig B16 (2 ^ w0)).length c16) :: (.int .i64 ((n : Nat) : Int)) :: (.slice p18 (dig B16 n).length c18) :: (.tuple #[.slice p19 (dig B16 (2 ^ w0 / n ^ (2 * 0 + 1))).length c19, .slice r19 e19 f19]) :: (.slice p19 (dig B16 (2 ^ w0 / n ^ (2 * 0 + 1))).length c19) :: (.slice r19 e19 f19) :: (U0 22) :: (U0 23) :: (U0 24) :: (U0 25) :: (U0 26) :: (U0 27) :: (U0 28) :: (U0 29) :: (U0 30) :: (U0 31) :: (U0 32) :: (U0 33) :: (U0 34) :: (U0 35) :: (U0 36) :: (U0 37) :: (U0 38) :: (U0 39) :: (U0 40) :: (U0 41) :: (U0 42) :: (U0 43) :: (U0 44) :: (U0 45) :: (U0 46) :: (U0 47) :: (U0 48) :: (U0 49) :: (U0 50) :: (U0 51) :: (U0 52) :: (U0 53) :: (U0 54) :: undef :: undef :: undef :: []).toArray, []⟩ ∧ (Rf w' w.heap.size p7 c7 (dig B16 (2 ^ w0 / n ^ (2 * j + 1)))) ∧ (Rf w' w.heap.size p9 c9 (dig B16 (sC (cP false) n w0 j))) ∧ (Rf w' w.heap.size p10 c10 (dig B16 (sC (cM false) n w0 j))) ∧ Below V3.heap.size V3 w' ∧ (gk + j = w0 + 2) ∧ (∀ i, i < j → n ^ (2 * i + 1) ≤ 2 ^ w0) ∧ (m9 = (dig B16 (sC (cP false) n w0 j)).length) ∧ (m10 = (dig B16 (sC (cM false) n w0 j)).length)) (w0 + 2) ?_ (fun Gx hGx => ?_)
    · skip
      exact ⟨0, p19, c19, none, 0, 0, none, 0, 0, by kernel_rfl, x19.mono (by omega), (by rw [show sC (cP false) n w0 0 = 0 from rfl, dig_zero]; exact rf_nil _ _ _), (by rw [show sC (cM false) n w0 0 = 0 from rfl, dig_zero]; exact rf_nil _ _ _), Below.refl _ _, (by omega), (fun i h => absurd h (by omega)), (by rw [show sC (cP false) n w0 0 = 0 from rfl, dig_zero]; rfl), (by rw [show sC (cM false) n w0 0 = 0 from rfl, dig_zero]; rfl)⟩
    rintro gk0 U0 _ V4 ⟨j, p7, c7, p9, m9, c9, p10, m10, c10, rfl, x7, x9, x10, hbV4, hj, hne, hm9, hm10⟩
    refine hGx _ _ _ ?_
    clear hGx Gx
    have hzV4 := hbV4.size
    have lx7 := fun h => x7.lt h
    have lx9 := fun h => x9.lt h
    have lx10 := fun h => x10.lt h
    have lX : (dig B16 (2 ^ w0 / n ^ (2 * j + 1))).length ≤ 942 := term_len16 (P := w0) (Nat.le_trans (Nat.div_le_self _ _) (by omega)) (by omega)
    have lP : (dig B16 (sC (cP false) n w0 j)).length ≤ 942 := term_len16 (P := w0) (sC_le _ (cP_le false) hn _) (by omega)
    have lM : (dig B16 (sC (cM false) n w0 j)).length ≤ 942 := term_len16 (P := w0) (sC_le _ (cM_le false) hn _) (by omega)
    have lT : (dig B16 (tj n w0 j)).length ≤ 942 := term_len16 (P := w0) (Nat.le_trans (Nat.div_le_self _ _) (by omega)) (by omega)
    refine wp_seq ?_
    refine wp_seq ?_
    refine sx_region ?_
    refine sv 22 (.slice p7 (dig B16 (2 ^ w0 / n ^ (2 * j + 1))).length c7) ?_
    refine sv 23 (.int .i64 (((dig B16 (2 ^ w0 / n ^ (2 * j + 1))).length : Nat) : Int)) ?_
    rcases Bool.eq_false_or_eq_true (decide ((((dig B16 (2 ^ w0 / n ^ (2 * j + 1))).length : Nat) : Int) > 0)) with f24 | f24
    · skip
      refine sv 24 (.bool true) ?_ (hr := ((show _ = Result.ok (Next.value (.bool (decide ((((dig B16 (2 ^ w0 / n ^ (2 * j + 1))).length : Nat) : Int) > 0)))) _ from (by kernel_rfl)).trans (congrArg (fun z => Result.ok (Next.value (.bool z)) _) (show (decide ((((dig B16 (2 ^ w0 / n ^ (2 * j + 1))).length : Nat) : Int) > 0)) = true from f24))))
      refine sx_nil ?_
      refine sx_then ?_
      refine wp_cond_true (by kernel_rfl) ?_
      refine wp_skip ?_
      refine sx_then ?_
      refine wp_seq ?_
      refine wp_block ?_
      refine wp_seq ?_
      refine sx_region ?_
      have hx := le_of_quot (n := n) (P := w0) (j := j) (pos_of_len16 (by have := of_decide_eq_true f24; omega))
      have hj2 := j_le hn hx
      have hx2 : ∀ i, i < j + 1 → n ^ (2 * i + 1) ≤ 2 ^ w0 := fun i hi => by rcases Nat.lt_or_ge i j with h | h; exact hne i h; rw [show i = j by omega]; exact hx
      have lJ : (dig B16 (2 * j + 1)).length ≤ 942 := term_len16 (P := w0) (Nat.le_trans hj2 (Nat.le_trans (Nat.le_of_lt Nat.lt_two_pow_self) (by omega))) (by omega)
      refine sv 28 (.slice p7 (dig B16 (2 ^ w0 / n ^ (2 * j + 1))).length c7) ?_
      refine sv 29 (.int .i64 ((2 * j + 1 : Nat) : Int)) ?_
      refine se 30 42 #[.int .i64 ((2 * j + 1 : Nat) : Int)] (fun Gx hGx => ?_)
      ((with_reducible refine (rfrom _ (2 * j + 1) rfl (by omega) _).mono ?_))
      rintro eV5 V5 ⟨p30, c30, rfl, x30, hbV5⟩
      have hzV5 := hbV5.size
      have lx30 := fun h => x30.lt h
      refine ⟨.slice p30 (dig B16 (2 * j + 1)).length c30, rfl, hGx _ _ ?_⟩
      clear hGx Gx
      replace x7 := (x7.past hbV5)
      refine se 31 46 #[.slice p7 (dig B16 (2 ^ w0 / n ^ (2 * j + 1))).length c7, .slice p30 (dig B16 (2 * j + 1)).length c30] (fun Gx hGx => ?_)
      ((with_reducible refine (rinto p7 p30 _ _ c7 c30 _ (2 * j + 1) (tj n w0 j) _ x7.rd x30.rd rfl rfl (by omega) (by omega) (by omega) (quot_term n w0 j)).mono ?_))
      rintro eV6 V6 ⟨p31, c31, r31, e31, f31, rfl, x31, hbV6⟩
      have hzV6 := hbV6.size
      have lx31 := fun h => x31.lt h
      refine ⟨.tuple #[.slice p31 (dig B16 (tj n w0 j)).length c31, .slice r31 e31 f31], rfl, hGx _ _ ?_⟩
      clear hGx Gx
      refine sv 27 (.tuple #[.slice p31 (dig B16 (tj n w0 j)).length c31, .slice r31 e31 f31]) ?_
      refine sv 32 (.slice p31 (dig B16 (tj n w0 j)).length c31) ?_
      refine sv 33 (.slice r31 e31 f31) ?_
      refine sv 12 (.slice p31 (dig B16 (tj n w0 j)).length c31) ?_
      refine sv 13 (.slice r31 e31 f31) ?_
      refine sx_nil ?_
      refine sx_then ?_
      refine wp_seq ?_
      refine wp_seq ?_
      refine sx_region ?_
      refine sv 34 (.bool false) ?_
      refine sv 35 (.bool false) ?_
      refine so (some 36) ?_
      refine so (some 37) ?_
      refine so (some 38) ?_
      refine sv 39 (.bool false) ?_
      refine sx_nil ?_
      refine sx_then ?_
      refine wp_cond_false (by kernel_rfl) ?_
      refine sx_region ?_
      refine sv 43 (.slice p9 m9 c9) ?_
      refine sv 44 (.slice p31 (dig B16 (tj n w0 j)).length c31) ?_
      replace x9 := (x9.past (bthru hbV5 hbV6))
      refine se 45 44 #[.slice p9 m9 c9, .slice p31 (dig B16 (tj n w0 j)).length c31] (fun Gx hGx => ?_)
      ((with_reducible refine (rplus p9 p31 m9 _ c9 c31 _ (tj n w0 j) (sC (cP false) n w0 (j + 1)) _ x9.rd x31.rd hm9 rfl (by omega) (by omega) (by simp only [sC]; rw [show cP false j = 1 by unfold cP; simp, Nat.one_mul])).mono ?_))
      rintro eV7 V7 ⟨p45, c45, rfl, x45, hbV7⟩
      have hzV7 := hbV7.size
      have lx45 := fun h => x45.lt h
      refine ⟨.slice p45 (dig B16 (sC (cP false) n w0 (j + 1))).length c45, rfl, hGx _ _ ?_⟩
      clear hGx Gx
      refine sv 9 (.slice p45 (dig B16 (sC (cP false) n w0 (j + 1))).length c45) ?_
      refine sx_nil ?_
      refine sx_then ?_
      refine sx_region ?_
      refine sv 47 (.slice p7 (dig B16 (2 ^ w0 / n ^ (2 * j + 1))).length c7) ?_
      refine sv 48 (.int .i64 ((n : Nat) : Int)) ?_
      refine sv 49 (.int .i64 ((n : Nat) : Int)) ?_
      refine sv 50 (.int .i64 ((n * n : Nat) : Int)) ?_ (hr := ((show _ = Result.ok (Next.value (.int .i64 (IntKind.wrap .i64 (((n : Nat) : Int) * ((n : Nat) : Int))))) _ by kernel_rfl).trans (congrArg (fun z => Result.ok (Next.value (.int .i64 z)) _) ((by rw [← Int.natCast_mul]; exact IntWalk.i64_in _ (by omega))))))
      refine se 51 42 #[.int .i64 ((n * n : Nat) : Int)] (fun Gx hGx => ?_)
      ((with_reducible refine (rfrom _ (n * n) rfl (by omega) _).mono ?_))
      rintro eV8 V8 ⟨p51, c51, rfl, x51, hbV8⟩
      have hzV8 := hbV8.size
      have lx51 := fun h => x51.lt h
      refine ⟨.slice p51 (dig B16 (n * n)).length c51, rfl, hGx _ _ ?_⟩
      clear hGx Gx
      replace x7 := (x7.past (bthru (bthru hbV6 hbV7) hbV8))
      refine se 52 46 #[.slice p7 (dig B16 (2 ^ w0 / n ^ (2 * j + 1))).length c7, .slice p51 (dig B16 (n * n)).length c51] (fun Gx hGx => ?_)
      ((with_reducible refine (rinto p7 p51 _ _ c7 c51 _ (n * n) _ _ x7.rd x51.rd rfl rfl (by omega) (by omega) (by omega) (quot_next n w0 j)).mono ?_))
      rintro eV9 V9 ⟨p52, c52, r52, e52, f52, rfl, x52, hbV9⟩
      have hzV9 := hbV9.size
      have lx52 := fun h => x52.lt h
      refine ⟨.tuple #[.slice p52 (dig B16 (2 ^ w0 / n ^ (2 * (j + 1) + 1))).length c52, .slice r52 e52 f52], rfl, hGx _ _ ?_⟩
      clear hGx Gx
      refine sv 46 (.tuple #[.slice p52 (dig B16 (2 ^ w0 / n ^ (2 * (j + 1) + 1))).length c52, .slice r52 e52 f52]) ?_
      refine sv 53 (.slice p52 (dig B16 (2 ^ w0 / n ^ (2 * (j + 1) + 1))).length c52) ?_
      refine sv 54 (.slice r52 e52 f52) ?_
      refine sv 7 (.slice p52 (dig B16 (2 ^ w0 / n ^ (2 * (j + 1) + 1))).length c52) ?_
      refine sx_nil ?_
      refine sx_inblock ?_
      refine sx_then ?_
      refine sx_region ?_
      refine sv 25 (.int .i64 ((2 * j + 1 : Nat) : Int)) ?_
      refine sv 26 (.int .i64 ((2 * (j + 1) + 1 : Nat) : Int)) ?_ (hr := ((show _ = Result.ok (Next.value (.int .i64 (IntKind.wrap .i64 (((2 * j + 1 : Nat) : Int) + 2)))) _ by kernel_rfl).trans (congrArg (fun z => Result.ok (Next.value (.int .i64 z)) _) ((by rw [show (((2 * j + 1 : Nat) : Int) + 2) = ((2 * (j + 1) + 1 : Nat) : Int) by omega]; exact IntWalk.i64_in _ (by omega))))))
      refine sv 11 (.int .i64 ((2 * (j + 1) + 1 : Nat) : Int)) ?_
      refine sx_nil ?_
      refine sx_then ?_
      refine ⟨gk0 - 1, (by omega), ?_⟩
      replace x45 := (x45.past (bthru hbV8 hbV9))
      replace x10 := (x10.past (bthru (bthru (bthru (bthru hbV5 hbV6) hbV7) hbV8) hbV9))
      exact ⟨j + 1, p52, c52, p45, (dig B16 (sC (cP false) n w0 (j + 1))).length, c45, p10, m10, c10, by kernel_rfl, x52.mono (by omega), x45.mono (by omega), (by rw [show sC (cM false) n w0 (j + 1) = sC (cM false) n w0 j by simp only [sC]; rw [show cM false j = 0 by unfold cM; simp]; omega]; exact x10), (bthru (bthru (bthru (bthru (bthru hbV4 hbV5) hbV6) hbV7) hbV8) hbV9), (by omega), hx2, rfl, (by rw [show sC (cM false) n w0 (j + 1) = sC (cM false) n w0 j by simp only [sC]; rw [show cM false j = 0 by unfold cM; simp]; omega]; exact hm10)⟩
    refine sv 24 (.bool false) ?_ (hr := ((show _ = Result.ok (Next.value (.bool (decide ((((dig B16 (2 ^ w0 / n ^ (2 * j + 1))).length : Nat) : Int) > 0)))) _ from (by kernel_rfl)).trans (congrArg (fun z => Result.ok (Next.value (.bool z)) _) (show (decide ((((dig B16 (2 ^ w0 / n ^ (2 * j + 1))).length : Nat) : Int) > 0)) = false from f24))))
    refine sx_nil ?_
    refine sx_then ?_
    refine wp_cond_false (by kernel_rfl) ?_
    refine wp_exit ?_
    repeat (with_reducible refine sx_thenexit ?_)
    refine sx_exit (id := 0) ?_
    refine sx_then ?_
    refine wp_seq ?_
    refine sx_region ?_
    refine sv 55 (.slice p9 m9 c9) ?_
    refine sv 56 (.slice p10 m10 c10) ?_
    refine se 57 43 #[.slice p9 m9 c9, .slice p10 m10 c10] (fun Gx hGx => ?_)
    ((with_reducible refine (rless p9 p10 _ _ c9 c10 _ _ (sI false n w0 j).toNat _ x9.rd x10.rd hm9 hm10 (by omega) (by have h := sI_pos false (P := w0) hn j; unfold sI at h; omega) (by unfold sI; omega)).mono ?_))
    rintro eV5 V5 ⟨p57, c57, rfl, x57, hbV5⟩
    have hzV5 := hbV5.size
    have lx57 := fun h => x57.lt h
    refine ⟨.slice p57 (dig B16 (sI false n w0 j).toNat).length c57, rfl, hGx _ _ ?_⟩
    clear hGx Gx
    refine sv 6 (.slice p57 (dig B16 (sI false n w0 j).toNat).length c57) ?_
    refine sx_nil ?_
    refine sx_then ?_
    refine wp_ret ?_
    repeat (first | with_reducible refine sx_thenret ?_ | with_reducible refine sx_blockret ?_)
    refine bodyPost_ret (v := .slice p57 (dig B16 (sI false n w0 j).toNat).length c57) (by simp [results, Tryd.results20, go_sem]) rfl ?_
    have hIJ : IsJ n w0 j := isJ_of ((dig_len_zero B16_two _).1 (by have := of_decide_eq_false f24; omega)) hne (by omega)
    have hIJ2 := isJ_le hn hIJ
    have he : An false n w0 = sI false n w0 j := by unfold An; rw [sI_stop false hn hIJ (by omega)]
    rw [he]
    exact ⟨p57, c57, rfl, x57.mono (by omega), (bthru (bthru (bthru (bthru hbV1 hbV2) hbV3) hbV4) hbV5)⟩

end Go.Proofs.YtehodhanojgkgaaDoor
