/- What the series call, said of whole numbers over one power of 2.
   series: Whole; Odd.
   series: Pi, Ln2, Atanh, Atan.
   series: RawPi, RawLn2; Pi, Ln2, Atanh, Atan. -/
import Derived.Test.YtehodhanojgkgaaDoorZA
import Derived.Test.YtehodhanojgkgaaDoorZX
import Derived.Test.YtehodhanojgkgaaDoorZJ
import Derived.Test.YtehodhanojgkgaaDoorZLimb13
import Derived.Test.YtehodhanojgkgaaDoorZC
import Derived.Test.YtehodhanojgkgaaDoorZE
namespace Go.Proofs.YtehodhanojgkgaaDoor
open Go.RowKit Go.Slip

theorem sof (N : Int) (n : Nat) (h : N = n) (hn : n < 9223372036854775808) (w : World) : Calls Tryd.prog 75 #[.int .i64 N] w (Gives w .u32 58 (dig B32 n)) := by
  subst h; exact of_any n w hn

/-- A quotient alone. -/
def GivesQ1 (w : World) (x : Nat) (en : Ending) (w' : World) : Prop :=
  ∃ p c r e f, en = .returned (.tuple #[.slice p (dig B32 x).length c, .slice r e f]) ∧ Own w' w.heap.size .u32 58 p c (dig B32 x) ∧ Below w.heap.size w w'

theorem sdiv (p q : Option Addr) (n m c d : Nat) (a b x : Nat) (w : World) (hp : Rd w .u32 p (dig B32 a)) (hq : Rd w .u32 q (dig B32 b)) (hn : n = (dig B32 a).length) (hm : m = (dig B32 b).length)
    (hl : (dig B32 a).length ≤ 100000000) (hl2 : (dig B32 b).length ≤ 100000000) (hb : 0 < b) (h : a / b = x) :
    Calls Tryd.prog 85 #[.slice p n c, .slice q m d] w (GivesQ1 w x) := by
  subst h
  exact (limbDiv_any p q n m c d a b w hp hq hn hm hl hl2 hb).mono fun e w' ⟨p, c, q, d, h1, h2, _, h4, _⟩ => ⟨p, c, q, _, d, h1, h2, h4⟩

theorem sadd (p q : Option Addr) (n m c d : Nat) (a b x : Nat) (w : World) (hp : Rd w .u32 p (dig B32 a)) (hq : Rd w .u32 q (dig B32 b)) (hn : n = (dig B32 a).length) (hm : m = (dig B32 b).length)
    (hl : (dig B32 a).length ≤ 1000000000) (hl2 : (dig B32 b).length ≤ 1000000000) (h : a + b = x) :
    Calls Tryd.prog 74 #[.slice p n c, .slice q m d] w (Gives w .u32 58 (dig B32 x)) := by
  subst h; exact add_any p q n m c d a b w hp hq hn hm hl hl2

theorem norm_nat (m : Nat) (E : Int) : bare ⟨false, m, E⟩ = norm (m : Int) E := (norm_sg false m E).symm

theorem swhole (p : Option Addr) (n c : Nat) (E F : Int) (m : Nat) (z : Int) (w : World) (hp : Rd w .u32 p (dig B32 m)) (hn : n = (dig B32 m).length) (hc : n ≤ c) (hl : (dig B32 m).length ≤ 10000000)
    (he : -1000000000 ≤ E ∧ E ≤ 1000000000) (hT : TabW w) (hz : (m : Int) = z) (hF : E = F) :
    Calls Tryd.prog 86 #[.slice p n c, .int .i64 E] w (GivesD w w.heap.size (norm z F)) := by
  subst hz hF
  rw [← norm_nat]
  exact whole_any p n c E m w hp hn hc hl he hT

theorem sopp (z y E : Int) (p : Option Addr) (c base : Nat) (w : World) (h : Own w base .u32 58 p c (dig B32 (norm z E).m)) (hy : -z = y) :
    Calls Tryd.prog 87 #[.agg #[.bool (norm z E).neg, .slice p (dig B32 (norm z E).m).length c, .int .i64 (norm z E).e]] w
      fun en w' => en = .returned (.agg #[.bool (norm y E).neg, .slice p (dig B32 (norm y E).m).length c, .int .i64 (norm y E).e]) ∧ Own w' base .u32 58 p c (dig B32 (norm y E).m) ∧ Below w.heap.size w w' := by
  subst hy
  rw [← dMinus_nn]
  refine (opp_any (norm z E).neg p _ c (norm z E).e (norm z E).m w rfl).mono fun en w' ⟨h1, h2⟩ => ⟨h1, h.past h2, h2⟩

theorem splus (z y x : Int) (w0 : Nat) (E : Int) (p q : Option Addr) (c d base : Nat) (w : World) (hE : E = -(w0 : Int)) (hw : w0 ≤ 15000) (hp : Own w base .u32 58 p c (dig B32 (norm z E).m)) (hq : Own w base .u32 58 q d (dig B32 (norm y E).m))
    (hz : Small z) (hy : Small y) (hT : TabW w) (hbase : base ≤ w.heap.size) (hx : z + y = x) :
    Calls Tryd.prog 84 #[.agg #[.bool (norm z E).neg, .slice p (dig B32 (norm z E).m).length c, .int .i64 (norm z E).e], .agg #[.bool (norm y E).neg, .slice q (dig B32 (norm y E).m).length d, .int .i64 (norm y E).e]] w (GivesD w base (norm x E)) := by
  subst hE hx
  obtain ⟨a1, a2, a3⟩ := len_nn z w0 hw hz
  obtain ⟨b1, b2, b3⟩ := len_nn y w0 hw hy
  have := plusD_any (norm z (-w0)).neg (norm y (-w0)).neg p q _ c _ d base (norm z (-w0)).e (norm y (-w0)).e (norm z (-w0)).m (norm y (-w0)).m w hp hq rfl rfl (by omega) (by omega) (by omega) (by omega) hT hbase
  rw [show pPlus ⟨(norm z (-w0)).neg, (norm z (-w0)).m, (norm z (-w0)).e⟩ ⟨(norm y (-w0)).neg, (norm y (-w0)).m, (norm y (-w0)).e⟩ = pPlus (norm z (-w0)) (norm y (-w0)) from rfl, pPlus_eq (norm_bare _ _) (norm_bare _ _), rPlus_nn] at this
  exact this

end Go.Proofs.YtehodhanojgkgaaDoor

namespace Go.Slip

theorem isJ_of {n P j : Nat} (h : 2 ^ P / n ^ (2 * j + 1) = 0) (k : ∀ i, i < j → n ^ (2 * i + 1) ≤ 2 ^ P) (hn : 0 < n) : IsJ n P j := by
  refine ⟨?_, k⟩
  have h0 : 0 < n ^ (2 * j + 1) := Nat.pow_pos hn
  rcases Nat.lt_or_ge (2 ^ P) (n ^ (2 * j + 1)) with h1 | h1
  · exact h1
  · have := Nat.div_pos h1 h0; omega
theorem pos_of_len {x : Nat} (h : 0 < (dig B32 x).length) : 0 < x := by
  rcases Nat.eq_zero_or_pos x with h1 | h1
  · rw [h1, dig_zero] at h; simp at h
  · exact h1
theorem le_of_quot {n P j : Nat} (h : 0 < 2 ^ P / n ^ (2 * j + 1)) : n ^ (2 * j + 1) ≤ 2 ^ P := by
  rcases Nat.lt_or_ge (2 ^ P) (n ^ (2 * j + 1)) with h1 | h1
  · rw [Nat.div_eq_of_lt h1] at h; omega
  · exact h1
theorem j_le {n P j : Nat} (hn : 2 ≤ n) (h : n ^ (2 * j + 1) ≤ 2 ^ P) : 2 * j + 1 ≤ P :=
  (Nat.pow_le_pow_iff_right (show 1 < 2 by omega)).1 (Nat.le_trans (pow_two_le hn _) h)
theorem term_len {P x : Nat} (h : x ≤ 2 * 2 ^ P) (hP : P ≤ 15000) : (dig B32 x).length ≤ 471 := by
  have h1 : x < 2 ^ (P + 2) := by rw [Nat.pow_add]; have : 0 < 2 ^ P := Nat.pow_pos (by omega); omega
  have := blen_len x (P + 2) ((blen_le _ _).2 h1)
  omega
theorem quot_next (n P j : Nat) : 2 ^ P / n ^ (2 * j + 1) / (n * n) = 2 ^ P / n ^ (2 * (j + 1) + 1) := by
  rw [Nat.div_div_eq_div_mul, show n ^ (2 * (j + 1) + 1) = n ^ (2 * j + 1) * (n * n) from by rw [show 2 * (j + 1) + 1 = (2 * j + 1) + 1 + 1 by omega, Nat.pow_succ, Nat.pow_succ, Nat.mul_assoc]]
theorem quot_term (n P j : Nat) : 2 ^ P / n ^ (2 * j + 1) / (2 * j + 1) = tj n P j := by unfold tj; rw [Nat.div_div_eq_div_mul]
theorem small_sC {c : Nat → Nat} (hc : ∀ j, c j ≤ 1) {n P : Nat} (hn : 2 ≤ n) (J : Nat) (hP : P ≤ 2000) : Small (sC c n P J) := by
  have := sC_le c hc (P := P) hn J
  exact small_of (k := P + 2) (by rw [Nat.pow_add]; have : 0 < 2 ^ P := Nat.pow_pos (by omega); omega) (by omega)
theorem small_sI (t : Bool) {n P : Nat} (hn : 2 ≤ n) (J : Nat) (hP : P ≤ 2000) : Small (sI t n P J) := by
  have h1 := sC_le (cP t) (cP_le t) (P := P) hn J
  have h2 := sC_le (cM t) (cM_le t) (P := P) hn J
  have h0 : 0 < 2 ^ P := Nat.pow_pos (by omega)
  exact small_of (k := P + 3) (by rw [Nat.pow_add]; unfold sI; omega) (by omega)
theorem small_nat {x : Nat} {k : Nat} (h : x < 2 ^ k) (hk : k ≤ 8000) : Small (x : Int) := small_of (k := k) (by simpa using h) hk
theorem small_neg {x : Int} (h : Small x) : Small (-x) := by unfold Small at *; rwa [Int.natAbs_neg]

end Go.Slip
namespace Go.Proofs.YtehodhanojgkgaaDoor
open Go.RowKit Go.Slip

theorem point_any (v : Bool) (p : Option Addr) (m c : Nat) (e : Int) (w : World) :
    Calls Tryd.prog 88 #[.agg #[.bool v, .slice p m c, .int .i64 e]] w fun en w' => en = .returned (.agg #[.bool v, .slice p m c, .int .i64 e, .bool v, .slice p m c, .int .i64 e]) ∧ Below w.heap.size w w' := by
  have hT62 : SxAgg Tryd.prog 62 3 := sxAgg_of (by kernel_rfl) (by kernel_rfl)
  have hT64 : SxAgg Tryd.prog 64 6 := sxAgg_of (by kernel_rfl) (by kernel_rfl)
  refine calls_of_wp Tryd.func88 rfl ?_
  refine sx_frame (a' := ⟨((.agg #[.bool v, .slice p m c, .int .i64 e]) :: undef :: undef :: undef :: undef :: undef :: []).toArray, []⟩) (by kernel_rfl) ?_
  refine wp_seq ?_
  refine sx_region ?_
  refine sn 1 #[.bool v, .slice p m c, .int .i64 e] 62 (fun V1 hbV1 hzV1 b1 => ?_)
  refine sn 2 #[.bool false, .slice none 0 0, .int .i64 0, .bool false, .slice none 0 0, .int .i64 0] 64 (fun V2 hbV2 hzV2 b2 => ?_)
  refine sx_nil ?_
  refine sx_then ?_
  refine wp_seq ?_
  refine sx_region ?_
  replace b1 := (b1.past hbV2)
  refine sv 3 (.agg #[.bool v, .slice p m c, .int .i64 e]) ?_ (hr := (exec_ld (by kernel_rfl) (run_ld b1 hT62 0 [.bool v, .slice p m c, .int .i64 e] (by kernel_rfl) (by kernel_rfl))))
  refine sv 4 (.agg #[.bool v, .slice p m c, .int .i64 e]) ?_ (hr := (exec_ld (by kernel_rfl) (run_ld b1 hT62 0 [.bool v, .slice p m c, .int .i64 e] (by kernel_rfl) (by kernel_rfl))))
  refine sv 5 (.agg #[.bool v, .slice p m c, .int .i64 e, .bool v, .slice p m c, .int .i64 e]) ?_
  refine ss none b2 hT64 0 #[.bool v, .slice p m c, .int .i64 e, .bool v, .slice p m c, .int .i64 e] #[.bool v, .slice p m c, .int .i64 e, .bool v, .slice p m c, .int .i64 e] ?_
  have boV3 := b2
  clear b2
  intro V3 hOV3 b2
  have hzV3 := hOV3.size
  refine sx_nil ?_
  refine sx_then ?_
  refine wp_ret ?_
  have ⟨b2_0, b2_1, b2_2, b2_3, b2_4, b2_5⟩ := b2.bx.e6
  repeat (first | with_reducible refine sx_thenret ?_ | with_reducible refine sx_blockret ?_)
  refine bodyPost_ret (v := .agg #[.bool v, .slice p m c, .int .i64 e, .bool v, .slice p m c, .int .i64 e]) (by simp [results, Tryd.results88, go_sem, b2_0, b2_1, b2_2, b2_3, b2_4, b2_5]) rfl ?_
  exact ⟨rfl, ((bthru hbV1 hbV2).trans (hOV3.below (by omega)))⟩

set_option maxHeartbeats 2000000 in
set_option maxRecDepth 100000 in
/-- A whole number as a ball. -/
theorem serWhole_any (n : Int) (w : World) (hn : -100000 ≤ n ∧ n ≤ 100000) (hT : TabW w) :
    Calls Tryd.prog 61 #[.int .i64 n] w fun en w' => ∃ p c, en = .returned (.agg #[.bool (norm n 0).neg, .slice p (dig B32 (norm n 0).m).length c, .int .i64 (norm n 0).e, .bool (norm n 0).neg, .slice p (dig B32 (norm n 0).m).length c, .int .i64 (norm n 0).e]) ∧
      Own w' w.heap.size .u32 58 p c (dig B32 (norm n 0).m) ∧ Below w.heap.size w w' := by
  have hl : (dig B32 n.natAbs).length ≤ 100 := by rw [dig_len_le B32_two]; exact Nat.lt_of_lt_of_le (show n.natAbs < B32 ^ 1 by unfold B32; omega) (Nat.pow_le_pow_right (by unfold B32; omega) (by omega))
  by_cases h : n < 0
  · skip
    have hT62 : SxAgg Tryd.prog 62 3 := sxAgg_of (by kernel_rfl) (by kernel_rfl)
    have hT64 : SxAgg Tryd.prog 64 6 := sxAgg_of (by kernel_rfl) (by kernel_rfl)
    refine calls_of_wp Tryd.func61 rfl ?_
    refine sx_frame (a' := ⟨((.int .i64 n) :: undef :: undef :: undef :: undef :: undef :: undef :: undef :: undef :: undef :: undef :: undef :: undef :: undef :: undef :: undef :: []).toArray, []⟩) (by kernel_rfl) ?_
    refine wp_seq ?_
    refine sx_region ?_
    refine sn 2 #[.bool false, .slice none 0 0, .int .i64 0, .bool false, .slice none 0 0, .int .i64 0] 64 (fun V1 hbV1 hzV1 b2 => ?_)
    refine sx_nil ?_
    refine sx_then ?_
    refine wp_seq ?_
    refine sx_region ?_
    refine sv 4 (.int .i64 n) ?_
    refine sv 5 (.int .i64 n) ?_
    refine sv 6 (.int .i64 (-n)) ?_ (hr := ((show _ = Result.ok (Next.value (.int .i64 (IntKind.wrap .i64 (0 - n)))) _ by kernel_rfl).trans (congrArg (fun z => Result.ok (Next.value (.int .i64 z)) _) ((IntWalk.i64_in _ (by omega)).trans (by omega)))))
    refine sv 7 (.int .i64 ((n.natAbs : Nat) : Int)) ?_ (hr := ((show _ = Result.ok (Next.value (.int .i64 (if (((-n)) : Int) > (n) then (-n) else n))) _ by kernel_rfl).trans (congrArg (fun z => Result.ok (Next.value (.int .i64 z)) _) ((by split <;> omega)))))
    refine se 8 75 #[.int .i64 ((n.natAbs : Nat) : Int)] (fun Gx hGx => ?_)
    ((with_reducible refine (sof _ n.natAbs rfl (by omega) V1).mono ?_))
    rintro eV2 V2 ⟨p8, c8, rfl, ho8, hbV2⟩
    have hzV2 := hbV2.size
    refine ⟨.slice p8 (dig B32 n.natAbs).length c8, rfl, hGx _ _ ?_⟩
    clear hGx Gx
    replace hT := (hT.past (bthru hbV1 hbV2))
    refine se 9 86 #[.slice p8 (dig B32 n.natAbs).length c8, .int .i64 0] (fun Gx hGx => ?_)
    ((with_reducible refine (swhole p8 _ c8 0 0 n.natAbs (-n) _ ho8.rd rfl ho8.le_cap (by omega) (by omega) hT (by omega) rfl).mono ?_))
    rintro eV3 V3 ⟨p9, c9, rfl, ho9, hbV3⟩
    have hzV3 := hbV3.size
    refine ⟨.agg #[.bool ((norm (-n) 0).neg), .slice p9 (dig B32 (norm (-n) 0).m).length c9, .int .i64 ((norm (-n) 0).e)], rfl, hGx _ _ ?_⟩
    clear hGx Gx
    refine sn 3 #[.bool false, .slice none 0 0, .int .i64 0] 62 (fun V4 hbV4 hzV4 b3 => ?_)
    refine ss none b3 hT62 0 #[.bool ((norm (-n) 0).neg), .slice p9 (dig B32 (norm (-n) 0).m).length c9, .int .i64 ((norm (-n) 0).e)] #[.bool ((norm (-n) 0).neg), .slice p9 (dig B32 (norm (-n) 0).m).length c9, .int .i64 ((norm (-n) 0).e)] ?_
    have boV5 := b3
    clear b3
    intro V5 hOV5 b3
    have hzV5 := hOV5.size
    refine sx_nil ?_
    refine sx_then ?_
    refine wp_seq ?_
    refine wp_seq ?_
    refine sx_region ?_
    refine sv 10 (.int .i64 n) ?_
    refine sv 11 (.bool true) ?_ (hr := ((show _ = Result.ok (Next.value (.bool (decide (n < 0)))) _ from (by kernel_rfl)).trans (congrArg (fun z => Result.ok (Next.value (.bool z)) _) (show (decide (n < 0)) = true from decide_eq_true h))))
    refine sx_nil ?_
    refine sx_then ?_
    refine wp_cond_true (by kernel_rfl) ?_
    refine sx_region ?_
    refine sv 12 (.agg #[.bool ((norm (-n) 0).neg), .slice p9 (dig B32 (norm (-n) 0).m).length c9, .int .i64 ((norm (-n) 0).e)]) ?_ (hr := (exec_ld (by kernel_rfl) (run_ld b3 hT62 0 [.bool ((norm (-n) 0).neg), .slice p9 (dig B32 (norm (-n) 0).m).length c9, .int .i64 ((norm (-n) 0).e)] (by kernel_rfl) (by kernel_rfl))))
    replace ho9 := (ho9.past (hbV4.trans (hOV5.below (by omega))))
    refine se 13 87 #[.agg #[.bool ((norm (-n) 0).neg), .slice p9 (dig B32 (norm (-n) 0).m).length c9, .int .i64 ((norm (-n) 0).e)]] (fun Gx hGx => ?_)
    ((with_reducible refine (sopp (-n) n 0 p9 c9 _ _ ho9 (by omega)).mono ?_))
    rintro eV6 V6 ⟨rfl, ho13, hbV6⟩
    have hzV6 := hbV6.size
    refine ⟨.agg #[.bool ((norm n 0).neg), .slice p9 (dig B32 (norm n 0).m).length c9, .int .i64 ((norm n 0).e)], rfl, hGx _ _ ?_⟩
    clear hGx Gx
    replace b3 := (b3.past hbV6)
    refine ss none b3 hT62 0 #[.bool ((norm n 0).neg), .slice p9 (dig B32 (norm n 0).m).length c9, .int .i64 ((norm n 0).e)] #[.bool ((norm n 0).neg), .slice p9 (dig B32 (norm n 0).m).length c9, .int .i64 ((norm n 0).e)] ?_
    have boV7 := b3
    clear b3
    intro V7 hOV7 b3
    have hzV7 := hOV7.size
    refine sx_nil ?_
    refine sx_then ?_
    refine wp_seq ?_
    refine sx_region ?_
    refine sv 14 (.agg #[.bool ((norm n 0).neg), .slice p9 (dig B32 (norm n 0).m).length c9, .int .i64 ((norm n 0).e)]) ?_ (hr := (exec_ld (by kernel_rfl) (run_ld b3 hT62 0 [.bool ((norm n 0).neg), .slice p9 (dig B32 (norm n 0).m).length c9, .int .i64 ((norm n 0).e)] (by kernel_rfl) (by kernel_rfl))))
    refine se 15 88 #[.agg #[.bool ((norm n 0).neg), .slice p9 (dig B32 (norm n 0).m).length c9, .int .i64 ((norm n 0).e)]] (fun Gx hGx => ?_)
    ((with_reducible refine (point_any _ p9 _ c9 _ _).mono ?_))
    rintro eV8 V8 ⟨rfl, hbV8⟩
    have hzV8 := hbV8.size
    refine ⟨.agg #[.bool ((norm n 0).neg), .slice p9 (dig B32 (norm n 0).m).length c9, .int .i64 ((norm n 0).e), .bool ((norm n 0).neg), .slice p9 (dig B32 (norm n 0).m).length c9, .int .i64 ((norm n 0).e)], rfl, hGx _ _ ?_⟩
    clear hGx Gx
    replace b2 := (b2.past (bthru ((bthru ((bthru (bthru hbV2 hbV3) hbV4).trans (hOV5.below (by omega))) hbV6).trans (hOV7.below (by omega))) hbV8))
    refine ss none b2 hT64 0 #[.bool ((norm n 0).neg), .slice p9 (dig B32 (norm n 0).m).length c9, .int .i64 ((norm n 0).e), .bool ((norm n 0).neg), .slice p9 (dig B32 (norm n 0).m).length c9, .int .i64 ((norm n 0).e)] #[.bool ((norm n 0).neg), .slice p9 (dig B32 (norm n 0).m).length c9, .int .i64 ((norm n 0).e), .bool ((norm n 0).neg), .slice p9 (dig B32 (norm n 0).m).length c9, .int .i64 ((norm n 0).e)] ?_
    have boV9 := b2
    clear b2
    intro V9 hOV9 b2
    have hzV9 := hOV9.size
    refine sx_nil ?_
    refine sx_then ?_
    refine wp_ret ?_
    have ⟨b2_0, b2_1, b2_2, b2_3, b2_4, b2_5⟩ := b2.bx.e6
    repeat (first | with_reducible refine sx_thenret ?_ | with_reducible refine sx_blockret ?_)
    refine bodyPost_ret (v := .agg #[.bool ((norm n 0).neg), .slice p9 (dig B32 (norm n 0).m).length c9, .int .i64 ((norm n 0).e), .bool ((norm n 0).neg), .slice p9 (dig B32 (norm n 0).m).length c9, .int .i64 ((norm n 0).e)]) (by simp [results, Tryd.results61, go_sem, b2_0, b2_1, b2_2, b2_3, b2_4, b2_5]) rfl ?_
    replace ho13 := (((ho13.put boV7 hOV7 (by kernel_rfl)).past hbV8).put boV9 hOV9 (by kernel_rfl))
    exact ⟨p9, c9, rfl, ho13.mono (by omega), ((bthru ((bthru ((bthru (bthru (bthru hbV1 hbV2) hbV3) hbV4).trans (hOV5.below (by omega))) hbV6).trans (hOV7.below (by omega))) hbV8).trans (hOV9.below (by omega)))⟩
  · skip
    have hT62 : SxAgg Tryd.prog 62 3 := sxAgg_of (by kernel_rfl) (by kernel_rfl)
    have hT64 : SxAgg Tryd.prog 64 6 := sxAgg_of (by kernel_rfl) (by kernel_rfl)
    refine calls_of_wp Tryd.func61 rfl ?_
    refine sx_frame (a' := ⟨((.int .i64 n) :: undef :: undef :: undef :: undef :: undef :: undef :: undef :: undef :: undef :: undef :: undef :: undef :: undef :: undef :: undef :: []).toArray, []⟩) (by kernel_rfl) ?_
    refine wp_seq ?_
    refine sx_region ?_
    refine sn 2 #[.bool false, .slice none 0 0, .int .i64 0, .bool false, .slice none 0 0, .int .i64 0] 64 (fun V1 hbV1 hzV1 b2 => ?_)
    refine sx_nil ?_
    refine sx_then ?_
    refine wp_seq ?_
    refine sx_region ?_
    refine sv 4 (.int .i64 n) ?_
    refine sv 5 (.int .i64 n) ?_
    refine sv 6 (.int .i64 (-n)) ?_ (hr := ((show _ = Result.ok (Next.value (.int .i64 (IntKind.wrap .i64 (0 - n)))) _ by kernel_rfl).trans (congrArg (fun z => Result.ok (Next.value (.int .i64 z)) _) ((IntWalk.i64_in _ (by omega)).trans (by omega)))))
    refine sv 7 (.int .i64 ((n.natAbs : Nat) : Int)) ?_ (hr := ((show _ = Result.ok (Next.value (.int .i64 (if (((-n)) : Int) > (n) then (-n) else n))) _ by kernel_rfl).trans (congrArg (fun z => Result.ok (Next.value (.int .i64 z)) _) ((by split <;> omega)))))
    refine se 8 75 #[.int .i64 ((n.natAbs : Nat) : Int)] (fun Gx hGx => ?_)
    ((with_reducible refine (sof _ n.natAbs rfl (by omega) V1).mono ?_))
    rintro eV2 V2 ⟨p8, c8, rfl, ho8, hbV2⟩
    have hzV2 := hbV2.size
    refine ⟨.slice p8 (dig B32 n.natAbs).length c8, rfl, hGx _ _ ?_⟩
    clear hGx Gx
    replace hT := (hT.past (bthru hbV1 hbV2))
    refine se 9 86 #[.slice p8 (dig B32 n.natAbs).length c8, .int .i64 0] (fun Gx hGx => ?_)
    ((with_reducible refine (swhole p8 _ c8 0 0 n.natAbs n _ ho8.rd rfl ho8.le_cap (by omega) (by omega) hT (by omega) rfl).mono ?_))
    rintro eV3 V3 ⟨p9, c9, rfl, ho9, hbV3⟩
    have hzV3 := hbV3.size
    refine ⟨.agg #[.bool ((norm n 0).neg), .slice p9 (dig B32 (norm n 0).m).length c9, .int .i64 ((norm n 0).e)], rfl, hGx _ _ ?_⟩
    clear hGx Gx
    refine sn 3 #[.bool false, .slice none 0 0, .int .i64 0] 62 (fun V4 hbV4 hzV4 b3 => ?_)
    refine ss none b3 hT62 0 #[.bool ((norm n 0).neg), .slice p9 (dig B32 (norm n 0).m).length c9, .int .i64 ((norm n 0).e)] #[.bool ((norm n 0).neg), .slice p9 (dig B32 (norm n 0).m).length c9, .int .i64 ((norm n 0).e)] ?_
    have boV5 := b3
    clear b3
    intro V5 hOV5 b3
    have hzV5 := hOV5.size
    refine sx_nil ?_
    refine sx_then ?_
    refine wp_seq ?_
    refine wp_seq ?_
    refine sx_region ?_
    refine sv 10 (.int .i64 n) ?_
    refine sv 11 (.bool false) ?_ (hr := ((show _ = Result.ok (Next.value (.bool (decide (n < 0)))) _ from (by kernel_rfl)).trans (congrArg (fun z => Result.ok (Next.value (.bool z)) _) (show (decide (n < 0)) = false from decide_eq_false h))))
    refine sx_nil ?_
    refine sx_then ?_
    refine wp_cond_false (by kernel_rfl) ?_
    refine wp_skip ?_
    refine sx_then ?_
    refine wp_seq ?_
    refine sx_region ?_
    refine sv 14 (.agg #[.bool ((norm n 0).neg), .slice p9 (dig B32 (norm n 0).m).length c9, .int .i64 ((norm n 0).e)]) ?_ (hr := (exec_ld (by kernel_rfl) (run_ld b3 hT62 0 [.bool ((norm n 0).neg), .slice p9 (dig B32 (norm n 0).m).length c9, .int .i64 ((norm n 0).e)] (by kernel_rfl) (by kernel_rfl))))
    refine se 15 88 #[.agg #[.bool ((norm n 0).neg), .slice p9 (dig B32 (norm n 0).m).length c9, .int .i64 ((norm n 0).e)]] (fun Gx hGx => ?_)
    ((with_reducible refine (point_any _ p9 _ c9 _ _).mono ?_))
    rintro eV6 V6 ⟨rfl, hbV6⟩
    have hzV6 := hbV6.size
    refine ⟨.agg #[.bool ((norm n 0).neg), .slice p9 (dig B32 (norm n 0).m).length c9, .int .i64 ((norm n 0).e), .bool ((norm n 0).neg), .slice p9 (dig B32 (norm n 0).m).length c9, .int .i64 ((norm n 0).e)], rfl, hGx _ _ ?_⟩
    clear hGx Gx
    replace b2 := (b2.past (bthru ((bthru (bthru hbV2 hbV3) hbV4).trans (hOV5.below (by omega))) hbV6))
    refine ss none b2 hT64 0 #[.bool ((norm n 0).neg), .slice p9 (dig B32 (norm n 0).m).length c9, .int .i64 ((norm n 0).e), .bool ((norm n 0).neg), .slice p9 (dig B32 (norm n 0).m).length c9, .int .i64 ((norm n 0).e)] #[.bool ((norm n 0).neg), .slice p9 (dig B32 (norm n 0).m).length c9, .int .i64 ((norm n 0).e), .bool ((norm n 0).neg), .slice p9 (dig B32 (norm n 0).m).length c9, .int .i64 ((norm n 0).e)] ?_
    have boV7 := b2
    clear b2
    intro V7 hOV7 b2
    have hzV7 := hOV7.size
    refine sx_nil ?_
    refine sx_then ?_
    refine wp_ret ?_
    have ⟨b2_0, b2_1, b2_2, b2_3, b2_4, b2_5⟩ := b2.bx.e6
    repeat (first | with_reducible refine sx_thenret ?_ | with_reducible refine sx_blockret ?_)
    refine bodyPost_ret (v := .agg #[.bool ((norm n 0).neg), .slice p9 (dig B32 (norm n 0).m).length c9, .int .i64 ((norm n 0).e), .bool ((norm n 0).neg), .slice p9 (dig B32 (norm n 0).m).length c9, .int .i64 ((norm n 0).e)]) (by simp [results, Tryd.results61, go_sem, b2_0, b2_1, b2_2, b2_3, b2_4, b2_5]) rfl ?_
    replace ho9 := ((ho9.past (bthru (hbV4.trans (hOV5.below (by omega))) hbV6)).put boV7 hOV7 (by kernel_rfl))
    exact ⟨p9, c9, rfl, ho9.mono (by omega), ((bthru ((bthru (bthru (bthru hbV1 hbV2) hbV3) hbV4).trans (hOV5.below (by omega))) hbV6).trans (hOV7.below (by omega)))⟩

/-- What a sum's call leaves. -/
def oddOff (J : Nat) : Int := ((3 * J + 2 : Nat) : Int)
def GivesOdd (w : World) (t : Bool) (n w0 : Nat) (en : Ending) (w' : World) : Prop :=
  ∃ J, IsJ n w0 J ∧ GivesB w w.heap.size (norm (sI t n w0 J - oddOff J) (-w0)) (norm (sI t n w0 J + oddOff J) (-w0)) en w'

set_option maxHeartbeats 4000000 in
set_option maxRecDepth 100000 in
theorem odd_any (N W0 : Int) (n w0 : Nat) (t : Bool) (w : World) (hN : N = n) (hW : W0 = w0) (hn : 2 ≤ n) (hn2 : n ≤ 10000) (hw : w0 ≤ 1500) (hT : TabW w) :
    Calls Tryd.prog 60 #[.int .i64 N, .int .i64 W0, .bool t] w (GivesOdd w t n w0) := by
  subst hN hW
  have hnn : n * n ≤ 10000 * 10000 := Nat.mul_le_mul hn2 hn2
  have hnp : 0 < n * n := Nat.mul_pos (by omega) (by omega)
  have l1 : (dig B32 1).length ≤ 471 := term_len (P := 0) (by omega) (by omega)
  have ln : (dig B32 n).length ≤ 471 := term_len (P := 14) (by omega) (by omega)
  have lnn : (dig B32 (n * n)).length ≤ 471 := term_len (P := 27) (by omega) (by omega)
  have l2 := len_shl 1 w0
  have lJ3 : ∀ j, j ≤ w0 + 2 → (dig B32 (3 * j + 2)).length ≤ 471 := fun j hj => term_len (P := 14) (by omega) (by omega)
  cases t with
  | true =>
    have hT62 : SxAgg Tryd.prog 62 3 := sxAgg_of (by kernel_rfl) (by kernel_rfl)
    have hT64 : SxAgg Tryd.prog 64 6 := sxAgg_of (by kernel_rfl) (by kernel_rfl)
    refine calls_of_wp Tryd.func60 rfl ?_
    refine sx_frame (a' := ⟨((.int .i64 ((n : Nat) : Int)) :: (.int .i64 ((w0 : Nat) : Int)) :: (.bool true) :: undef :: undef :: undef :: undef :: undef :: undef :: undef :: undef :: undef :: undef :: undef :: undef :: undef :: undef :: undef :: undef :: undef :: undef :: undef :: undef :: undef :: undef :: undef :: undef :: undef :: undef :: undef :: undef :: undef :: undef :: undef :: undef :: undef :: undef :: undef :: undef :: undef :: undef :: undef :: undef :: undef :: undef :: undef :: undef :: undef :: undef :: undef :: undef :: undef :: undef :: undef :: undef :: undef :: undef :: undef :: undef :: undef :: undef :: undef :: undef :: undef :: undef :: undef :: undef :: undef :: undef :: undef :: undef :: undef :: undef :: undef :: undef :: undef :: undef :: undef :: undef :: undef :: undef :: undef :: undef :: undef :: undef :: undef :: undef :: undef :: undef :: undef :: []).toArray, []⟩) (by kernel_rfl) ?_
    refine wp_seq ?_
    refine sx_region ?_
    refine sn 6 #[.bool false, .slice none 0 0, .int .i64 0, .bool false, .slice none 0 0, .int .i64 0] 64 (fun V1 hbV1 hzV1 b6 => ?_)
    refine sx_nil ?_
    refine sx_then ?_
    refine wp_seq ?_
    refine sx_region ?_
    refine se 19 75 #[.int .i64 1] (fun Gx hGx => ?_)
    ((with_reducible refine (sof 1 1 rfl (by omega) V1).mono ?_))
    rintro eV2 V2 ⟨q19, d19, rfl, ho19, hbV2⟩
    have hzV2 := hbV2.size
    refine ⟨.slice q19 (dig B32 1).length d19, rfl, hGx _ _ ?_⟩
    clear hGx Gx
    refine sv 20 (.int .i64 ((w0 : Nat) : Int)) ?_
    refine se 21 79 #[.slice q19 (dig B32 1).length d19, .int .i64 ((w0 : Nat) : Int)] (fun Gx hGx => ?_)
    ((with_reducible refine (shl_any q19 _ d19 1 w0 _ ho19.rd rfl (by omega) (by omega)).mono ?_))
    rintro eV3 V3 ⟨q21, d21, rfl, ho21, hbV3⟩
    have hzV3 := hbV3.size
    refine ⟨.slice q21 (dig B32 (1 * 2 ^ w0)).length d21, rfl, hGx _ _ ?_⟩
    clear hGx Gx
    refine sv 7 (.slice q21 (dig B32 (1 * 2 ^ w0)).length d21) ?_
    refine sx_nil ?_
    refine sx_then ?_
    refine wp_seq ?_
    refine sx_region ?_
    refine sv 23 (.slice q21 (dig B32 (1 * 2 ^ w0)).length d21) ?_
    refine sv 24 (.int .i64 ((n : Nat) : Int)) ?_
    refine se 25 75 #[.int .i64 ((n : Nat) : Int)] (fun Gx hGx => ?_)
    ((with_reducible refine (sof _ n rfl (by omega) V3).mono ?_))
    rintro eV4 V4 ⟨q25, d25, rfl, ho25, hbV4⟩
    have hzV4 := hbV4.size
    refine ⟨.slice q25 (dig B32 n).length d25, rfl, hGx _ _ ?_⟩
    clear hGx Gx
    replace ho21 := (ho21.past hbV4)
    refine se 26 85 #[.slice q21 (dig B32 (1 * 2 ^ w0)).length d21, .slice q25 (dig B32 n).length d25] (fun Gx hGx => ?_)
    ((with_reducible refine (sdiv q21 q25 _ _ d21 d25 (1 * 2 ^ w0) n (2 ^ w0 / n ^ (2 * 0 + 1)) _ ho21.rd ho25.rd rfl rfl (by omega) (by omega) (by omega) (by rw [Nat.one_mul, Nat.pow_one])).mono ?_))
    rintro eV5 V5 ⟨q26, d26, r26, e26, f26, rfl, ho26, hbV5⟩
    have hzV5 := hbV5.size
    refine ⟨.tuple #[.slice q26 (dig B32 (2 ^ w0 / n ^ (2 * 0 + 1))).length d26, .slice r26 e26 f26], rfl, hGx _ _ ?_⟩
    clear hGx Gx
    refine sv 22 (.tuple #[.slice q26 (dig B32 (2 ^ w0 / n ^ (2 * 0 + 1))).length d26, .slice r26 e26 f26]) ?_
    refine sv 27 (.slice q26 (dig B32 (2 ^ w0 / n ^ (2 * 0 + 1))).length d26) ?_
    refine sv 28 (.slice r26 e26 f26) ?_
    refine sv 8 (.slice q26 (dig B32 (2 ^ w0 / n ^ (2 * 0 + 1))).length d26) ?_
    refine sv 9 (.slice r26 e26 f26) ?_
    refine sx_nil ?_
    refine sx_then ?_
    refine wp_seq ?_
    refine sx_region ?_
    refine sv 29 (.int .i64 ((n : Nat) : Int)) ?_
    refine sv 30 (.int .i64 ((n : Nat) : Int)) ?_
    refine sv 31 (.int .i64 ((n * n : Nat) : Int)) ?_ (hr := ((show _ = Result.ok (Next.value (.int .i64 (IntKind.wrap .i64 (((n : Nat) : Int) * ((n : Nat) : Int))))) _ by kernel_rfl).trans (congrArg (fun z => Result.ok (Next.value (.int .i64 z)) _) ((by rw [← Int.natCast_mul]; exact IntWalk.i64_in _ (by omega))))))
    refine se 32 75 #[.int .i64 ((n * n : Nat) : Int)] (fun Gx hGx => ?_)
    ((with_reducible refine (sof _ (n * n) rfl (by omega) V5).mono ?_))
    rintro eV6 V6 ⟨q32, d32, rfl, ho32, hbV6⟩
    have hzV6 := hbV6.size
    refine ⟨.slice q32 (dig B32 (n * n)).length d32, rfl, hGx _ _ ?_⟩
    clear hGx Gx
    refine sv 10 (.slice q32 (dig B32 (n * n)).length d32) ?_
    refine sx_nil ?_
    refine sx_then ?_
    refine wp_seq ?_
    refine sx_region ?_
    refine sv 11 (.slice none 0 0) ?_
    refine sv 12 (.slice none 0 0) ?_
    refine sx_nil ?_
    refine sx_then ?_
    refine wp_seq ?_
    refine sx_region ?_
    refine sv 13 (.int .i64 0) ?_
    refine sx_nil ?_
    refine sx_then ?_
    refine wp_seq ?_
    refine wp_seq ?_
    refine sx_region ?_
    refine sv 14 (.int .i64 1) ?_
    refine sx_nil ?_
    refine sx_then ?_
    refine wp_block ?_
    refine sx_frame (a' := ⟨((.int .i64 ((n : Nat) : Int)) :: (.int .i64 ((w0 : Nat) : Int)) :: (.bool true) :: undef :: undef :: undef :: (.pointer (some ⟨w.heap.size, 0, none⟩)) :: (.slice q21 (dig B32 (1 * 2 ^ w0)).length d21) :: (.slice q26 (dig B32 (2 ^ w0 / n ^ (2 * 0 + 1))).length d26) :: (.slice r26 e26 f26) :: (.slice q32 (dig B32 (n * n)).length d32) :: (.slice none 0 0) :: (.slice none 0 0) :: (.int .i64 0) :: (.int .i64 1) :: undef :: undef :: undef :: undef :: (.slice q19 (dig B32 1).length d19) :: (.int .i64 ((w0 : Nat) : Int)) :: (.slice q21 (dig B32 (1 * 2 ^ w0)).length d21) :: (.tuple #[.slice q26 (dig B32 (2 ^ w0 / n ^ (2 * 0 + 1))).length d26, .slice r26 e26 f26]) :: (.slice q21 (dig B32 (1 * 2 ^ w0)).length d21) :: (.int .i64 ((n : Nat) : Int)) :: (.slice q25 (dig B32 n).length d25) :: (.tuple #[.slice q26 (dig B32 (2 ^ w0 / n ^ (2 * 0 + 1))).length d26, .slice r26 e26 f26]) :: (.slice q26 (dig B32 (2 ^ w0 / n ^ (2 * 0 + 1))).length d26) :: (.slice r26 e26 f26) :: (.int .i64 ((n : Nat) : Int)) :: (.int .i64 ((n : Nat) : Int)) :: (.int .i64 ((n * n : Nat) : Int)) :: (.slice q32 (dig B32 (n * n)).length d32) :: undef :: undef :: undef :: undef :: undef :: undef :: undef :: undef :: undef :: undef :: undef :: undef :: undef :: undef :: undef :: undef :: undef :: undef :: undef :: undef :: undef :: undef :: undef :: undef :: undef :: undef :: undef :: undef :: undef :: undef :: undef :: undef :: undef :: undef :: undef :: undef :: undef :: undef :: undef :: undef :: undef :: undef :: undef :: undef :: undef :: undef :: undef :: undef :: undef :: undef :: undef :: undef :: undef :: undef :: undef :: undef :: undef :: []).toArray, []⟩) (by kernel_rfl) ?_
    refine sx_loop2 (fun (gk : Nat) U0 a' w' => ∃ (j : Nat) (p8 : Option Addr) (c8 : Nat) (p11 : Option Addr) (m11 : Nat) (c11 : Nat) (p12 : Option Addr) (m12 : Nat) (c12 : Nat), a' = ⟨((.int .i64 ((n : Nat) : Int)) :: (.int .i64 ((w0 : Nat) : Int)) :: (.bool true) :: undef :: undef :: undef :: (.pointer (some ⟨w.heap.size, 0, none⟩)) :: (.slice q21 (dig B32 (1 * 2 ^ w0)).length d21) :: (.slice p8 (dig B32 (2 ^ w0 / n ^ (2 * j + 1))).length c8) :: (.slice r26 e26 f26) :: (.slice q32 (dig B32 (n * n)).length d32) :: (.slice p11 m11 c11) :: (.slice p12 m12 c12) :: (.int .i64 ((j : Nat) : Int)) :: (.int .i64 ((2 * j + 1 : Nat) : Int)) :: (U0 15) :: (U0 16) :: undef :: undef :: (.slice q19 (dig B32 1).length d19) :: (.int .i64 ((w0 : Nat) : Int)) :: (.slice q21 (dig B32 (1 * 2 ^ w0)).length d21) :: (.tuple #[.slice q26 (dig B32 (2 ^ w0 / n ^ (2 * 0 + 1))).length d26, .slice r26 e26 f26]) :: (.slice q21 (dig B32 (1 * 2 ^ w0)).length d21) :: (.int .i64 ((n : Nat) : Int)) :: (.slice q25 (dig B32 n).length d25) :: (.tuple #[.slice q26 (dig B32 (2 ^ w0 / n ^ (2 * 0 + 1))).length d26, .slice r26 e26 f26]) :: (.slice q26 (dig B32 (2 ^ w0 / n ^ (2 * 0 + 1))).length d26) :: (.slice r26 e26 f26) :: (.int .i64 ((n : Nat) : Int)) :: (.int .i64 ((n : Nat) : Int)) :: (.int .i64 ((n * n : Nat) : Int)) :: (.slice q32 (dig B32 (n * n)).length d32) :: (U0 33) :: (U0 34) :: (U0 35) :: (U0 36) :: (U0 37) :: (U0 38) :: (U0 39) :: (U0 40) :: (U0 41) :: (U0 42) :: (U0 43) :: (U0 44) :: (U0 45) :: (U0 46) :: (U0 47) :: (U0 48) :: (U0 49) :: (U0 50) :: (U0 51) :: (U0 52) :: (U0 53) :: (U0 54) :: (U0 55) :: (U0 56) :: (U0 57) :: (U0 58) :: (U0 59) :: (U0 60) :: (U0 61) :: (U0 62) :: (U0 63) :: (U0 64) :: undef :: undef :: undef :: undef :: undef :: undef :: undef :: undef :: undef :: undef :: undef :: undef :: undef :: undef :: undef :: undef :: undef :: undef :: undef :: undef :: undef :: undef :: undef :: undef :: undef :: []).toArray, []⟩ ∧ (Own w' w.heap.size .u32 58 p8 c8 (dig B32 (2 ^ w0 / n ^ (2 * j + 1)))) ∧ (Own w' w.heap.size .u32 58 p11 c11 (dig B32 (sC (cP true) n w0 j))) ∧ (Own w' w.heap.size .u32 58 p12 c12 (dig B32 (sC (cM true) n w0 j))) ∧ Below V6.heap.size V6 w' ∧ (gk + j = w0 + 2) ∧ (∀ i, i < j → n ^ (2 * i + 1) ≤ 2 ^ w0) ∧ (m11 = (dig B32 (sC (cP true) n w0 j)).length) ∧ (m12 = (dig B32 (sC (cM true) n w0 j)).length)) (w0 + 2) ?_ (fun Gx hGx => ?_)
    · skip
      replace ho26 := (ho26.past hbV6)
      exact ⟨0, q26, d26, none, 0, 0, none, 0, 0, by kernel_rfl, ho26.mono (by omega), (by rw [show sC (cP true) n w0 0 = 0 from rfl, dig_zero]; exact Own.nil _ _ _ _), (by rw [show sC (cM true) n w0 0 = 0 from rfl, dig_zero]; exact Own.nil _ _ _ _), Below.refl _ _, (by omega), (fun i h => absurd h (by omega)), (by rw [show sC (cP true) n w0 0 = 0 from rfl, dig_zero]; rfl), (by rw [show sC (cM true) n w0 0 = 0 from rfl, dig_zero]; rfl)⟩
    rintro gk0 U0 _ V7 ⟨j, p8, c8, p11, m11, c11, p12, m12, c12, rfl, ho8, ho11, ho12, hbV7, hj, hne, hm11, hm12⟩
    refine hGx _ _ _ ?_
    clear hGx Gx
    have hzV7 := hbV7.size
    have lX : (dig B32 (2 ^ w0 / n ^ (2 * j + 1))).length ≤ 471 := term_len (P := w0) (Nat.le_trans (Nat.div_le_self _ _) (by omega)) (by omega)
    have lP : (dig B32 (sC (cP true) n w0 j)).length ≤ 471 := term_len (P := w0) (sC_le _ (cP_le true) hn _) (by omega)
    have lM : (dig B32 (sC (cM true) n w0 j)).length ≤ 471 := term_len (P := w0) (sC_le _ (cM_le true) hn _) (by omega)
    have lT : (dig B32 (tj n w0 j)).length ≤ 471 := term_len (P := w0) (Nat.le_trans (Nat.div_le_self _ _) (by omega)) (by omega)
    refine wp_seq ?_
    refine wp_seq ?_
    refine sx_region ?_
    refine sv 33 (.slice p8 (dig B32 (2 ^ w0 / n ^ (2 * j + 1))).length c8) ?_
    refine sv 34 (.int .i64 (((dig B32 (2 ^ w0 / n ^ (2 * j + 1))).length : Nat) : Int)) ?_
    rcases Bool.eq_false_or_eq_true (decide ((((dig B32 (2 ^ w0 / n ^ (2 * j + 1))).length : Nat) : Int) > 0)) with f35 | f35
    · skip
      refine sv 35 (.bool true) ?_ (hr := ((show _ = Result.ok (Next.value (.bool (decide ((((dig B32 (2 ^ w0 / n ^ (2 * j + 1))).length : Nat) : Int) > 0)))) _ from (by kernel_rfl)).trans (congrArg (fun z => Result.ok (Next.value (.bool z)) _) (show (decide ((((dig B32 (2 ^ w0 / n ^ (2 * j + 1))).length : Nat) : Int) > 0)) = true from f35))))
      refine sx_nil ?_
      refine sx_then ?_
      refine wp_cond_true (by kernel_rfl) ?_
      refine wp_skip ?_
      refine sx_then ?_
      refine wp_seq ?_
      refine wp_block ?_
      refine wp_seq ?_
      refine sx_region ?_
      have hx := le_of_quot (n := n) (P := w0) (j := j) (pos_of_len (by have := of_decide_eq_true f35; omega))
      have hj2 := j_le hn hx
      have hx2 : ∀ i, i < j + 1 → n ^ (2 * i + 1) ≤ 2 ^ w0 := fun i hi => by rcases Nat.lt_or_ge i j with h | h; exact hne i h; rw [show i = j by omega]; exact hx
      have lJ : (dig B32 (2 * j + 1)).length ≤ 471 := term_len (P := w0) (Nat.le_trans hj2 (Nat.le_trans (Nat.le_of_lt Nat.lt_two_pow_self) (by omega))) (by omega)
      refine sv 39 (.slice p8 (dig B32 (2 ^ w0 / n ^ (2 * j + 1))).length c8) ?_
      refine sv 40 (.int .i64 ((2 * j + 1 : Nat) : Int)) ?_
      refine se 41 75 #[.int .i64 ((2 * j + 1 : Nat) : Int)] (fun Gx hGx => ?_)
      ((with_reducible refine (sof _ (2 * j + 1) rfl (by omega) V7).mono ?_))
      rintro eV8 V8 ⟨q41, d41, rfl, ho41, hbV8⟩
      have hzV8 := hbV8.size
      refine ⟨.slice q41 (dig B32 (2 * j + 1)).length d41, rfl, hGx _ _ ?_⟩
      clear hGx Gx
      replace ho8 := (ho8.past hbV8)
      refine se 42 85 #[.slice p8 (dig B32 (2 ^ w0 / n ^ (2 * j + 1))).length c8, .slice q41 (dig B32 (2 * j + 1)).length d41] (fun Gx hGx => ?_)
      ((with_reducible refine (sdiv p8 q41 _ _ c8 d41 _ (2 * j + 1) (tj n w0 j) _ ho8.rd ho41.rd rfl rfl (by omega) (by omega) (by omega) (quot_term n w0 j)).mono ?_))
      rintro eV9 V9 ⟨q42, d42, r42, e42, f42, rfl, ho42, hbV9⟩
      have hzV9 := hbV9.size
      refine ⟨.tuple #[.slice q42 (dig B32 (tj n w0 j)).length d42, .slice r42 e42 f42], rfl, hGx _ _ ?_⟩
      clear hGx Gx
      refine sv 38 (.tuple #[.slice q42 (dig B32 (tj n w0 j)).length d42, .slice r42 e42 f42]) ?_
      refine sv 43 (.slice q42 (dig B32 (tj n w0 j)).length d42) ?_
      refine sv 44 (.slice r42 e42 f42) ?_
      refine sv 15 (.slice q42 (dig B32 (tj n w0 j)).length d42) ?_
      refine sv 16 (.slice r42 e42 f42) ?_
      refine sx_nil ?_
      refine sx_then ?_
      refine wp_seq ?_
      refine wp_seq ?_
      refine sx_region ?_
      refine sv 45 (.bool true) ?_
      refine sv 46 (.bool true) ?_
      refine sv 47 (.int .i64 ((2 * j + 1 : Nat) : Int)) ?_
      refine sv 48 (.int .i64 (((2 * j + 1) % 4 : Nat) : Int)) ?_ (hr := (exec_rem (((2 * j + 1) % 4 : Nat) : Int) (by kernel_rfl) (by kernel_rfl) ((show (4 : Int) ≠ 0 by omega)) ((by exact (Int.ofNat_tmod (2 * j + 1) 4).symm))))
      rcases Bool.eq_false_or_eq_true ((((2 * j + 1) % 4 : Nat) : Int) == 3) with f49 | f49
      · skip
        refine sv 49 (.bool true) ?_ (hr := ((show _ = Result.ok (Next.value (.bool ((((2 * j + 1) % 4 : Nat) : Int) == 3))) _ from (by kernel_rfl)).trans (congrArg (fun z => Result.ok (Next.value (.bool z)) _) (show ((((2 * j + 1) % 4 : Nat) : Int) == 3) = true from f49))))
        refine sv 50 (.bool true) ?_
        refine sx_nil ?_
        refine sx_then ?_
        refine wp_cond_true (by kernel_rfl) ?_
        refine sx_region ?_
        refine sv 51 (.slice p12 m12 c12) ?_
        refine sv 52 (.slice q42 (dig B32 (tj n w0 j)).length d42) ?_
        replace ho12 := (ho12.past (bthru hbV8 hbV9))
        refine se 53 74 #[.slice p12 m12 c12, .slice q42 (dig B32 (tj n w0 j)).length d42] (fun Gx hGx => ?_)
        ((with_reducible refine (sadd p12 q42 m12 _ c12 d42 _ (tj n w0 j) (sC (cM true) n w0 (j + 1)) _ ho12.rd ho42.rd hm12 rfl (by omega) (by omega) (by simp only [sC]; rw [show cM true j = 1 by unfold cM; rw [if_pos ⟨rfl, by have := beq_iff_eq.1 f49; omega⟩], Nat.one_mul])).mono ?_))
        rintro eV10 V10 ⟨q53, d53, rfl, ho53, hbV10⟩
        have hzV10 := hbV10.size
        refine ⟨.slice q53 (dig B32 (sC (cM true) n w0 (j + 1))).length d53, rfl, hGx _ _ ?_⟩
        clear hGx Gx
        refine sv 12 (.slice q53 (dig B32 (sC (cM true) n w0 (j + 1))).length d53) ?_
        refine sx_nil ?_
        refine sx_then ?_
        refine wp_seq ?_
        refine sx_region ?_
        refine sv 58 (.slice p8 (dig B32 (2 ^ w0 / n ^ (2 * j + 1))).length c8) ?_
        refine sv 59 (.slice q32 (dig B32 (n * n)).length d32) ?_
        replace ho8 := (ho8.past (bthru hbV9 hbV10))
        replace ho32 := (ho32.past (bthru (bthru (bthru hbV7 hbV8) hbV9) hbV10))
        refine se 60 85 #[.slice p8 (dig B32 (2 ^ w0 / n ^ (2 * j + 1))).length c8, .slice q32 (dig B32 (n * n)).length d32] (fun Gx hGx => ?_)
        ((with_reducible refine (sdiv p8 q32 _ _ c8 d32 _ (n * n) _ _ ho8.rd ho32.rd rfl rfl (by omega) (by omega) (by omega) (quot_next n w0 j)).mono ?_))
        rintro eV11 V11 ⟨q60, d60, r60, e60, f60, rfl, ho60, hbV11⟩
        have hzV11 := hbV11.size
        refine ⟨.tuple #[.slice q60 (dig B32 (2 ^ w0 / n ^ (2 * (j + 1) + 1))).length d60, .slice r60 e60 f60], rfl, hGx _ _ ?_⟩
        clear hGx Gx
        refine sv 57 (.tuple #[.slice q60 (dig B32 (2 ^ w0 / n ^ (2 * (j + 1) + 1))).length d60, .slice r60 e60 f60]) ?_
        refine sv 61 (.slice q60 (dig B32 (2 ^ w0 / n ^ (2 * (j + 1) + 1))).length d60) ?_
        refine sv 62 (.slice r60 e60 f60) ?_
        refine sv 8 (.slice q60 (dig B32 (2 ^ w0 / n ^ (2 * (j + 1) + 1))).length d60) ?_
        refine sx_nil ?_
        refine sx_then ?_
        refine sx_region ?_
        refine sv 63 (.int .i64 ((j : Nat) : Int)) ?_
        refine sv 64 (.int .i64 ((j + 1 : Nat) : Int)) ?_ (hr := ((show _ = Result.ok (Next.value (.int .i64 (IntKind.wrap .i64 (((j : Nat) : Int) + 1)))) _ by kernel_rfl).trans (congrArg (fun z => Result.ok (Next.value (.int .i64 z)) _) ((by rw [Int.natCast_add]; exact IntWalk.i64_in _ (by omega))))))
        refine sv 13 (.int .i64 ((j + 1 : Nat) : Int)) ?_
        refine sx_nil ?_
        refine sx_inblock ?_
        refine sx_then ?_
        refine sx_region ?_
        refine sv 36 (.int .i64 ((2 * j + 1 : Nat) : Int)) ?_
        refine sv 37 (.int .i64 ((2 * (j + 1) + 1 : Nat) : Int)) ?_ (hr := ((show _ = Result.ok (Next.value (.int .i64 (IntKind.wrap .i64 (((2 * j + 1 : Nat) : Int) + 2)))) _ by kernel_rfl).trans (congrArg (fun z => Result.ok (Next.value (.int .i64 z)) _) ((by rw [show (((2 * j + 1 : Nat) : Int) + 2) = ((2 * (j + 1) + 1 : Nat) : Int) by omega]; exact IntWalk.i64_in _ (by omega))))))
        refine sv 14 (.int .i64 ((2 * (j + 1) + 1 : Nat) : Int)) ?_
        refine sx_nil ?_
        refine sx_then ?_
        refine ⟨gk0 - 1, (by omega), ?_⟩
        replace ho11 := (ho11.past (bthru (bthru (bthru hbV8 hbV9) hbV10) hbV11))
        replace ho53 := (ho53.past hbV11)
        exact ⟨j + 1, q60, d60, p11, m11, c11, q53, (dig B32 (sC (cM true) n w0 (j + 1))).length, d53, by kernel_rfl, ho60.mono (by omega), (by rw [show sC (cP true) n w0 (j + 1) = sC (cP true) n w0 j by simp only [sC]; rw [show cP true j = 0 by unfold cP; rw [if_pos ⟨rfl, by have := beq_iff_eq.1 f49; omega⟩]]; omega]; exact ho11), ho53.mono (by omega), (bthru (bthru (bthru (bthru hbV7 hbV8) hbV9) hbV10) hbV11), (by omega), hx2, (by rw [show sC (cP true) n w0 (j + 1) = sC (cP true) n w0 j by simp only [sC]; rw [show cP true j = 0 by unfold cP; rw [if_pos ⟨rfl, by have := beq_iff_eq.1 f49; omega⟩]]; omega]; exact hm11), rfl⟩
      · skip
        refine sv 49 (.bool false) ?_ (hr := ((show _ = Result.ok (Next.value (.bool ((((2 * j + 1) % 4 : Nat) : Int) == 3))) _ from (by kernel_rfl)).trans (congrArg (fun z => Result.ok (Next.value (.bool z)) _) (show ((((2 * j + 1) % 4 : Nat) : Int) == 3) = false from f49))))
        refine sv 50 (.bool false) ?_
        refine sx_nil ?_
        refine sx_then ?_
        refine wp_cond_false (by kernel_rfl) ?_
        refine sx_region ?_
        refine sv 54 (.slice p11 m11 c11) ?_
        refine sv 55 (.slice q42 (dig B32 (tj n w0 j)).length d42) ?_
        replace ho11 := (ho11.past (bthru hbV8 hbV9))
        refine se 56 74 #[.slice p11 m11 c11, .slice q42 (dig B32 (tj n w0 j)).length d42] (fun Gx hGx => ?_)
        ((with_reducible refine (sadd p11 q42 m11 _ c11 d42 _ (tj n w0 j) (sC (cP true) n w0 (j + 1)) _ ho11.rd ho42.rd hm11 rfl (by omega) (by omega) (by simp only [sC]; rw [show cP true j = 1 by unfold cP; rw [if_neg (fun h => by have := beq_eq_false_iff_ne.1 f49; omega)], Nat.one_mul])).mono ?_))
        rintro eV10 V10 ⟨q56, d56, rfl, ho56, hbV10⟩
        have hzV10 := hbV10.size
        refine ⟨.slice q56 (dig B32 (sC (cP true) n w0 (j + 1))).length d56, rfl, hGx _ _ ?_⟩
        clear hGx Gx
        refine sv 11 (.slice q56 (dig B32 (sC (cP true) n w0 (j + 1))).length d56) ?_
        refine sx_nil ?_
        refine sx_then ?_
        refine wp_seq ?_
        refine sx_region ?_
        refine sv 58 (.slice p8 (dig B32 (2 ^ w0 / n ^ (2 * j + 1))).length c8) ?_
        refine sv 59 (.slice q32 (dig B32 (n * n)).length d32) ?_
        replace ho8 := (ho8.past (bthru hbV9 hbV10))
        replace ho32 := (ho32.past (bthru (bthru (bthru hbV7 hbV8) hbV9) hbV10))
        refine se 60 85 #[.slice p8 (dig B32 (2 ^ w0 / n ^ (2 * j + 1))).length c8, .slice q32 (dig B32 (n * n)).length d32] (fun Gx hGx => ?_)
        ((with_reducible refine (sdiv p8 q32 _ _ c8 d32 _ (n * n) _ _ ho8.rd ho32.rd rfl rfl (by omega) (by omega) (by omega) (quot_next n w0 j)).mono ?_))
        rintro eV11 V11 ⟨q60, d60, r60, e60, f60, rfl, ho60, hbV11⟩
        have hzV11 := hbV11.size
        refine ⟨.tuple #[.slice q60 (dig B32 (2 ^ w0 / n ^ (2 * (j + 1) + 1))).length d60, .slice r60 e60 f60], rfl, hGx _ _ ?_⟩
        clear hGx Gx
        refine sv 57 (.tuple #[.slice q60 (dig B32 (2 ^ w0 / n ^ (2 * (j + 1) + 1))).length d60, .slice r60 e60 f60]) ?_
        refine sv 61 (.slice q60 (dig B32 (2 ^ w0 / n ^ (2 * (j + 1) + 1))).length d60) ?_
        refine sv 62 (.slice r60 e60 f60) ?_
        refine sv 8 (.slice q60 (dig B32 (2 ^ w0 / n ^ (2 * (j + 1) + 1))).length d60) ?_
        refine sx_nil ?_
        refine sx_then ?_
        refine sx_region ?_
        refine sv 63 (.int .i64 ((j : Nat) : Int)) ?_
        refine sv 64 (.int .i64 ((j + 1 : Nat) : Int)) ?_ (hr := ((show _ = Result.ok (Next.value (.int .i64 (IntKind.wrap .i64 (((j : Nat) : Int) + 1)))) _ by kernel_rfl).trans (congrArg (fun z => Result.ok (Next.value (.int .i64 z)) _) ((by rw [Int.natCast_add]; exact IntWalk.i64_in _ (by omega))))))
        refine sv 13 (.int .i64 ((j + 1 : Nat) : Int)) ?_
        refine sx_nil ?_
        refine sx_inblock ?_
        refine sx_then ?_
        refine sx_region ?_
        refine sv 36 (.int .i64 ((2 * j + 1 : Nat) : Int)) ?_
        refine sv 37 (.int .i64 ((2 * (j + 1) + 1 : Nat) : Int)) ?_ (hr := ((show _ = Result.ok (Next.value (.int .i64 (IntKind.wrap .i64 (((2 * j + 1 : Nat) : Int) + 2)))) _ by kernel_rfl).trans (congrArg (fun z => Result.ok (Next.value (.int .i64 z)) _) ((by rw [show (((2 * j + 1 : Nat) : Int) + 2) = ((2 * (j + 1) + 1 : Nat) : Int) by omega]; exact IntWalk.i64_in _ (by omega))))))
        refine sv 14 (.int .i64 ((2 * (j + 1) + 1 : Nat) : Int)) ?_
        refine sx_nil ?_
        refine sx_then ?_
        refine ⟨gk0 - 1, (by omega), ?_⟩
        replace ho56 := (ho56.past hbV11)
        replace ho12 := (ho12.past (bthru (bthru (bthru hbV8 hbV9) hbV10) hbV11))
        exact ⟨j + 1, q60, d60, q56, (dig B32 (sC (cP true) n w0 (j + 1))).length, d56, p12, m12, c12, by kernel_rfl, ho60.mono (by omega), ho56.mono (by omega), (by rw [show sC (cM true) n w0 (j + 1) = sC (cM true) n w0 j by simp only [sC]; rw [show cM true j = 0 by unfold cM; rw [if_neg (fun h => by have := beq_eq_false_iff_ne.1 f49; omega)]]; omega]; exact ho12), (bthru (bthru (bthru (bthru hbV7 hbV8) hbV9) hbV10) hbV11), (by omega), hx2, rfl, (by rw [show sC (cM true) n w0 (j + 1) = sC (cM true) n w0 j by simp only [sC]; rw [show cM true j = 0 by unfold cM; rw [if_neg (fun h => by have := beq_eq_false_iff_ne.1 f49; omega)]]; omega]; exact hm12)⟩
    · skip
      refine sv 35 (.bool false) ?_ (hr := ((show _ = Result.ok (Next.value (.bool (decide ((((dig B32 (2 ^ w0 / n ^ (2 * j + 1))).length : Nat) : Int) > 0)))) _ from (by kernel_rfl)).trans (congrArg (fun z => Result.ok (Next.value (.bool z)) _) (show (decide ((((dig B32 (2 ^ w0 / n ^ (2 * j + 1))).length : Nat) : Int) > 0)) = false from f35))))
      refine sx_nil ?_
      refine sx_then ?_
      refine wp_cond_false (by kernel_rfl) ?_
      refine wp_exit ?_
      repeat (with_reducible refine sx_thenexit ?_)
      refine sx_exit (id := 0) ?_
      refine sx_then ?_
      refine wp_seq ?_
      refine sx_region ?_
      refine sv 65 (.slice p11 m11 c11) ?_
      refine sv 66 (.int .i64 ((w0 : Nat) : Int)) ?_
      refine sv 67 (.int .i64 (-((w0 : Nat) : Int))) ?_ (hr := ((show _ = Result.ok (Next.value (.int .i64 (IntKind.wrap .i64 (0 - ((w0 : Nat) : Int))))) _ by kernel_rfl).trans (congrArg (fun z => Result.ok (Next.value (.int .i64 z)) _) ((IntWalk.i64_in _ (by omega)).trans (by omega)))))
      replace hT := (hT.past (bthru (bthru (bthru (bthru (bthru (bthru hbV1 hbV2) hbV3) hbV4) hbV5) hbV6) hbV7))
      refine se 68 86 #[.slice p11 m11 c11, .int .i64 (-((w0 : Nat) : Int))] (fun Gx hGx => ?_)
      ((with_reducible refine (swhole p11 m11 c11 _ (-w0) _ (sC (cP true) n w0 j : Int) _ ho11.rd hm11 (by have := ho11.le_cap; omega) (by omega) (by omega) hT rfl rfl).mono ?_))
      rintro eV8 V8 ⟨q68, d68, rfl, ho68, hbV8⟩
      have hzV8 := hbV8.size
      refine ⟨.agg #[.bool ((norm (sC (cP true) n w0 j : Int) (-w0)).neg), .slice q68 (dig B32 (norm (sC (cP true) n w0 j : Int) (-w0)).m).length d68, .int .i64 ((norm (sC (cP true) n w0 j : Int) (-w0)).e)], rfl, hGx _ _ ?_⟩
      clear hGx Gx
      refine sv 69 (.slice p12 m12 c12) ?_
      refine sv 70 (.int .i64 ((w0 : Nat) : Int)) ?_
      refine sv 71 (.int .i64 (-((w0 : Nat) : Int))) ?_ (hr := ((show _ = Result.ok (Next.value (.int .i64 (IntKind.wrap .i64 (0 - ((w0 : Nat) : Int))))) _ by kernel_rfl).trans (congrArg (fun z => Result.ok (Next.value (.int .i64 z)) _) ((IntWalk.i64_in _ (by omega)).trans (by omega)))))
      replace ho12 := (ho12.past hbV8)
      replace hT := (hT.past hbV8)
      refine se 72 86 #[.slice p12 m12 c12, .int .i64 (-((w0 : Nat) : Int))] (fun Gx hGx => ?_)
      ((with_reducible refine (swhole p12 m12 c12 _ (-w0) _ (sC (cM true) n w0 j : Int) _ ho12.rd hm12 (by have := ho12.le_cap; omega) (by omega) (by omega) hT rfl rfl).mono ?_))
      rintro eV9 V9 ⟨q72, d72, rfl, ho72, hbV9⟩
      have hzV9 := hbV9.size
      refine ⟨.agg #[.bool ((norm (sC (cM true) n w0 j : Int) (-w0)).neg), .slice q72 (dig B32 (norm (sC (cM true) n w0 j : Int) (-w0)).m).length d72, .int .i64 ((norm (sC (cM true) n w0 j : Int) (-w0)).e)], rfl, hGx _ _ ?_⟩
      clear hGx Gx
      refine se 73 87 #[.agg #[.bool ((norm (sC (cM true) n w0 j : Int) (-w0)).neg), .slice q72 (dig B32 (norm (sC (cM true) n w0 j : Int) (-w0)).m).length d72, .int .i64 ((norm (sC (cM true) n w0 j : Int) (-w0)).e)]] (fun Gx hGx => ?_)
      ((with_reducible refine (sopp _ (-(sC (cM true) n w0 j : Int)) _ q72 d72 _ _ ho72 rfl).mono ?_))
      rintro eV10 V10 ⟨rfl, ho73, hbV10⟩
      have hzV10 := hbV10.size
      refine ⟨.agg #[.bool ((norm (-(sC (cM true) n w0 j : Int)) (-w0)).neg), .slice q72 (dig B32 (norm (-(sC (cM true) n w0 j : Int)) (-w0)).m).length d72, .int .i64 ((norm (-(sC (cM true) n w0 j : Int)) (-w0)).e)], rfl, hGx _ _ ?_⟩
      clear hGx Gx
      replace ho68 := (ho68.past (bthru hbV9 hbV10))
      replace hT := (hT.past (bthru hbV9 hbV10))
      refine se 74 84 #[.agg #[.bool ((norm (sC (cP true) n w0 j : Int) (-w0)).neg), .slice q68 (dig B32 (norm (sC (cP true) n w0 j : Int) (-w0)).m).length d68, .int .i64 ((norm (sC (cP true) n w0 j : Int) (-w0)).e)], .agg #[.bool ((norm (-(sC (cM true) n w0 j : Int)) (-w0)).neg), .slice q72 (dig B32 (norm (-(sC (cM true) n w0 j : Int)) (-w0)).m).length d72, .int .i64 ((norm (-(sC (cM true) n w0 j : Int)) (-w0)).e)]] (fun Gx hGx => ?_)
      ((with_reducible refine (splus _ _ (sI true n w0 j) w0 _ q68 q72 d68 d72 w.heap.size _ rfl (by omega) (ho68.mono (by omega)) (ho73.mono (by omega)) (small_sC (cP_le true) hn j (by omega)) (small_neg (small_sC (cM_le true) hn j (by omega))) hT (by omega) (by unfold sI; omega)).mono ?_))
      rintro eV11 V11 ⟨q74, d74, rfl, ho74, hbV11⟩
      have hzV11 := hbV11.size
      refine ⟨.agg #[.bool ((norm (sI true n w0 j) (-w0)).neg), .slice q74 (dig B32 (norm (sI true n w0 j) (-w0)).m).length d74, .int .i64 ((norm (sI true n w0 j) (-w0)).e)], rfl, hGx _ _ ?_⟩
      clear hGx Gx
      refine sn 17 #[.bool false, .slice none 0 0, .int .i64 0] 62 (fun V12 hbV12 hzV12 b17 => ?_)
      refine ss none b17 hT62 0 #[.bool ((norm (sI true n w0 j) (-w0)).neg), .slice q74 (dig B32 (norm (sI true n w0 j) (-w0)).m).length d74, .int .i64 ((norm (sI true n w0 j) (-w0)).e)] #[.bool ((norm (sI true n w0 j) (-w0)).neg), .slice q74 (dig B32 (norm (sI true n w0 j) (-w0)).m).length d74, .int .i64 ((norm (sI true n w0 j) (-w0)).e)] ?_
      have boV13 := b17
      clear b17
      intro V13 hOV13 b17
      have hzV13 := hOV13.size
      refine sx_nil ?_
      refine sx_then ?_
      refine wp_seq ?_
      refine sx_region ?_
      refine sv 75 (.int .i64 ((j : Nat) : Int)) ?_
      refine sv 76 (.int .i64 ((3 * j : Nat) : Int)) ?_ (hr := ((show _ = Result.ok (Next.value (.int .i64 (IntKind.wrap .i64 ((3 : Int) * ((j : Nat) : Int))))) _ by kernel_rfl).trans (congrArg (fun z => Result.ok (Next.value (.int .i64 z)) _) ((by rw [show (3 : Int) * ((j : Nat) : Int) = ((3 * j : Nat) : Int) by omega]; exact IntWalk.i64_in _ (by omega))))))
      refine sv 77 (.int .i64 ((3 * j + 2 : Nat) : Int)) ?_ (hr := ((show _ = Result.ok (Next.value (.int .i64 (IntKind.wrap .i64 (((3 * j : Nat) : Int) + 2)))) _ by kernel_rfl).trans (congrArg (fun z => Result.ok (Next.value (.int .i64 z)) _) ((by rw [show (((3 * j : Nat) : Int) + 2) = ((3 * j + 2 : Nat) : Int) by omega]; exact IntWalk.i64_in _ (by omega))))))
      have lJ4 := lJ3 j (by omega)
      refine se 78 75 #[.int .i64 ((3 * j + 2 : Nat) : Int)] (fun Gx hGx => ?_)
      ((with_reducible refine (sof _ (3 * j + 2) rfl (by omega) V13).mono ?_))
      rintro eV14 V14 ⟨q78, d78, rfl, ho78, hbV14⟩
      have hzV14 := hbV14.size
      refine ⟨.slice q78 (dig B32 (3 * j + 2)).length d78, rfl, hGx _ _ ?_⟩
      clear hGx Gx
      refine sv 79 (.int .i64 ((w0 : Nat) : Int)) ?_
      refine sv 80 (.int .i64 (-((w0 : Nat) : Int))) ?_ (hr := ((show _ = Result.ok (Next.value (.int .i64 (IntKind.wrap .i64 (0 - ((w0 : Nat) : Int))))) _ by kernel_rfl).trans (congrArg (fun z => Result.ok (Next.value (.int .i64 z)) _) ((IntWalk.i64_in _ (by omega)).trans (by omega)))))
      replace hT := (hT.past (bthru ((bthru hbV11 hbV12).trans (hOV13.below (by omega))) hbV14))
      refine se 81 86 #[.slice q78 (dig B32 (3 * j + 2)).length d78, .int .i64 (-((w0 : Nat) : Int))] (fun Gx hGx => ?_)
      ((with_reducible refine (swhole q78 _ d78 _ (-w0) _ (oddOff j) _ ho78.rd rfl ho78.le_cap (by omega) (by omega) hT rfl rfl).mono ?_))
      rintro eV15 V15 ⟨q81, d81, rfl, ho81, hbV15⟩
      have hzV15 := hbV15.size
      refine ⟨.agg #[.bool ((norm (oddOff j) (-w0)).neg), .slice q81 (dig B32 (norm (oddOff j) (-w0)).m).length d81, .int .i64 ((norm (oddOff j) (-w0)).e)], rfl, hGx _ _ ?_⟩
      clear hGx Gx
      refine sn 18 #[.bool false, .slice none 0 0, .int .i64 0] 62 (fun V16 hbV16 hzV16 b18 => ?_)
      refine ss none b18 hT62 0 #[.bool ((norm (oddOff j) (-w0)).neg), .slice q81 (dig B32 (norm (oddOff j) (-w0)).m).length d81, .int .i64 ((norm (oddOff j) (-w0)).e)] #[.bool ((norm (oddOff j) (-w0)).neg), .slice q81 (dig B32 (norm (oddOff j) (-w0)).m).length d81, .int .i64 ((norm (oddOff j) (-w0)).e)] ?_
      have boV17 := b18
      clear b18
      intro V17 hOV17 b18
      have hzV17 := hOV17.size
      refine sx_nil ?_
      refine sx_then ?_
      refine wp_seq ?_
      replace b17 := (b17.past ((bthru (bthru hbV14 hbV15) hbV16).trans (hOV17.below (by omega))))
      obtain ⟨V18, hVV18⟩ : ∃ V, V = (V17).drew := ⟨_, rfl⟩
      have hbV18 : Below (V17).heap.size (V17) V18 := by rw [hVV18]; exact (Below.refl _ _).drew
      have hzV18 : V18.heap.size = (V17).heap.size := by rw [hVV18]; rfl
      replace b17 := (b17.past hbV18)
      replace b18 := (b18.past hbV18)
      refine sxd _ (fun w' => Bt w' V11.heap.size 62 #[.bool ((norm (sI true n w0 j) (-w0)).neg), .slice q74 (dig B32 (norm (sI true n w0 j) (-w0)).m).length d74, .int .i64 ((norm (sI true n w0 j) (-w0)).e)] ∧ Bt w' V15.heap.size 62 #[.bool ((norm (oddOff j) (-w0)).neg), .slice q81 (dig B32 (norm (oddOff j) (-w0)).m).length d81, .int .i64 ((norm (oddOff j) (-w0)).e)]) hVV18 ⟨b17, b18⟩ ?_
      clear hVV18
      have hOs : Small (oddOff j) := small_nat (k := 14) (by omega) (by omega)
      have hSs : Small (sI true n w0 j) := small_sI true hn j (by omega)
      refine tk 0 82 (.agg #[.bool ((norm (sI true n w0 j) (-w0)).neg), .slice q74 (dig B32 (norm (sI true n w0 j) (-w0)).m).length d74, .int .i64 ((norm (sI true n w0 j) (-w0)).e)]) ⟨b17, b18⟩ ?_ (hy := fun w' hS => (exec_ld (by kernel_rfl) (run_ld hS.1 hT62 0 [.bool ((norm (sI true n w0 j) (-w0)).neg), .slice q74 (dig B32 (norm (sI true n w0 j) (-w0)).m).length d74, .int .i64 ((norm (sI true n w0 j) (-w0)).e)] (by kernel_rfl) (by kernel_rfl))))
      refine tk 1 83 (.agg #[.bool ((norm (oddOff j) (-w0)).neg), .slice q81 (dig B32 (norm (oddOff j) (-w0)).m).length d81, .int .i64 ((norm (oddOff j) (-w0)).e)]) ⟨b17, b18⟩ ?_ (hy := fun w' hS => (exec_ld (by kernel_rfl) (run_ld hS.2 hT62 0 [.bool ((norm (oddOff j) (-w0)).neg), .slice q81 (dig B32 (norm (oddOff j) (-w0)).m).length d81, .int .i64 ((norm (oddOff j) (-w0)).e)] (by kernel_rfl) (by kernel_rfl))))
      refine tk 4 86 (.agg #[.bool ((norm (sI true n w0 j) (-w0)).neg), .slice q74 (dig B32 (norm (sI true n w0 j) (-w0)).m).length d74, .int .i64 ((norm (sI true n w0 j) (-w0)).e)]) ⟨b17, b18⟩ ?_ (hy := fun w' hS => (exec_ld (by kernel_rfl) (run_ld hS.1 hT62 0 [.bool ((norm (sI true n w0 j) (-w0)).neg), .slice q74 (dig B32 (norm (sI true n w0 j) (-w0)).m).length d74, .int .i64 ((norm (sI true n w0 j) (-w0)).e)] (by kernel_rfl) (by kernel_rfl))))
      refine tk 5 87 (.agg #[.bool ((norm (oddOff j) (-w0)).neg), .slice q81 (dig B32 (norm (oddOff j) (-w0)).m).length d81, .int .i64 ((norm (oddOff j) (-w0)).e)]) ⟨b17, b18⟩ ?_ (hy := fun w' hS => (exec_ld (by kernel_rfl) (run_ld hS.2 hT62 0 [.bool ((norm (oddOff j) (-w0)).neg), .slice q81 (dig B32 (norm (oddOff j) (-w0)).m).length d81, .int .i64 ((norm (oddOff j) (-w0)).e)] (by kernel_rfl) (by kernel_rfl))))
      refine sxr [2] ?_
      refine rd1 (fun Kx hKx => ?_)
      replace ho81 := (ho81.past (bthru (hbV16.trans (hOV17.below (by omega))) hbV18))
      refine sek 84 87 #[.agg #[.bool ((norm (oddOff j) (-w0)).neg), .slice q81 (dig B32 (norm (oddOff j) (-w0)).m).length d81, .int .i64 ((norm (oddOff j) (-w0)).e)]] ?_
      ((with_reducible refine (sopp (oddOff j) (-(oddOff j)) _ q81 d81 _ _ ho81 rfl).mono ?_))
      rintro eV19 V19 ⟨rfl, ho84, hbV19⟩
      have hzV19 := hbV19.size
      refine ⟨.agg #[.bool ((norm (-(oddOff j)) (-w0)).neg), .slice q81 (dig B32 (norm (-(oddOff j)) (-w0)).m).length d81, .int .i64 ((norm (-(oddOff j)) (-w0)).e)], rfl, ?_⟩
      replace b17 := (b17.past hbV19)
      replace b18 := (b18.past hbV19)
      refine hKx.out _ _ ⟨b17, b18⟩ ?_
      clear hKx Kx
      refine sxr [3] ?_
      refine rd1 (fun Kx hKx => ?_)
      replace ho74 := (ho74.past (bthru (bthru ((bthru (bthru (bthru (hbV12.trans (hOV13.below (by omega))) hbV14) hbV15) hbV16).trans (hOV17.below (by omega))) hbV18) hbV19))
      replace hT := (hT.past (bthru (bthru ((bthru hbV15 hbV16).trans (hOV17.below (by omega))) hbV18) hbV19))
      refine sek 85 84 #[.agg #[.bool ((norm (sI true n w0 j) (-w0)).neg), .slice q74 (dig B32 (norm (sI true n w0 j) (-w0)).m).length d74, .int .i64 ((norm (sI true n w0 j) (-w0)).e)], .agg #[.bool ((norm (-(oddOff j)) (-w0)).neg), .slice q81 (dig B32 (norm (-(oddOff j)) (-w0)).m).length d81, .int .i64 ((norm (-(oddOff j)) (-w0)).e)]] ?_
      ((with_reducible refine (splus _ _ (sI true n w0 j - oddOff j) w0 _ q74 q81 d74 d81 w.heap.size _ rfl (by omega) (ho74.mono (by omega)) (ho84.mono (by omega)) hSs (small_neg hOs) hT (by omega) (by omega)).mono ?_))
      rintro eV20 V20 ⟨q85, d85, rfl, ho85, hbV20⟩
      have hzV20 := hbV20.size
      refine ⟨.agg #[.bool ((norm (sI true n w0 j - oddOff j) (-w0)).neg), .slice q85 (dig B32 (norm (sI true n w0 j - oddOff j) (-w0)).m).length d85, .int .i64 ((norm (sI true n w0 j - oddOff j) (-w0)).e)], rfl, ?_⟩
      replace b17 := (b17.past hbV20)
      replace b18 := (b18.past hbV20)
      refine hKx.out _ _ ⟨b17, b18⟩ ?_
      clear hKx Kx
      refine sxr [6] ?_
      refine rd1 (fun Kx hKx => ?_)
      replace ho74 := (ho74.past hbV20)
      replace ho81 := (ho81.past (bthru hbV19 hbV20))
      replace hT := (hT.past hbV20)
      refine sek 88 84 #[.agg #[.bool ((norm (sI true n w0 j) (-w0)).neg), .slice q74 (dig B32 (norm (sI true n w0 j) (-w0)).m).length d74, .int .i64 ((norm (sI true n w0 j) (-w0)).e)], .agg #[.bool ((norm (oddOff j) (-w0)).neg), .slice q81 (dig B32 (norm (oddOff j) (-w0)).m).length d81, .int .i64 ((norm (oddOff j) (-w0)).e)]] ?_
      ((with_reducible refine (splus _ _ (sI true n w0 j + oddOff j) w0 _ q74 q81 d74 d81 w.heap.size _ rfl (by omega) (ho74.mono (by omega)) (ho81.mono (by omega)) hSs hOs hT (by omega) rfl).mono ?_))
      rintro eV21 V21 ⟨q88, d88, rfl, ho88, hbV21⟩
      have hzV21 := hbV21.size
      refine ⟨.agg #[.bool ((norm (sI true n w0 j + oddOff j) (-w0)).neg), .slice q88 (dig B32 (norm (sI true n w0 j + oddOff j) (-w0)).m).length d88, .int .i64 ((norm (sI true n w0 j + oddOff j) (-w0)).e)], rfl, ?_⟩
      replace b17 := (b17.past hbV21)
      replace b18 := (b18.past hbV21)
      refine hKx.out _ _ ⟨b17, b18⟩ ?_
      clear hKx Kx
      refine tk 7 89 (.agg #[.bool ((norm (sI true n w0 j - oddOff j) (-w0)).neg), .slice q85 (dig B32 (norm (sI true n w0 j - oddOff j) (-w0)).m).length d85, .int .i64 ((norm (sI true n w0 j - oddOff j) (-w0)).e), .bool ((norm (sI true n w0 j + oddOff j) (-w0)).neg), .slice q88 (dig B32 (norm (sI true n w0 j + oddOff j) (-w0)).m).length d88, .int .i64 ((norm (sI true n w0 j + oddOff j) (-w0)).e)]) ⟨b17, b18⟩ ?_
      refine sxr [8] ?_
      refine rd1 (fun Kx hKx => ?_)
      replace b6 := (b6.past (bthru (bthru (bthru (bthru ((bthru (bthru (bthru ((bthru (bthru (bthru (bthru (bthru (bthru (bthru (bthru (bthru (bthru hbV2 hbV3) hbV4) hbV5) hbV6) hbV7) hbV8) hbV9) hbV10) hbV11) hbV12).trans (hOV13.below (by omega))) hbV14) hbV15) hbV16).trans (hOV17.below (by omega))) hbV18) hbV19) hbV20) hbV21))
      refine ssk none b6 hT64 0 #[.bool ((norm (sI true n w0 j - oddOff j) (-w0)).neg), .slice q85 (dig B32 (norm (sI true n w0 j - oddOff j) (-w0)).m).length d85, .int .i64 ((norm (sI true n w0 j - oddOff j) (-w0)).e), .bool ((norm (sI true n w0 j + oddOff j) (-w0)).neg), .slice q88 (dig B32 (norm (sI true n w0 j + oddOff j) (-w0)).m).length d88, .int .i64 ((norm (sI true n w0 j + oddOff j) (-w0)).e)] #[.bool ((norm (sI true n w0 j - oddOff j) (-w0)).neg), .slice q85 (dig B32 (norm (sI true n w0 j - oddOff j) (-w0)).m).length d85, .int .i64 ((norm (sI true n w0 j - oddOff j) (-w0)).e), .bool ((norm (sI true n w0 j + oddOff j) (-w0)).neg), .slice q88 (dig B32 (norm (sI true n w0 j + oddOff j) (-w0)).m).length d88, .int .i64 ((norm (sI true n w0 j + oddOff j) (-w0)).e)] ?_
      have boV22 := b6
      clear b6
      intro V22 hOV22 b6
      have hzV22 := hOV22.size
      replace b17 := (b17.only hOV22 (by omega))
      replace b18 := (b18.only hOV22 (by omega))
      refine hKx.out _ _ ⟨b17, b18⟩ ?_
      clear hKx Kx
      refine sx_done (by kernel_rfl) ?_
      refine sx_then ?_
      refine wp_ret ?_
      have ⟨b6_0, b6_1, b6_2, b6_3, b6_4, b6_5⟩ := b6.bx.e6
      repeat (first | with_reducible refine sx_thenret ?_ | with_reducible refine sx_blockret ?_)
      refine bodyPost_ret (v := .agg #[.bool ((norm (sI true n w0 j - oddOff j) (-w0)).neg), .slice q85 (dig B32 (norm (sI true n w0 j - oddOff j) (-w0)).m).length d85, .int .i64 ((norm (sI true n w0 j - oddOff j) (-w0)).e), .bool ((norm (sI true n w0 j + oddOff j) (-w0)).neg), .slice q88 (dig B32 (norm (sI true n w0 j + oddOff j) (-w0)).m).length d88, .int .i64 ((norm (sI true n w0 j + oddOff j) (-w0)).e)]) (by simp [results, Tryd.results60, go_sem, b6_0, b6_1, b6_2, b6_3, b6_4, b6_5]) rfl ?_
      replace ho85 := ((ho85.past hbV21).put boV22 hOV22 (by kernel_rfl))
      replace ho88 := (ho88.put boV22 hOV22 (by kernel_rfl))
      exact ⟨j, isJ_of ((dig_len_zero B32_two _).1 (by have := of_decide_eq_false f35; omega)) hne (by omega), q85, d85, q88, d88, rfl, ho85.mono (by omega), ho88.mono (by omega), ((bthru (bthru (bthru (bthru ((bthru (bthru (bthru ((bthru (bthru (bthru (bthru (bthru (bthru (bthru (bthru (bthru (bthru (bthru hbV1 hbV2) hbV3) hbV4) hbV5) hbV6) hbV7) hbV8) hbV9) hbV10) hbV11) hbV12).trans (hOV13.below (by omega))) hbV14) hbV15) hbV16).trans (hOV17.below (by omega))) hbV18) hbV19) hbV20) hbV21).trans (hOV22.below (by omega)))⟩
  | false =>
    have hT62 : SxAgg Tryd.prog 62 3 := sxAgg_of (by kernel_rfl) (by kernel_rfl)
    have hT64 : SxAgg Tryd.prog 64 6 := sxAgg_of (by kernel_rfl) (by kernel_rfl)
    refine calls_of_wp Tryd.func60 rfl ?_
    refine sx_frame (a' := ⟨((.int .i64 ((n : Nat) : Int)) :: (.int .i64 ((w0 : Nat) : Int)) :: (.bool false) :: undef :: undef :: undef :: undef :: undef :: undef :: undef :: undef :: undef :: undef :: undef :: undef :: undef :: undef :: undef :: undef :: undef :: undef :: undef :: undef :: undef :: undef :: undef :: undef :: undef :: undef :: undef :: undef :: undef :: undef :: undef :: undef :: undef :: undef :: undef :: undef :: undef :: undef :: undef :: undef :: undef :: undef :: undef :: undef :: undef :: undef :: undef :: undef :: undef :: undef :: undef :: undef :: undef :: undef :: undef :: undef :: undef :: undef :: undef :: undef :: undef :: undef :: undef :: undef :: undef :: undef :: undef :: undef :: undef :: undef :: undef :: undef :: undef :: undef :: undef :: undef :: undef :: undef :: undef :: undef :: undef :: undef :: undef :: undef :: undef :: undef :: undef :: []).toArray, []⟩) (by kernel_rfl) ?_
    refine wp_seq ?_
    refine sx_region ?_
    refine sn 6 #[.bool false, .slice none 0 0, .int .i64 0, .bool false, .slice none 0 0, .int .i64 0] 64 (fun V1 hbV1 hzV1 b6 => ?_)
    refine sx_nil ?_
    refine sx_then ?_
    refine wp_seq ?_
    refine sx_region ?_
    refine se 19 75 #[.int .i64 1] (fun Gx hGx => ?_)
    ((with_reducible refine (sof 1 1 rfl (by omega) V1).mono ?_))
    rintro eV2 V2 ⟨q19, d19, rfl, ho19, hbV2⟩
    have hzV2 := hbV2.size
    refine ⟨.slice q19 (dig B32 1).length d19, rfl, hGx _ _ ?_⟩
    clear hGx Gx
    refine sv 20 (.int .i64 ((w0 : Nat) : Int)) ?_
    refine se 21 79 #[.slice q19 (dig B32 1).length d19, .int .i64 ((w0 : Nat) : Int)] (fun Gx hGx => ?_)
    ((with_reducible refine (shl_any q19 _ d19 1 w0 _ ho19.rd rfl (by omega) (by omega)).mono ?_))
    rintro eV3 V3 ⟨q21, d21, rfl, ho21, hbV3⟩
    have hzV3 := hbV3.size
    refine ⟨.slice q21 (dig B32 (1 * 2 ^ w0)).length d21, rfl, hGx _ _ ?_⟩
    clear hGx Gx
    refine sv 7 (.slice q21 (dig B32 (1 * 2 ^ w0)).length d21) ?_
    refine sx_nil ?_
    refine sx_then ?_
    refine wp_seq ?_
    refine sx_region ?_
    refine sv 23 (.slice q21 (dig B32 (1 * 2 ^ w0)).length d21) ?_
    refine sv 24 (.int .i64 ((n : Nat) : Int)) ?_
    refine se 25 75 #[.int .i64 ((n : Nat) : Int)] (fun Gx hGx => ?_)
    ((with_reducible refine (sof _ n rfl (by omega) V3).mono ?_))
    rintro eV4 V4 ⟨q25, d25, rfl, ho25, hbV4⟩
    have hzV4 := hbV4.size
    refine ⟨.slice q25 (dig B32 n).length d25, rfl, hGx _ _ ?_⟩
    clear hGx Gx
    replace ho21 := (ho21.past hbV4)
    refine se 26 85 #[.slice q21 (dig B32 (1 * 2 ^ w0)).length d21, .slice q25 (dig B32 n).length d25] (fun Gx hGx => ?_)
    ((with_reducible refine (sdiv q21 q25 _ _ d21 d25 (1 * 2 ^ w0) n (2 ^ w0 / n ^ (2 * 0 + 1)) _ ho21.rd ho25.rd rfl rfl (by omega) (by omega) (by omega) (by rw [Nat.one_mul, Nat.pow_one])).mono ?_))
    rintro eV5 V5 ⟨q26, d26, r26, e26, f26, rfl, ho26, hbV5⟩
    have hzV5 := hbV5.size
    refine ⟨.tuple #[.slice q26 (dig B32 (2 ^ w0 / n ^ (2 * 0 + 1))).length d26, .slice r26 e26 f26], rfl, hGx _ _ ?_⟩
    clear hGx Gx
    refine sv 22 (.tuple #[.slice q26 (dig B32 (2 ^ w0 / n ^ (2 * 0 + 1))).length d26, .slice r26 e26 f26]) ?_
    refine sv 27 (.slice q26 (dig B32 (2 ^ w0 / n ^ (2 * 0 + 1))).length d26) ?_
    refine sv 28 (.slice r26 e26 f26) ?_
    refine sv 8 (.slice q26 (dig B32 (2 ^ w0 / n ^ (2 * 0 + 1))).length d26) ?_
    refine sv 9 (.slice r26 e26 f26) ?_
    refine sx_nil ?_
    refine sx_then ?_
    refine wp_seq ?_
    refine sx_region ?_
    refine sv 29 (.int .i64 ((n : Nat) : Int)) ?_
    refine sv 30 (.int .i64 ((n : Nat) : Int)) ?_
    refine sv 31 (.int .i64 ((n * n : Nat) : Int)) ?_ (hr := ((show _ = Result.ok (Next.value (.int .i64 (IntKind.wrap .i64 (((n : Nat) : Int) * ((n : Nat) : Int))))) _ by kernel_rfl).trans (congrArg (fun z => Result.ok (Next.value (.int .i64 z)) _) ((by rw [← Int.natCast_mul]; exact IntWalk.i64_in _ (by omega))))))
    refine se 32 75 #[.int .i64 ((n * n : Nat) : Int)] (fun Gx hGx => ?_)
    ((with_reducible refine (sof _ (n * n) rfl (by omega) V5).mono ?_))
    rintro eV6 V6 ⟨q32, d32, rfl, ho32, hbV6⟩
    have hzV6 := hbV6.size
    refine ⟨.slice q32 (dig B32 (n * n)).length d32, rfl, hGx _ _ ?_⟩
    clear hGx Gx
    refine sv 10 (.slice q32 (dig B32 (n * n)).length d32) ?_
    refine sx_nil ?_
    refine sx_then ?_
    refine wp_seq ?_
    refine sx_region ?_
    refine sv 11 (.slice none 0 0) ?_
    refine sv 12 (.slice none 0 0) ?_
    refine sx_nil ?_
    refine sx_then ?_
    refine wp_seq ?_
    refine sx_region ?_
    refine sv 13 (.int .i64 0) ?_
    refine sx_nil ?_
    refine sx_then ?_
    refine wp_seq ?_
    refine wp_seq ?_
    refine sx_region ?_
    refine sv 14 (.int .i64 1) ?_
    refine sx_nil ?_
    refine sx_then ?_
    refine wp_block ?_
    refine sx_frame (a' := ⟨((.int .i64 ((n : Nat) : Int)) :: (.int .i64 ((w0 : Nat) : Int)) :: (.bool false) :: undef :: undef :: undef :: (.pointer (some ⟨w.heap.size, 0, none⟩)) :: (.slice q21 (dig B32 (1 * 2 ^ w0)).length d21) :: (.slice q26 (dig B32 (2 ^ w0 / n ^ (2 * 0 + 1))).length d26) :: (.slice r26 e26 f26) :: (.slice q32 (dig B32 (n * n)).length d32) :: (.slice none 0 0) :: (.slice none 0 0) :: (.int .i64 0) :: (.int .i64 1) :: undef :: undef :: undef :: undef :: (.slice q19 (dig B32 1).length d19) :: (.int .i64 ((w0 : Nat) : Int)) :: (.slice q21 (dig B32 (1 * 2 ^ w0)).length d21) :: (.tuple #[.slice q26 (dig B32 (2 ^ w0 / n ^ (2 * 0 + 1))).length d26, .slice r26 e26 f26]) :: (.slice q21 (dig B32 (1 * 2 ^ w0)).length d21) :: (.int .i64 ((n : Nat) : Int)) :: (.slice q25 (dig B32 n).length d25) :: (.tuple #[.slice q26 (dig B32 (2 ^ w0 / n ^ (2 * 0 + 1))).length d26, .slice r26 e26 f26]) :: (.slice q26 (dig B32 (2 ^ w0 / n ^ (2 * 0 + 1))).length d26) :: (.slice r26 e26 f26) :: (.int .i64 ((n : Nat) : Int)) :: (.int .i64 ((n : Nat) : Int)) :: (.int .i64 ((n * n : Nat) : Int)) :: (.slice q32 (dig B32 (n * n)).length d32) :: undef :: undef :: undef :: undef :: undef :: undef :: undef :: undef :: undef :: undef :: undef :: undef :: undef :: undef :: undef :: undef :: undef :: undef :: undef :: undef :: undef :: undef :: undef :: undef :: undef :: undef :: undef :: undef :: undef :: undef :: undef :: undef :: undef :: undef :: undef :: undef :: undef :: undef :: undef :: undef :: undef :: undef :: undef :: undef :: undef :: undef :: undef :: undef :: undef :: undef :: undef :: undef :: undef :: undef :: undef :: undef :: undef :: []).toArray, []⟩) (by kernel_rfl) ?_
    refine sx_loop2 (fun (gk : Nat) U0 a' w' => ∃ (j : Nat) (p8 : Option Addr) (c8 : Nat) (p11 : Option Addr) (m11 : Nat) (c11 : Nat) (p12 : Option Addr) (m12 : Nat) (c12 : Nat), a' = ⟨((.int .i64 ((n : Nat) : Int)) :: (.int .i64 ((w0 : Nat) : Int)) :: (.bool false) :: undef :: undef :: undef :: (.pointer (some ⟨w.heap.size, 0, none⟩)) :: (.slice q21 (dig B32 (1 * 2 ^ w0)).length d21) :: (.slice p8 (dig B32 (2 ^ w0 / n ^ (2 * j + 1))).length c8) :: (.slice r26 e26 f26) :: (.slice q32 (dig B32 (n * n)).length d32) :: (.slice p11 m11 c11) :: (.slice p12 m12 c12) :: (.int .i64 ((j : Nat) : Int)) :: (.int .i64 ((2 * j + 1 : Nat) : Int)) :: (U0 15) :: (U0 16) :: undef :: undef :: (.slice q19 (dig B32 1).length d19) :: (.int .i64 ((w0 : Nat) : Int)) :: (.slice q21 (dig B32 (1 * 2 ^ w0)).length d21) :: (.tuple #[.slice q26 (dig B32 (2 ^ w0 / n ^ (2 * 0 + 1))).length d26, .slice r26 e26 f26]) :: (.slice q21 (dig B32 (1 * 2 ^ w0)).length d21) :: (.int .i64 ((n : Nat) : Int)) :: (.slice q25 (dig B32 n).length d25) :: (.tuple #[.slice q26 (dig B32 (2 ^ w0 / n ^ (2 * 0 + 1))).length d26, .slice r26 e26 f26]) :: (.slice q26 (dig B32 (2 ^ w0 / n ^ (2 * 0 + 1))).length d26) :: (.slice r26 e26 f26) :: (.int .i64 ((n : Nat) : Int)) :: (.int .i64 ((n : Nat) : Int)) :: (.int .i64 ((n * n : Nat) : Int)) :: (.slice q32 (dig B32 (n * n)).length d32) :: (U0 33) :: (U0 34) :: (U0 35) :: (U0 36) :: (U0 37) :: (U0 38) :: (U0 39) :: (U0 40) :: (U0 41) :: (U0 42) :: (U0 43) :: (U0 44) :: (U0 45) :: (U0 46) :: (U0 47) :: (U0 48) :: (U0 49) :: (U0 50) :: (U0 51) :: (U0 52) :: (U0 53) :: (U0 54) :: (U0 55) :: (U0 56) :: (U0 57) :: (U0 58) :: (U0 59) :: (U0 60) :: (U0 61) :: (U0 62) :: (U0 63) :: (U0 64) :: undef :: undef :: undef :: undef :: undef :: undef :: undef :: undef :: undef :: undef :: undef :: undef :: undef :: undef :: undef :: undef :: undef :: undef :: undef :: undef :: undef :: undef :: undef :: undef :: undef :: []).toArray, []⟩ ∧ (Own w' w.heap.size .u32 58 p8 c8 (dig B32 (2 ^ w0 / n ^ (2 * j + 1)))) ∧ (Own w' w.heap.size .u32 58 p11 c11 (dig B32 (sC (cP false) n w0 j))) ∧ (Own w' w.heap.size .u32 58 p12 c12 (dig B32 (sC (cM false) n w0 j))) ∧ Below V6.heap.size V6 w' ∧ (gk + j = w0 + 2) ∧ (∀ i, i < j → n ^ (2 * i + 1) ≤ 2 ^ w0) ∧ (m11 = (dig B32 (sC (cP false) n w0 j)).length) ∧ (m12 = (dig B32 (sC (cM false) n w0 j)).length)) (w0 + 2) ?_ (fun Gx hGx => ?_)
    · skip
      replace ho26 := (ho26.past hbV6)
      exact ⟨0, q26, d26, none, 0, 0, none, 0, 0, by kernel_rfl, ho26.mono (by omega), (by rw [show sC (cP false) n w0 0 = 0 from rfl, dig_zero]; exact Own.nil _ _ _ _), (by rw [show sC (cM false) n w0 0 = 0 from rfl, dig_zero]; exact Own.nil _ _ _ _), Below.refl _ _, (by omega), (fun i h => absurd h (by omega)), (by rw [show sC (cP false) n w0 0 = 0 from rfl, dig_zero]; rfl), (by rw [show sC (cM false) n w0 0 = 0 from rfl, dig_zero]; rfl)⟩
    rintro gk0 U0 _ V7 ⟨j, p8, c8, p11, m11, c11, p12, m12, c12, rfl, ho8, ho11, ho12, hbV7, hj, hne, hm11, hm12⟩
    refine hGx _ _ _ ?_
    clear hGx Gx
    have hzV7 := hbV7.size
    have lX : (dig B32 (2 ^ w0 / n ^ (2 * j + 1))).length ≤ 471 := term_len (P := w0) (Nat.le_trans (Nat.div_le_self _ _) (by omega)) (by omega)
    have lP : (dig B32 (sC (cP false) n w0 j)).length ≤ 471 := term_len (P := w0) (sC_le _ (cP_le false) hn _) (by omega)
    have lM : (dig B32 (sC (cM false) n w0 j)).length ≤ 471 := term_len (P := w0) (sC_le _ (cM_le false) hn _) (by omega)
    have lT : (dig B32 (tj n w0 j)).length ≤ 471 := term_len (P := w0) (Nat.le_trans (Nat.div_le_self _ _) (by omega)) (by omega)
    refine wp_seq ?_
    refine wp_seq ?_
    refine sx_region ?_
    refine sv 33 (.slice p8 (dig B32 (2 ^ w0 / n ^ (2 * j + 1))).length c8) ?_
    refine sv 34 (.int .i64 (((dig B32 (2 ^ w0 / n ^ (2 * j + 1))).length : Nat) : Int)) ?_
    rcases Bool.eq_false_or_eq_true (decide ((((dig B32 (2 ^ w0 / n ^ (2 * j + 1))).length : Nat) : Int) > 0)) with f35 | f35
    · skip
      refine sv 35 (.bool true) ?_ (hr := ((show _ = Result.ok (Next.value (.bool (decide ((((dig B32 (2 ^ w0 / n ^ (2 * j + 1))).length : Nat) : Int) > 0)))) _ from (by kernel_rfl)).trans (congrArg (fun z => Result.ok (Next.value (.bool z)) _) (show (decide ((((dig B32 (2 ^ w0 / n ^ (2 * j + 1))).length : Nat) : Int) > 0)) = true from f35))))
      refine sx_nil ?_
      refine sx_then ?_
      refine wp_cond_true (by kernel_rfl) ?_
      refine wp_skip ?_
      refine sx_then ?_
      refine wp_seq ?_
      refine wp_block ?_
      refine wp_seq ?_
      refine sx_region ?_
      have hx := le_of_quot (n := n) (P := w0) (j := j) (pos_of_len (by have := of_decide_eq_true f35; omega))
      have hj2 := j_le hn hx
      have hx2 : ∀ i, i < j + 1 → n ^ (2 * i + 1) ≤ 2 ^ w0 := fun i hi => by rcases Nat.lt_or_ge i j with h | h; exact hne i h; rw [show i = j by omega]; exact hx
      have lJ : (dig B32 (2 * j + 1)).length ≤ 471 := term_len (P := w0) (Nat.le_trans hj2 (Nat.le_trans (Nat.le_of_lt Nat.lt_two_pow_self) (by omega))) (by omega)
      refine sv 39 (.slice p8 (dig B32 (2 ^ w0 / n ^ (2 * j + 1))).length c8) ?_
      refine sv 40 (.int .i64 ((2 * j + 1 : Nat) : Int)) ?_
      refine se 41 75 #[.int .i64 ((2 * j + 1 : Nat) : Int)] (fun Gx hGx => ?_)
      ((with_reducible refine (sof _ (2 * j + 1) rfl (by omega) V7).mono ?_))
      rintro eV8 V8 ⟨q41, d41, rfl, ho41, hbV8⟩
      have hzV8 := hbV8.size
      refine ⟨.slice q41 (dig B32 (2 * j + 1)).length d41, rfl, hGx _ _ ?_⟩
      clear hGx Gx
      replace ho8 := (ho8.past hbV8)
      refine se 42 85 #[.slice p8 (dig B32 (2 ^ w0 / n ^ (2 * j + 1))).length c8, .slice q41 (dig B32 (2 * j + 1)).length d41] (fun Gx hGx => ?_)
      ((with_reducible refine (sdiv p8 q41 _ _ c8 d41 _ (2 * j + 1) (tj n w0 j) _ ho8.rd ho41.rd rfl rfl (by omega) (by omega) (by omega) (quot_term n w0 j)).mono ?_))
      rintro eV9 V9 ⟨q42, d42, r42, e42, f42, rfl, ho42, hbV9⟩
      have hzV9 := hbV9.size
      refine ⟨.tuple #[.slice q42 (dig B32 (tj n w0 j)).length d42, .slice r42 e42 f42], rfl, hGx _ _ ?_⟩
      clear hGx Gx
      refine sv 38 (.tuple #[.slice q42 (dig B32 (tj n w0 j)).length d42, .slice r42 e42 f42]) ?_
      refine sv 43 (.slice q42 (dig B32 (tj n w0 j)).length d42) ?_
      refine sv 44 (.slice r42 e42 f42) ?_
      refine sv 15 (.slice q42 (dig B32 (tj n w0 j)).length d42) ?_
      refine sv 16 (.slice r42 e42 f42) ?_
      refine sx_nil ?_
      refine sx_then ?_
      refine wp_seq ?_
      refine wp_seq ?_
      refine sx_region ?_
      refine sv 45 (.bool false) ?_
      refine sv 46 (.bool false) ?_
      refine so (some 47) ?_
      refine so (some 48) ?_
      refine so (some 49) ?_
      refine sv 50 (.bool false) ?_
      refine sx_nil ?_
      refine sx_then ?_
      refine wp_cond_false (by kernel_rfl) ?_
      refine sx_region ?_
      refine sv 54 (.slice p11 m11 c11) ?_
      refine sv 55 (.slice q42 (dig B32 (tj n w0 j)).length d42) ?_
      replace ho11 := (ho11.past (bthru hbV8 hbV9))
      refine se 56 74 #[.slice p11 m11 c11, .slice q42 (dig B32 (tj n w0 j)).length d42] (fun Gx hGx => ?_)
      ((with_reducible refine (sadd p11 q42 m11 _ c11 d42 _ (tj n w0 j) (sC (cP false) n w0 (j + 1)) _ ho11.rd ho42.rd hm11 rfl (by omega) (by omega) (by simp only [sC]; rw [show cP false j = 1 by unfold cP; simp, Nat.one_mul])).mono ?_))
      rintro eV10 V10 ⟨q56, d56, rfl, ho56, hbV10⟩
      have hzV10 := hbV10.size
      refine ⟨.slice q56 (dig B32 (sC (cP false) n w0 (j + 1))).length d56, rfl, hGx _ _ ?_⟩
      clear hGx Gx
      refine sv 11 (.slice q56 (dig B32 (sC (cP false) n w0 (j + 1))).length d56) ?_
      refine sx_nil ?_
      refine sx_then ?_
      refine wp_seq ?_
      refine sx_region ?_
      refine sv 58 (.slice p8 (dig B32 (2 ^ w0 / n ^ (2 * j + 1))).length c8) ?_
      refine sv 59 (.slice q32 (dig B32 (n * n)).length d32) ?_
      replace ho8 := (ho8.past (bthru hbV9 hbV10))
      replace ho32 := (ho32.past (bthru (bthru (bthru hbV7 hbV8) hbV9) hbV10))
      refine se 60 85 #[.slice p8 (dig B32 (2 ^ w0 / n ^ (2 * j + 1))).length c8, .slice q32 (dig B32 (n * n)).length d32] (fun Gx hGx => ?_)
      ((with_reducible refine (sdiv p8 q32 _ _ c8 d32 _ (n * n) _ _ ho8.rd ho32.rd rfl rfl (by omega) (by omega) (by omega) (quot_next n w0 j)).mono ?_))
      rintro eV11 V11 ⟨q60, d60, r60, e60, f60, rfl, ho60, hbV11⟩
      have hzV11 := hbV11.size
      refine ⟨.tuple #[.slice q60 (dig B32 (2 ^ w0 / n ^ (2 * (j + 1) + 1))).length d60, .slice r60 e60 f60], rfl, hGx _ _ ?_⟩
      clear hGx Gx
      refine sv 57 (.tuple #[.slice q60 (dig B32 (2 ^ w0 / n ^ (2 * (j + 1) + 1))).length d60, .slice r60 e60 f60]) ?_
      refine sv 61 (.slice q60 (dig B32 (2 ^ w0 / n ^ (2 * (j + 1) + 1))).length d60) ?_
      refine sv 62 (.slice r60 e60 f60) ?_
      refine sv 8 (.slice q60 (dig B32 (2 ^ w0 / n ^ (2 * (j + 1) + 1))).length d60) ?_
      refine sx_nil ?_
      refine sx_then ?_
      refine sx_region ?_
      refine sv 63 (.int .i64 ((j : Nat) : Int)) ?_
      refine sv 64 (.int .i64 ((j + 1 : Nat) : Int)) ?_ (hr := ((show _ = Result.ok (Next.value (.int .i64 (IntKind.wrap .i64 (((j : Nat) : Int) + 1)))) _ by kernel_rfl).trans (congrArg (fun z => Result.ok (Next.value (.int .i64 z)) _) ((by rw [Int.natCast_add]; exact IntWalk.i64_in _ (by omega))))))
      refine sv 13 (.int .i64 ((j + 1 : Nat) : Int)) ?_
      refine sx_nil ?_
      refine sx_inblock ?_
      refine sx_then ?_
      refine sx_region ?_
      refine sv 36 (.int .i64 ((2 * j + 1 : Nat) : Int)) ?_
      refine sv 37 (.int .i64 ((2 * (j + 1) + 1 : Nat) : Int)) ?_ (hr := ((show _ = Result.ok (Next.value (.int .i64 (IntKind.wrap .i64 (((2 * j + 1 : Nat) : Int) + 2)))) _ by kernel_rfl).trans (congrArg (fun z => Result.ok (Next.value (.int .i64 z)) _) ((by rw [show (((2 * j + 1 : Nat) : Int) + 2) = ((2 * (j + 1) + 1 : Nat) : Int) by omega]; exact IntWalk.i64_in _ (by omega))))))
      refine sv 14 (.int .i64 ((2 * (j + 1) + 1 : Nat) : Int)) ?_
      refine sx_nil ?_
      refine sx_then ?_
      refine ⟨gk0 - 1, (by omega), ?_⟩
      replace ho56 := (ho56.past hbV11)
      replace ho12 := (ho12.past (bthru (bthru (bthru hbV8 hbV9) hbV10) hbV11))
      exact ⟨j + 1, q60, d60, q56, (dig B32 (sC (cP false) n w0 (j + 1))).length, d56, p12, m12, c12, by kernel_rfl, ho60.mono (by omega), ho56.mono (by omega), (by rw [show sC (cM false) n w0 (j + 1) = sC (cM false) n w0 j by simp only [sC]; rw [show cM false j = 0 by unfold cM; simp]; omega]; exact ho12), (bthru (bthru (bthru (bthru hbV7 hbV8) hbV9) hbV10) hbV11), (by omega), hx2, rfl, (by rw [show sC (cM false) n w0 (j + 1) = sC (cM false) n w0 j by simp only [sC]; rw [show cM false j = 0 by unfold cM; simp]; omega]; exact hm12)⟩
    · skip
      refine sv 35 (.bool false) ?_ (hr := ((show _ = Result.ok (Next.value (.bool (decide ((((dig B32 (2 ^ w0 / n ^ (2 * j + 1))).length : Nat) : Int) > 0)))) _ from (by kernel_rfl)).trans (congrArg (fun z => Result.ok (Next.value (.bool z)) _) (show (decide ((((dig B32 (2 ^ w0 / n ^ (2 * j + 1))).length : Nat) : Int) > 0)) = false from f35))))
      refine sx_nil ?_
      refine sx_then ?_
      refine wp_cond_false (by kernel_rfl) ?_
      refine wp_exit ?_
      repeat (with_reducible refine sx_thenexit ?_)
      refine sx_exit (id := 0) ?_
      refine sx_then ?_
      refine wp_seq ?_
      refine sx_region ?_
      refine sv 65 (.slice p11 m11 c11) ?_
      refine sv 66 (.int .i64 ((w0 : Nat) : Int)) ?_
      refine sv 67 (.int .i64 (-((w0 : Nat) : Int))) ?_ (hr := ((show _ = Result.ok (Next.value (.int .i64 (IntKind.wrap .i64 (0 - ((w0 : Nat) : Int))))) _ by kernel_rfl).trans (congrArg (fun z => Result.ok (Next.value (.int .i64 z)) _) ((IntWalk.i64_in _ (by omega)).trans (by omega)))))
      replace hT := (hT.past (bthru (bthru (bthru (bthru (bthru (bthru hbV1 hbV2) hbV3) hbV4) hbV5) hbV6) hbV7))
      refine se 68 86 #[.slice p11 m11 c11, .int .i64 (-((w0 : Nat) : Int))] (fun Gx hGx => ?_)
      ((with_reducible refine (swhole p11 m11 c11 _ (-w0) _ (sC (cP false) n w0 j : Int) _ ho11.rd hm11 (by have := ho11.le_cap; omega) (by omega) (by omega) hT rfl rfl).mono ?_))
      rintro eV8 V8 ⟨q68, d68, rfl, ho68, hbV8⟩
      have hzV8 := hbV8.size
      refine ⟨.agg #[.bool ((norm (sC (cP false) n w0 j : Int) (-w0)).neg), .slice q68 (dig B32 (norm (sC (cP false) n w0 j : Int) (-w0)).m).length d68, .int .i64 ((norm (sC (cP false) n w0 j : Int) (-w0)).e)], rfl, hGx _ _ ?_⟩
      clear hGx Gx
      refine sv 69 (.slice p12 m12 c12) ?_
      refine sv 70 (.int .i64 ((w0 : Nat) : Int)) ?_
      refine sv 71 (.int .i64 (-((w0 : Nat) : Int))) ?_ (hr := ((show _ = Result.ok (Next.value (.int .i64 (IntKind.wrap .i64 (0 - ((w0 : Nat) : Int))))) _ by kernel_rfl).trans (congrArg (fun z => Result.ok (Next.value (.int .i64 z)) _) ((IntWalk.i64_in _ (by omega)).trans (by omega)))))
      replace ho12 := (ho12.past hbV8)
      replace hT := (hT.past hbV8)
      refine se 72 86 #[.slice p12 m12 c12, .int .i64 (-((w0 : Nat) : Int))] (fun Gx hGx => ?_)
      ((with_reducible refine (swhole p12 m12 c12 _ (-w0) _ (sC (cM false) n w0 j : Int) _ ho12.rd hm12 (by have := ho12.le_cap; omega) (by omega) (by omega) hT rfl rfl).mono ?_))
      rintro eV9 V9 ⟨q72, d72, rfl, ho72, hbV9⟩
      have hzV9 := hbV9.size
      refine ⟨.agg #[.bool ((norm (sC (cM false) n w0 j : Int) (-w0)).neg), .slice q72 (dig B32 (norm (sC (cM false) n w0 j : Int) (-w0)).m).length d72, .int .i64 ((norm (sC (cM false) n w0 j : Int) (-w0)).e)], rfl, hGx _ _ ?_⟩
      clear hGx Gx
      refine se 73 87 #[.agg #[.bool ((norm (sC (cM false) n w0 j : Int) (-w0)).neg), .slice q72 (dig B32 (norm (sC (cM false) n w0 j : Int) (-w0)).m).length d72, .int .i64 ((norm (sC (cM false) n w0 j : Int) (-w0)).e)]] (fun Gx hGx => ?_)
      ((with_reducible refine (sopp _ (-(sC (cM false) n w0 j : Int)) _ q72 d72 _ _ ho72 rfl).mono ?_))
      rintro eV10 V10 ⟨rfl, ho73, hbV10⟩
      have hzV10 := hbV10.size
      refine ⟨.agg #[.bool ((norm (-(sC (cM false) n w0 j : Int)) (-w0)).neg), .slice q72 (dig B32 (norm (-(sC (cM false) n w0 j : Int)) (-w0)).m).length d72, .int .i64 ((norm (-(sC (cM false) n w0 j : Int)) (-w0)).e)], rfl, hGx _ _ ?_⟩
      clear hGx Gx
      replace ho68 := (ho68.past (bthru hbV9 hbV10))
      replace hT := (hT.past (bthru hbV9 hbV10))
      refine se 74 84 #[.agg #[.bool ((norm (sC (cP false) n w0 j : Int) (-w0)).neg), .slice q68 (dig B32 (norm (sC (cP false) n w0 j : Int) (-w0)).m).length d68, .int .i64 ((norm (sC (cP false) n w0 j : Int) (-w0)).e)], .agg #[.bool ((norm (-(sC (cM false) n w0 j : Int)) (-w0)).neg), .slice q72 (dig B32 (norm (-(sC (cM false) n w0 j : Int)) (-w0)).m).length d72, .int .i64 ((norm (-(sC (cM false) n w0 j : Int)) (-w0)).e)]] (fun Gx hGx => ?_)
      ((with_reducible refine (splus _ _ (sI false n w0 j) w0 _ q68 q72 d68 d72 w.heap.size _ rfl (by omega) (ho68.mono (by omega)) (ho73.mono (by omega)) (small_sC (cP_le false) hn j (by omega)) (small_neg (small_sC (cM_le false) hn j (by omega))) hT (by omega) (by unfold sI; omega)).mono ?_))
      rintro eV11 V11 ⟨q74, d74, rfl, ho74, hbV11⟩
      have hzV11 := hbV11.size
      refine ⟨.agg #[.bool ((norm (sI false n w0 j) (-w0)).neg), .slice q74 (dig B32 (norm (sI false n w0 j) (-w0)).m).length d74, .int .i64 ((norm (sI false n w0 j) (-w0)).e)], rfl, hGx _ _ ?_⟩
      clear hGx Gx
      refine sn 17 #[.bool false, .slice none 0 0, .int .i64 0] 62 (fun V12 hbV12 hzV12 b17 => ?_)
      refine ss none b17 hT62 0 #[.bool ((norm (sI false n w0 j) (-w0)).neg), .slice q74 (dig B32 (norm (sI false n w0 j) (-w0)).m).length d74, .int .i64 ((norm (sI false n w0 j) (-w0)).e)] #[.bool ((norm (sI false n w0 j) (-w0)).neg), .slice q74 (dig B32 (norm (sI false n w0 j) (-w0)).m).length d74, .int .i64 ((norm (sI false n w0 j) (-w0)).e)] ?_
      have boV13 := b17
      clear b17
      intro V13 hOV13 b17
      have hzV13 := hOV13.size
      refine sx_nil ?_
      refine sx_then ?_
      refine wp_seq ?_
      refine sx_region ?_
      refine sv 75 (.int .i64 ((j : Nat) : Int)) ?_
      refine sv 76 (.int .i64 ((3 * j : Nat) : Int)) ?_ (hr := ((show _ = Result.ok (Next.value (.int .i64 (IntKind.wrap .i64 ((3 : Int) * ((j : Nat) : Int))))) _ by kernel_rfl).trans (congrArg (fun z => Result.ok (Next.value (.int .i64 z)) _) ((by rw [show (3 : Int) * ((j : Nat) : Int) = ((3 * j : Nat) : Int) by omega]; exact IntWalk.i64_in _ (by omega))))))
      refine sv 77 (.int .i64 ((3 * j + 2 : Nat) : Int)) ?_ (hr := ((show _ = Result.ok (Next.value (.int .i64 (IntKind.wrap .i64 (((3 * j : Nat) : Int) + 2)))) _ by kernel_rfl).trans (congrArg (fun z => Result.ok (Next.value (.int .i64 z)) _) ((by rw [show (((3 * j : Nat) : Int) + 2) = ((3 * j + 2 : Nat) : Int) by omega]; exact IntWalk.i64_in _ (by omega))))))
      have lJ4 := lJ3 j (by omega)
      refine se 78 75 #[.int .i64 ((3 * j + 2 : Nat) : Int)] (fun Gx hGx => ?_)
      ((with_reducible refine (sof _ (3 * j + 2) rfl (by omega) V13).mono ?_))
      rintro eV14 V14 ⟨q78, d78, rfl, ho78, hbV14⟩
      have hzV14 := hbV14.size
      refine ⟨.slice q78 (dig B32 (3 * j + 2)).length d78, rfl, hGx _ _ ?_⟩
      clear hGx Gx
      refine sv 79 (.int .i64 ((w0 : Nat) : Int)) ?_
      refine sv 80 (.int .i64 (-((w0 : Nat) : Int))) ?_ (hr := ((show _ = Result.ok (Next.value (.int .i64 (IntKind.wrap .i64 (0 - ((w0 : Nat) : Int))))) _ by kernel_rfl).trans (congrArg (fun z => Result.ok (Next.value (.int .i64 z)) _) ((IntWalk.i64_in _ (by omega)).trans (by omega)))))
      replace hT := (hT.past (bthru ((bthru hbV11 hbV12).trans (hOV13.below (by omega))) hbV14))
      refine se 81 86 #[.slice q78 (dig B32 (3 * j + 2)).length d78, .int .i64 (-((w0 : Nat) : Int))] (fun Gx hGx => ?_)
      ((with_reducible refine (swhole q78 _ d78 _ (-w0) _ (oddOff j) _ ho78.rd rfl ho78.le_cap (by omega) (by omega) hT rfl rfl).mono ?_))
      rintro eV15 V15 ⟨q81, d81, rfl, ho81, hbV15⟩
      have hzV15 := hbV15.size
      refine ⟨.agg #[.bool ((norm (oddOff j) (-w0)).neg), .slice q81 (dig B32 (norm (oddOff j) (-w0)).m).length d81, .int .i64 ((norm (oddOff j) (-w0)).e)], rfl, hGx _ _ ?_⟩
      clear hGx Gx
      refine sn 18 #[.bool false, .slice none 0 0, .int .i64 0] 62 (fun V16 hbV16 hzV16 b18 => ?_)
      refine ss none b18 hT62 0 #[.bool ((norm (oddOff j) (-w0)).neg), .slice q81 (dig B32 (norm (oddOff j) (-w0)).m).length d81, .int .i64 ((norm (oddOff j) (-w0)).e)] #[.bool ((norm (oddOff j) (-w0)).neg), .slice q81 (dig B32 (norm (oddOff j) (-w0)).m).length d81, .int .i64 ((norm (oddOff j) (-w0)).e)] ?_
      have boV17 := b18
      clear b18
      intro V17 hOV17 b18
      have hzV17 := hOV17.size
      refine sx_nil ?_
      refine sx_then ?_
      refine wp_seq ?_
      replace b17 := (b17.past ((bthru (bthru hbV14 hbV15) hbV16).trans (hOV17.below (by omega))))
      obtain ⟨V18, hVV18⟩ : ∃ V, V = (V17).drew := ⟨_, rfl⟩
      have hbV18 : Below (V17).heap.size (V17) V18 := by rw [hVV18]; exact (Below.refl _ _).drew
      have hzV18 : V18.heap.size = (V17).heap.size := by rw [hVV18]; rfl
      replace b17 := (b17.past hbV18)
      replace b18 := (b18.past hbV18)
      refine sxd _ (fun w' => Bt w' V11.heap.size 62 #[.bool ((norm (sI false n w0 j) (-w0)).neg), .slice q74 (dig B32 (norm (sI false n w0 j) (-w0)).m).length d74, .int .i64 ((norm (sI false n w0 j) (-w0)).e)] ∧ Bt w' V15.heap.size 62 #[.bool ((norm (oddOff j) (-w0)).neg), .slice q81 (dig B32 (norm (oddOff j) (-w0)).m).length d81, .int .i64 ((norm (oddOff j) (-w0)).e)]) hVV18 ⟨b17, b18⟩ ?_
      clear hVV18
      have hOs : Small (oddOff j) := small_nat (k := 14) (by omega) (by omega)
      have hSs : Small (sI false n w0 j) := small_sI false hn j (by omega)
      refine tk 0 82 (.agg #[.bool ((norm (sI false n w0 j) (-w0)).neg), .slice q74 (dig B32 (norm (sI false n w0 j) (-w0)).m).length d74, .int .i64 ((norm (sI false n w0 j) (-w0)).e)]) ⟨b17, b18⟩ ?_ (hy := fun w' hS => (exec_ld (by kernel_rfl) (run_ld hS.1 hT62 0 [.bool ((norm (sI false n w0 j) (-w0)).neg), .slice q74 (dig B32 (norm (sI false n w0 j) (-w0)).m).length d74, .int .i64 ((norm (sI false n w0 j) (-w0)).e)] (by kernel_rfl) (by kernel_rfl))))
      refine tk 1 83 (.agg #[.bool ((norm (oddOff j) (-w0)).neg), .slice q81 (dig B32 (norm (oddOff j) (-w0)).m).length d81, .int .i64 ((norm (oddOff j) (-w0)).e)]) ⟨b17, b18⟩ ?_ (hy := fun w' hS => (exec_ld (by kernel_rfl) (run_ld hS.2 hT62 0 [.bool ((norm (oddOff j) (-w0)).neg), .slice q81 (dig B32 (norm (oddOff j) (-w0)).m).length d81, .int .i64 ((norm (oddOff j) (-w0)).e)] (by kernel_rfl) (by kernel_rfl))))
      refine tk 4 86 (.agg #[.bool ((norm (sI false n w0 j) (-w0)).neg), .slice q74 (dig B32 (norm (sI false n w0 j) (-w0)).m).length d74, .int .i64 ((norm (sI false n w0 j) (-w0)).e)]) ⟨b17, b18⟩ ?_ (hy := fun w' hS => (exec_ld (by kernel_rfl) (run_ld hS.1 hT62 0 [.bool ((norm (sI false n w0 j) (-w0)).neg), .slice q74 (dig B32 (norm (sI false n w0 j) (-w0)).m).length d74, .int .i64 ((norm (sI false n w0 j) (-w0)).e)] (by kernel_rfl) (by kernel_rfl))))
      refine tk 5 87 (.agg #[.bool ((norm (oddOff j) (-w0)).neg), .slice q81 (dig B32 (norm (oddOff j) (-w0)).m).length d81, .int .i64 ((norm (oddOff j) (-w0)).e)]) ⟨b17, b18⟩ ?_ (hy := fun w' hS => (exec_ld (by kernel_rfl) (run_ld hS.2 hT62 0 [.bool ((norm (oddOff j) (-w0)).neg), .slice q81 (dig B32 (norm (oddOff j) (-w0)).m).length d81, .int .i64 ((norm (oddOff j) (-w0)).e)] (by kernel_rfl) (by kernel_rfl))))
      refine sxr [2] ?_
      refine rd1 (fun Kx hKx => ?_)
      replace ho81 := (ho81.past (bthru (hbV16.trans (hOV17.below (by omega))) hbV18))
      refine sek 84 87 #[.agg #[.bool ((norm (oddOff j) (-w0)).neg), .slice q81 (dig B32 (norm (oddOff j) (-w0)).m).length d81, .int .i64 ((norm (oddOff j) (-w0)).e)]] ?_
      ((with_reducible refine (sopp (oddOff j) (-(oddOff j)) _ q81 d81 _ _ ho81 rfl).mono ?_))
      rintro eV19 V19 ⟨rfl, ho84, hbV19⟩
      have hzV19 := hbV19.size
      refine ⟨.agg #[.bool ((norm (-(oddOff j)) (-w0)).neg), .slice q81 (dig B32 (norm (-(oddOff j)) (-w0)).m).length d81, .int .i64 ((norm (-(oddOff j)) (-w0)).e)], rfl, ?_⟩
      replace b17 := (b17.past hbV19)
      replace b18 := (b18.past hbV19)
      refine hKx.out _ _ ⟨b17, b18⟩ ?_
      clear hKx Kx
      refine sxr [3] ?_
      refine rd1 (fun Kx hKx => ?_)
      replace ho74 := (ho74.past (bthru (bthru ((bthru (bthru (bthru (hbV12.trans (hOV13.below (by omega))) hbV14) hbV15) hbV16).trans (hOV17.below (by omega))) hbV18) hbV19))
      replace hT := (hT.past (bthru (bthru ((bthru hbV15 hbV16).trans (hOV17.below (by omega))) hbV18) hbV19))
      refine sek 85 84 #[.agg #[.bool ((norm (sI false n w0 j) (-w0)).neg), .slice q74 (dig B32 (norm (sI false n w0 j) (-w0)).m).length d74, .int .i64 ((norm (sI false n w0 j) (-w0)).e)], .agg #[.bool ((norm (-(oddOff j)) (-w0)).neg), .slice q81 (dig B32 (norm (-(oddOff j)) (-w0)).m).length d81, .int .i64 ((norm (-(oddOff j)) (-w0)).e)]] ?_
      ((with_reducible refine (splus _ _ (sI false n w0 j - oddOff j) w0 _ q74 q81 d74 d81 w.heap.size _ rfl (by omega) (ho74.mono (by omega)) (ho84.mono (by omega)) hSs (small_neg hOs) hT (by omega) (by omega)).mono ?_))
      rintro eV20 V20 ⟨q85, d85, rfl, ho85, hbV20⟩
      have hzV20 := hbV20.size
      refine ⟨.agg #[.bool ((norm (sI false n w0 j - oddOff j) (-w0)).neg), .slice q85 (dig B32 (norm (sI false n w0 j - oddOff j) (-w0)).m).length d85, .int .i64 ((norm (sI false n w0 j - oddOff j) (-w0)).e)], rfl, ?_⟩
      replace b17 := (b17.past hbV20)
      replace b18 := (b18.past hbV20)
      refine hKx.out _ _ ⟨b17, b18⟩ ?_
      clear hKx Kx
      refine sxr [6] ?_
      refine rd1 (fun Kx hKx => ?_)
      replace ho74 := (ho74.past hbV20)
      replace ho81 := (ho81.past (bthru hbV19 hbV20))
      replace hT := (hT.past hbV20)
      refine sek 88 84 #[.agg #[.bool ((norm (sI false n w0 j) (-w0)).neg), .slice q74 (dig B32 (norm (sI false n w0 j) (-w0)).m).length d74, .int .i64 ((norm (sI false n w0 j) (-w0)).e)], .agg #[.bool ((norm (oddOff j) (-w0)).neg), .slice q81 (dig B32 (norm (oddOff j) (-w0)).m).length d81, .int .i64 ((norm (oddOff j) (-w0)).e)]] ?_
      ((with_reducible refine (splus _ _ (sI false n w0 j + oddOff j) w0 _ q74 q81 d74 d81 w.heap.size _ rfl (by omega) (ho74.mono (by omega)) (ho81.mono (by omega)) hSs hOs hT (by omega) rfl).mono ?_))
      rintro eV21 V21 ⟨q88, d88, rfl, ho88, hbV21⟩
      have hzV21 := hbV21.size
      refine ⟨.agg #[.bool ((norm (sI false n w0 j + oddOff j) (-w0)).neg), .slice q88 (dig B32 (norm (sI false n w0 j + oddOff j) (-w0)).m).length d88, .int .i64 ((norm (sI false n w0 j + oddOff j) (-w0)).e)], rfl, ?_⟩
      replace b17 := (b17.past hbV21)
      replace b18 := (b18.past hbV21)
      refine hKx.out _ _ ⟨b17, b18⟩ ?_
      clear hKx Kx
      refine tk 7 89 (.agg #[.bool ((norm (sI false n w0 j - oddOff j) (-w0)).neg), .slice q85 (dig B32 (norm (sI false n w0 j - oddOff j) (-w0)).m).length d85, .int .i64 ((norm (sI false n w0 j - oddOff j) (-w0)).e), .bool ((norm (sI false n w0 j + oddOff j) (-w0)).neg), .slice q88 (dig B32 (norm (sI false n w0 j + oddOff j) (-w0)).m).length d88, .int .i64 ((norm (sI false n w0 j + oddOff j) (-w0)).e)]) ⟨b17, b18⟩ ?_
      refine sxr [8] ?_
      refine rd1 (fun Kx hKx => ?_)
      replace b6 := (b6.past (bthru (bthru (bthru (bthru ((bthru (bthru (bthru ((bthru (bthru (bthru (bthru (bthru (bthru (bthru (bthru (bthru (bthru hbV2 hbV3) hbV4) hbV5) hbV6) hbV7) hbV8) hbV9) hbV10) hbV11) hbV12).trans (hOV13.below (by omega))) hbV14) hbV15) hbV16).trans (hOV17.below (by omega))) hbV18) hbV19) hbV20) hbV21))
      refine ssk none b6 hT64 0 #[.bool ((norm (sI false n w0 j - oddOff j) (-w0)).neg), .slice q85 (dig B32 (norm (sI false n w0 j - oddOff j) (-w0)).m).length d85, .int .i64 ((norm (sI false n w0 j - oddOff j) (-w0)).e), .bool ((norm (sI false n w0 j + oddOff j) (-w0)).neg), .slice q88 (dig B32 (norm (sI false n w0 j + oddOff j) (-w0)).m).length d88, .int .i64 ((norm (sI false n w0 j + oddOff j) (-w0)).e)] #[.bool ((norm (sI false n w0 j - oddOff j) (-w0)).neg), .slice q85 (dig B32 (norm (sI false n w0 j - oddOff j) (-w0)).m).length d85, .int .i64 ((norm (sI false n w0 j - oddOff j) (-w0)).e), .bool ((norm (sI false n w0 j + oddOff j) (-w0)).neg), .slice q88 (dig B32 (norm (sI false n w0 j + oddOff j) (-w0)).m).length d88, .int .i64 ((norm (sI false n w0 j + oddOff j) (-w0)).e)] ?_
      have boV22 := b6
      clear b6
      intro V22 hOV22 b6
      have hzV22 := hOV22.size
      replace b17 := (b17.only hOV22 (by omega))
      replace b18 := (b18.only hOV22 (by omega))
      refine hKx.out _ _ ⟨b17, b18⟩ ?_
      clear hKx Kx
      refine sx_done (by kernel_rfl) ?_
      refine sx_then ?_
      refine wp_ret ?_
      have ⟨b6_0, b6_1, b6_2, b6_3, b6_4, b6_5⟩ := b6.bx.e6
      repeat (first | with_reducible refine sx_thenret ?_ | with_reducible refine sx_blockret ?_)
      refine bodyPost_ret (v := .agg #[.bool ((norm (sI false n w0 j - oddOff j) (-w0)).neg), .slice q85 (dig B32 (norm (sI false n w0 j - oddOff j) (-w0)).m).length d85, .int .i64 ((norm (sI false n w0 j - oddOff j) (-w0)).e), .bool ((norm (sI false n w0 j + oddOff j) (-w0)).neg), .slice q88 (dig B32 (norm (sI false n w0 j + oddOff j) (-w0)).m).length d88, .int .i64 ((norm (sI false n w0 j + oddOff j) (-w0)).e)]) (by simp [results, Tryd.results60, go_sem, b6_0, b6_1, b6_2, b6_3, b6_4, b6_5]) rfl ?_
      replace ho85 := ((ho85.past hbV21).put boV22 hOV22 (by kernel_rfl))
      replace ho88 := (ho88.put boV22 hOV22 (by kernel_rfl))
      exact ⟨j, isJ_of ((dig_len_zero B32_two _).1 (by have := of_decide_eq_false f35; omega)) hne (by omega), q85, d85, q88, d88, rfl, ho85.mono (by omega), ho88.mono (by omega), ((bthru (bthru (bthru (bthru ((bthru (bthru (bthru ((bthru (bthru (bthru (bthru (bthru (bthru (bthru (bthru (bthru (bthru (bthru hbV1 hbV2) hbV3) hbV4) hbV5) hbV6) hbV7) hbV8) hbV9) hbV10) hbV11) hbV12).trans (hOV13.below (by omega))) hbV14) hbV15) hbV16).trans (hOV17.below (by omega))) hbV18) hbV19) hbV20) hbV21).trans (hOV22.below (by omega)))⟩

end Go.Proofs.YtehodhanojgkgaaDoor

namespace Go.Proofs.YtehodhanojgkgaaDoor
open Go.RowKit Go.Slip

theorem inW_nn {w : World} {base : Nat} {z : Int} {w0 : Nat} {p : Option Addr} {c : Nat} (h : Own w base .u32 58 p c (dig B32 (norm z (-w0)).m)) (hw : w0 ≤ 15000) (hz : Small z) : InW w base ⟨(norm z (-w0)).neg, p, c, (norm z (-w0)).m, (norm z (-w0)).e⟩ ∧ Sm ⟨(norm z (-w0)).neg, p, c, (norm z (-w0)).m, (norm z (-w0)).e⟩ := by
  obtain ⟨h1, h2, h3⟩ := len_nn z w0 hw hz
  exact ⟨Own.toW h (by omega) (by omega) (by omega), ⟨by show (dig B32 (norm z (-w0)).m).length ≤ 1300; omega, by show -100000 ≤ (norm z (-w0)).e; omega, by show (norm z (-w0)).e ≤ 100000; omega⟩⟩

/-- Times a whole number. -/
theorem stimes (l h f : Int) (w0 base : Nat) (W0 : Int) (p q r : Option Addr) (c d e : Nat) (w : World) (hW : W0 = w0) (hw0 : 20 ≤ w0) (hw : w0 ≤ 1500) (hp : Own w base .u32 58 p c (dig B32 (norm l (-w0)).m)) (hq : Own w base .u32 58 q d (dig B32 (norm h (-w0)).m)) (hr : Own w base .u32 58 r e (dig B32 (norm f 0).m))
    (sl : Small l) (sh : Small h) (sf : Small f) (g1 : (l * f).natAbs < 2 ^ (w0 + 7)) (g2 : (h * f).natAbs < 2 ^ (w0 + 7)) (hT : TabW w) (hbase : base ≤ w.heap.size) :
    Calls Tryd.prog 58 #[.agg #[.bool (norm l (-w0)).neg, .slice p (dig B32 (norm l (-w0)).m).length c, .int .i64 (norm l (-w0)).e, .bool (norm h (-w0)).neg, .slice q (dig B32 (norm h (-w0)).m).length d, .int .i64 (norm h (-w0)).e],
        .agg #[.bool (norm f 0).neg, .slice r (dig B32 (norm f 0).m).length e, .int .i64 (norm f 0).e, .bool (norm f 0).neg, .slice r (dig B32 (norm f 0).m).length e, .int .i64 (norm f 0).e], .int .i64 W0] w
      fun en w' => ∃ L H, TSpec l h f L H ∧ GivesB w base (norm L (-w0)) (norm H (-w0)) en w' := by
  subst hW
  obtain ⟨i1, s1⟩ := inW_nn hp (by omega) sl
  obtain ⟨i2, s2⟩ := inW_nn hq (by omega) sh
  have hr' : Own w base .u32 58 r e (dig B32 (norm f (-((0 : Nat) : Int))).m) := hr
  obtain ⟨i3, s3⟩ := inW_nn hr' (by omega) sf
  obtain ⟨L, H, e1, e2, e3, e4, e5, e6⟩ := times_nn (l := l) (h := h) f w0 w0 7 (by omega) g1 g2
  refine (timesB_any _ _ _ _ w0 base w i1 i2 i3 i3 s1 s2 s3 s3 (by omega) hT hbase).mono fun en w' hh => ?_
  refine ⟨L, H, ⟨e3, by simpa using e4, e5, by simpa using e6⟩, ?_⟩
  have hv : ∀ d : Dv, ∀ p c, (⟨d.neg, p, c, d.m, d.e⟩ : Rw).v = d := fun _ _ _ => rfl
  simp only [hv] at hh
  rw [show (norm f (-((0 : Nat) : Int))) = norm f 0 from rfl, e1, e2] at hh
  exact hh

theorem splusB (l h l' h' : Int) (w0 base : Nat) (W0 : Int) (p q p' q' : Option Addr) (c d c' d' : Nat) (w : World) (hW : W0 = w0) (hw0 : 20 ≤ w0) (hw : w0 ≤ 1500) (hp : Own w base .u32 58 p c (dig B32 (norm l (-w0)).m)) (hq : Own w base .u32 58 q d (dig B32 (norm h (-w0)).m))
    (hp' : Own w base .u32 58 p' c' (dig B32 (norm l' (-w0)).m)) (hq' : Own w base .u32 58 q' d' (dig B32 (norm h' (-w0)).m)) (h1 : l ≤ h) (h2 : l' ≤ h')
    (sl : Small l) (sh : Small h) (sl' : Small l') (sh' : Small h') (g1 : (l + l').natAbs < 2 ^ (w0 + 7)) (g2 : (h + h').natAbs < 2 ^ (w0 + 7)) (hT : TabW w) (hbase : base ≤ w.heap.size) :
    Calls Tryd.prog 59 #[.agg #[.bool (norm l (-w0)).neg, .slice p (dig B32 (norm l (-w0)).m).length c, .int .i64 (norm l (-w0)).e, .bool (norm h (-w0)).neg, .slice q (dig B32 (norm h (-w0)).m).length d, .int .i64 (norm h (-w0)).e],
        .agg #[.bool (norm l' (-w0)).neg, .slice p' (dig B32 (norm l' (-w0)).m).length c', .int .i64 (norm l' (-w0)).e, .bool (norm h' (-w0)).neg, .slice q' (dig B32 (norm h' (-w0)).m).length d', .int .i64 (norm h' (-w0)).e], .int .i64 W0] w
      fun en w' => ∃ L H, PSpec l h l' h' L H ∧ GivesB w base (norm L (-w0)) (norm H (-w0)) en w' := by
  subst hW
  obtain ⟨i1, s1⟩ := inW_nn hp (by omega) sl
  obtain ⟨i2, s2⟩ := inW_nn hq (by omega) sh
  obtain ⟨i3, s3⟩ := inW_nn hp' (by omega) sl'
  obtain ⟨i4, s4⟩ := inW_nn hq' (by omega) sh'
  obtain ⟨L, H, e1, e2, e3, e4, e5, e6⟩ := plus_nn h1 h2 w0 w0 7 (by omega) g1 g2
  refine (plusB_any _ _ _ _ w0 base w i1 i2 i3 i4 s1 s2 s3 s4 (by omega) hT hbase).mono fun en w' hh => ?_
  refine ⟨L, H, ⟨e3, by simpa using e4, e5, by simpa using e6⟩, ?_⟩
  have hv : ∀ d : Dv, ∀ p c, (⟨d.neg, p, c, d.m, d.e⟩ : Rw).v = d := fun _ _ _ => rfl
  simp only [hv] at hh
  rw [e1, e2] at hh
  exact hh

/-- What is told of a small ball. -/
theorem sdone (l h : Int) (w0 base : Nat) (p q : Option Addr) (c d : Nat) (w : World) (hw : w0 ≤ 15000) (hp : Own w base .u32 58 p c (dig B32 (norm l (-w0)).m)) (hq : Own w base .u32 58 q d (dig B32 (norm h (-w0)).m)) (sl : Small l) (sh : Small h) :
    Calls Tryd.prog 35 #[.agg #[.bool (norm l (-w0)).neg, .slice p (dig B32 (norm l (-w0)).m).length c, .int .i64 (norm l (-w0)).e, .bool (norm h (-w0)).neg, .slice q (dig B32 (norm h (-w0)).m).length d, .int .i64 (norm h (-w0)).e]] w
      (GivesBE w base (norm l (-w0)) (norm h (-w0)) 0) := by
  obtain ⟨a1, -, -⟩ := len_nn l w0 hw sl
  obtain ⟨b1, -, -⟩ := len_nn h w0 hw sh
  have e1 := errD_nn l w0 hw sl
  have e2 := errD_nn h w0 hw sh
  have eB : errB (norm l (-w0)) (norm h (-w0)) = 0 := by unfold errB; rw [if_pos e1, e2]
  have := rawDone_any ⟨(norm l (-w0)).neg, p, c, (norm l (-w0)).m, (norm l (-w0)).e⟩ ⟨(norm h (-w0)).neg, q, d, (norm h (-w0)).m, (norm h (-w0)).e⟩ base w ⟨hp, by show (dig B32 (norm l (-w0)).m).length ≤ 1000000; omega⟩ ⟨hq, by show (dig B32 (norm h (-w0)).m).length ≤ 1000000; omega⟩
  rw [show (⟨(norm l (-w0)).neg, p, c, (norm l (-w0)).m, (norm l (-w0)).e⟩ : Rw).v = norm l (-w0) from rfl, show (⟨(norm h (-w0)).neg, q, d, (norm h (-w0)).m, (norm h (-w0)).e⟩ : Rw).v = norm h (-w0) from rfl] at this
  unfold doneL doneH at this
  rw [eB, if_pos rfl, if_pos rfl] at this
  exact this

theorem within_any (n a b : Int) (w : World) :
    Calls Tryd.prog 33 #[.int .i64 n, .int .i64 a, .int .i64 b] w fun en w' => en = .returned (.bool (decide (a ≤ n ∧ n ≤ b))) ∧ Below w.heap.size w w' := by
  by_cases h1 : a ≤ n
  · by_cases h2 : n ≤ b
    · rw [decide_eq_true (show a ≤ n ∧ n ≤ b from ⟨h1, h2⟩)]
      refine calls_of_wp Tryd.func33 rfl ?_
      refine sx_frame (a' := ⟨((.int .i64 n) :: (.int .i64 a) :: (.int .i64 b) :: undef :: undef :: undef :: undef :: undef :: undef :: undef :: undef :: undef :: undef :: undef :: undef :: []).toArray, []⟩) (by kernel_rfl) ?_
      refine wp_seq ?_
      refine sx_region ?_
      refine sv 6 (.bool false) ?_
      refine sx_nil ?_
      refine sx_then ?_
      refine wp_seq ?_
      refine sx_region ?_
      refine sv 7 (.int .i64 n) ?_
      refine sv 8 (.int .i64 a) ?_
      refine sv 9 (.bool true) ?_ (hr := ((show _ = Result.ok (Next.value (.bool (decide (n ≥ a)))) _ from (by kernel_rfl)).trans (congrArg (fun z => Result.ok (Next.value (.bool z)) _) (show (decide (n ≥ a)) = true from decide_eq_true h1))))
      refine sv 10 (.bool true) ?_
      refine sv 11 (.int .i64 n) ?_
      refine sv 12 (.int .i64 b) ?_
      refine sv 13 (.bool true) ?_ (hr := ((show _ = Result.ok (Next.value (.bool (decide (n ≤ b)))) _ from (by kernel_rfl)).trans (congrArg (fun z => Result.ok (Next.value (.bool z)) _) (show (decide (n ≤ b)) = true from decide_eq_true h2))))
      refine sv 14 (.bool true) ?_
      refine sv 6 (.bool true) ?_
      refine sx_nil ?_
      refine sx_then ?_
      refine wp_ret ?_
      repeat (first | with_reducible refine sx_thenret ?_ | with_reducible refine sx_blockret ?_)
      refine bodyPost_ret (v := .bool true) (by simp [results, Tryd.results33, go_sem]) rfl ?_
      exact ⟨rfl, (Below.refl _ _)⟩
    · rw [decide_eq_false (fun h : a ≤ n ∧ n ≤ b => h2 h.2)]
      refine calls_of_wp Tryd.func33 rfl ?_
      refine sx_frame (a' := ⟨((.int .i64 n) :: (.int .i64 a) :: (.int .i64 b) :: undef :: undef :: undef :: undef :: undef :: undef :: undef :: undef :: undef :: undef :: undef :: undef :: []).toArray, []⟩) (by kernel_rfl) ?_
      refine wp_seq ?_
      refine sx_region ?_
      refine sv 6 (.bool false) ?_
      refine sx_nil ?_
      refine sx_then ?_
      refine wp_seq ?_
      refine sx_region ?_
      refine sv 7 (.int .i64 n) ?_
      refine sv 8 (.int .i64 a) ?_
      refine sv 9 (.bool true) ?_ (hr := ((show _ = Result.ok (Next.value (.bool (decide (n ≥ a)))) _ from (by kernel_rfl)).trans (congrArg (fun z => Result.ok (Next.value (.bool z)) _) (show (decide (n ≥ a)) = true from decide_eq_true h1))))
      refine sv 10 (.bool true) ?_
      refine sv 11 (.int .i64 n) ?_
      refine sv 12 (.int .i64 b) ?_
      refine sv 13 (.bool false) ?_ (hr := ((show _ = Result.ok (Next.value (.bool (decide (n ≤ b)))) _ from (by kernel_rfl)).trans (congrArg (fun z => Result.ok (Next.value (.bool z)) _) (show (decide (n ≤ b)) = false from decide_eq_false h2))))
      refine sv 14 (.bool false) ?_
      refine sv 6 (.bool false) ?_
      refine sx_nil ?_
      refine sx_then ?_
      refine wp_ret ?_
      repeat (first | with_reducible refine sx_thenret ?_ | with_reducible refine sx_blockret ?_)
      refine bodyPost_ret (v := .bool false) (by simp [results, Tryd.results33, go_sem]) rfl ?_
      exact ⟨rfl, (Below.refl _ _)⟩
  · rw [decide_eq_false (fun h : a ≤ n ∧ n ≤ b => h1 h.1)]
    refine calls_of_wp Tryd.func33 rfl ?_
    refine sx_frame (a' := ⟨((.int .i64 n) :: (.int .i64 a) :: (.int .i64 b) :: undef :: undef :: undef :: undef :: undef :: undef :: undef :: undef :: undef :: undef :: undef :: undef :: []).toArray, []⟩) (by kernel_rfl) ?_
    refine wp_seq ?_
    refine sx_region ?_
    refine sv 6 (.bool false) ?_
    refine sx_nil ?_
    refine sx_then ?_
    refine wp_seq ?_
    refine sx_region ?_
    refine sv 7 (.int .i64 n) ?_
    refine sv 8 (.int .i64 a) ?_
    refine sv 9 (.bool false) ?_ (hr := ((show _ = Result.ok (Next.value (.bool (decide (n ≥ a)))) _ from (by kernel_rfl)).trans (congrArg (fun z => Result.ok (Next.value (.bool z)) _) (show (decide (n ≥ a)) = false from decide_eq_false h1))))
    refine sv 10 (.bool false) ?_
    refine so (some 11) ?_
    refine so (some 12) ?_
    refine so (some 13) ?_
    refine sv 14 (.bool false) ?_
    refine sv 6 (.bool false) ?_
    refine sx_nil ?_
    refine sx_then ?_
    refine wp_ret ?_
    repeat (first | with_reducible refine sx_thenret ?_ | with_reducible refine sx_blockret ?_)
    refine bodyPost_ret (v := .bool false) (by simp [results, Tryd.results33, go_sem]) rfl ?_
    exact ⟨rfl, (Below.refl _ _)⟩

/-- A ball that holds a number. -/
def GivesX (w : World) (X : Nat → Int) (w0 : Nat) (en : Ending) (w' : World) : Prop :=
  ∃ L H, BallOf X w0 L H ∧ GivesB w w.heap.size (norm L (-w0)) (norm H (-w0)) en w'
def GivesXE (w : World) (X : Nat → Int) (w0 : Nat) (en : Ending) (w' : World) : Prop :=
  ∃ L H, BallOf X w0 L H ∧ GivesBE w w.heap.size (norm L (-w0)) (norm H (-w0)) 0 en w'

end Go.Proofs.YtehodhanojgkgaaDoor

namespace Go.Proofs.YtehodhanojgkgaaDoor
open Go.RowKit Go.Slip

/-- What a sum's call leaves. -/
def GivesOddO (w : World) (t : Bool) (n w0 : Nat) (en : Ending) (w' : World) : Prop :=
  ∃ J, IsJ n w0 J ∧ GivesB w w.heap.size (norm (sI t n w0 J - oddO J) (-w0)) (norm (sI t n w0 J + oddO J) (-w0)) en w'
theorem oddO_any (N W0 : Int) (n w0 : Nat) (t : Bool) (w : World) (hN : N = n) (hW : W0 = w0) (hn : 2 ≤ n) (hn2 : n ≤ 10000) (hw : w0 ≤ 1500) (hT : TabW w) :
    Calls Tryd.prog 60 #[.int .i64 N, .int .i64 W0, .bool t] w (GivesOddO w t n w0) := odd_any N W0 n w0 t w hN hW hn hn2 hw hT

set_option maxHeartbeats 2000000 in
set_option maxRecDepth 100000 in
theorem rawPi_any (b : Nat) (w : World) (hb1 : 10 ≤ b) (hb2 : b ≤ 1000) (hT : TabW w) :
    Calls Tryd.prog 34 #[.int .i64 ((b : Nat) : Int)] w (GivesX w Xpi (b + 20)) := by
  have hT64 : SxAgg Tryd.prog 64 6 := sxAgg_of (by kernel_rfl) (by kernel_rfl)
  refine calls_of_wp Tryd.func34 rfl ?_
  refine sx_frame (a' := ⟨((.int .i64 ((b : Nat) : Int)) :: undef :: undef :: undef :: undef :: undef :: undef :: undef :: undef :: undef :: undef :: undef :: undef :: undef :: undef :: undef :: undef :: undef :: undef :: undef :: []).toArray, []⟩) (by kernel_rfl) ?_
  refine wp_seq ?_
  refine sx_region ?_
  refine sn 2 #[.bool false, .slice none 0 0, .int .i64 0, .bool false, .slice none 0 0, .int .i64 0] 64 (fun V1 hbV1 hzV1 b2 => ?_)
  refine sx_nil ?_
  refine sx_then ?_
  refine wp_seq ?_
  refine sx_region ?_
  refine sv 5 (.int .i64 ((b : Nat) : Int)) ?_
  refine sv 6 (.int .i64 ((b + 20 : Nat) : Int)) ?_ (hr := ((show _ = Result.ok (Next.value (.int .i64 (IntKind.wrap .i64 (((b : Nat) : Int) + 20)))) _ by kernel_rfl).trans (congrArg (fun z => Result.ok (Next.value (.int .i64 z)) _) ((by rw [show ((b : Nat) : Int) + 20 = ((b + 20 : Nat) : Int) by omega]; exact IntWalk.i64_in _ (by omega))))))
  refine sv 3 (.int .i64 ((b + 20 : Nat) : Int)) ?_
  refine sx_nil ?_
  refine sx_then ?_
  refine wp_seq ?_
  refine sx_region ?_
  refine sv 7 (.int .i64 ((b + 20 : Nat) : Int)) ?_
  replace hT := (hT.past hbV1)
  refine se 8 60 #[.int .i64 5, .int .i64 ((b + 20 : Nat) : Int), .bool true] (fun Gx hGx => ?_)
  ((with_reducible refine (oddO_any 5 _ 5 (b + 20) true _ rfl rfl (by omega) (by omega) (by omega) hT).mono ?_))
  rintro eV2 V2 ⟨J1, hk1, p8, c8, q8, d8, rfl, ho8, hq8, hbV2⟩
  have hzV2 := hbV2.size
  refine ⟨.agg #[.bool ((norm (sI true 5 (b + 20) J1 - oddO J1) (-(b + 20 : Nat))).neg), .slice p8 (dig B32 (norm (sI true 5 (b + 20) J1 - oddO J1) (-(b + 20 : Nat))).m).length c8, .int .i64 ((norm (sI true 5 (b + 20) J1 - oddO J1) (-(b + 20 : Nat))).e), .bool ((norm (sI true 5 (b + 20) J1 + oddO J1) (-(b + 20 : Nat))).neg), .slice q8 (dig B32 (norm (sI true 5 (b + 20) J1 + oddO J1) (-(b + 20 : Nat))).m).length d8, .int .i64 ((norm (sI true 5 (b + 20) J1 + oddO J1) (-(b + 20 : Nat))).e)], rfl, hGx _ _ ?_⟩
  clear hGx Gx
  replace hT := (hT.past hbV2)
  refine se 9 61 #[.int .i64 16] (fun Gx hGx => ?_)
  ((with_reducible refine (serWhole_any (16) _ (by omega) hT).mono ?_))
  rintro eV3 V3 ⟨p9, c9, rfl, ho9, hbV3⟩
  have hzV3 := hbV3.size
  refine ⟨.agg #[.bool ((norm (16) 0).neg), .slice p9 (dig B32 (norm (16) 0).m).length c9, .int .i64 ((norm (16) 0).e), .bool ((norm (16) 0).neg), .slice p9 (dig B32 (norm (16) 0).m).length c9, .int .i64 ((norm (16) 0).e)], rfl, hGx _ _ ?_⟩
  clear hGx Gx
  refine sv 10 (.int .i64 ((b + 20 : Nat) : Int)) ?_
  replace ho8 := (ho8.past hbV3)
  replace hq8 := (hq8.past hbV3)
  replace hT := (hT.past hbV3)
  refine se 11 58 #[.agg #[.bool ((norm (sI true 5 (b + 20) J1 - oddO J1) (-(b + 20 : Nat))).neg), .slice p8 (dig B32 (norm (sI true 5 (b + 20) J1 - oddO J1) (-(b + 20 : Nat))).m).length c8, .int .i64 ((norm (sI true 5 (b + 20) J1 - oddO J1) (-(b + 20 : Nat))).e), .bool ((norm (sI true 5 (b + 20) J1 + oddO J1) (-(b + 20 : Nat))).neg), .slice q8 (dig B32 (norm (sI true 5 (b + 20) J1 + oddO J1) (-(b + 20 : Nat))).m).length d8, .int .i64 ((norm (sI true 5 (b + 20) J1 + oddO J1) (-(b + 20 : Nat))).e)], .agg #[.bool ((norm (16) 0).neg), .slice p9 (dig B32 (norm (16) 0).m).length c9, .int .i64 ((norm (16) 0).e), .bool ((norm (16) 0).neg), .slice p9 (dig B32 (norm (16) 0).m).length c9, .int .i64 ((norm (16) 0).e)], .int .i64 ((b + 20 : Nat) : Int)] (fun Gx hGx => ?_)
  ((with_reducible refine (stimes _ _ (16) (b + 20) w.heap.size _ p8 q8 p9 c8 d8 c9 _ rfl (by omega) (by omega) (ho8.mono (by omega)) (hq8.mono (by omega)) (ho9.mono (by omega)) (odd_small true (by omega) (by omega) (by omega) hk1).1 (odd_small true (by omega) (by omega) (by omega) hk1).2 (small_of (k := 8) (by decide) (by omega)) (odd_mul true (by omega) (by omega) (by omega) hk1 _ (by omega)).1 (odd_mul true (by omega) (by omega) (by omega) hk1 _ (by omega)).2 hT (by omega)).mono ?_))
  rintro eV4 V4 ⟨L1, H1, ht1, p11, c11, q11, d11, rfl, ho11, hq11, hbV4⟩
  have hzV4 := hbV4.size
  refine ⟨.agg #[.bool ((norm (L1) (-(b + 20 : Nat))).neg), .slice p11 (dig B32 (norm (L1) (-(b + 20 : Nat))).m).length c11, .int .i64 ((norm (L1) (-(b + 20 : Nat))).e), .bool ((norm (H1) (-(b + 20 : Nat))).neg), .slice q11 (dig B32 (norm (H1) (-(b + 20 : Nat))).m).length d11, .int .i64 ((norm (H1) (-(b + 20 : Nat))).e)], rfl, hGx _ _ ?_⟩
  clear hGx Gx
  refine sn 4 #[.bool false, .slice none 0 0, .int .i64 0, .bool false, .slice none 0 0, .int .i64 0] 64 (fun V5 hbV5 hzV5 b4 => ?_)
  refine ss none b4 hT64 0 #[.bool ((norm (L1) (-(b + 20 : Nat))).neg), .slice p11 (dig B32 (norm (L1) (-(b + 20 : Nat))).m).length c11, .int .i64 ((norm (L1) (-(b + 20 : Nat))).e), .bool ((norm (H1) (-(b + 20 : Nat))).neg), .slice q11 (dig B32 (norm (H1) (-(b + 20 : Nat))).m).length d11, .int .i64 ((norm (H1) (-(b + 20 : Nat))).e)] #[.bool ((norm (L1) (-(b + 20 : Nat))).neg), .slice p11 (dig B32 (norm (L1) (-(b + 20 : Nat))).m).length c11, .int .i64 ((norm (L1) (-(b + 20 : Nat))).e), .bool ((norm (H1) (-(b + 20 : Nat))).neg), .slice q11 (dig B32 (norm (H1) (-(b + 20 : Nat))).m).length d11, .int .i64 ((norm (H1) (-(b + 20 : Nat))).e)] ?_
  have boV6 := b4
  clear b4
  intro V6 hOV6 b4
  have hzV6 := hOV6.size
  refine sx_nil ?_
  refine sx_then ?_
  refine wp_seq ?_
  obtain ⟨V7, hVV7⟩ : ∃ V, V = (V6).drew := ⟨_, rfl⟩
  have hbV7 : Below (V6).heap.size (V6) V7 := by rw [hVV7]; exact (Below.refl _ _).drew
  have hzV7 : V7.heap.size = (V6).heap.size := by rw [hVV7]; rfl
  replace b4 := (b4.past hbV7)
  refine sxd _ (fun w' => Bt w' V4.heap.size 64 #[.bool ((norm (L1) (-(b + 20 : Nat))).neg), .slice p11 (dig B32 (norm (L1) (-(b + 20 : Nat))).m).length c11, .int .i64 ((norm (L1) (-(b + 20 : Nat))).e), .bool ((norm (H1) (-(b + 20 : Nat))).neg), .slice q11 (dig B32 (norm (H1) (-(b + 20 : Nat))).m).length d11, .int .i64 ((norm (H1) (-(b + 20 : Nat))).e)]) hVV7 b4 ?_
  clear hVV7
  refine tk 0 12 (.agg #[.bool ((norm (L1) (-(b + 20 : Nat))).neg), .slice p11 (dig B32 (norm (L1) (-(b + 20 : Nat))).m).length c11, .int .i64 ((norm (L1) (-(b + 20 : Nat))).e), .bool ((norm (H1) (-(b + 20 : Nat))).neg), .slice q11 (dig B32 (norm (H1) (-(b + 20 : Nat))).m).length d11, .int .i64 ((norm (H1) (-(b + 20 : Nat))).e)]) b4 ?_ (hy := fun w' hS => (exec_ld (by kernel_rfl) (run_ld hS hT64 0 [.bool ((norm (L1) (-(b + 20 : Nat))).neg), .slice p11 (dig B32 (norm (L1) (-(b + 20 : Nat))).m).length c11, .int .i64 ((norm (L1) (-(b + 20 : Nat))).e), .bool ((norm (H1) (-(b + 20 : Nat))).neg), .slice q11 (dig B32 (norm (H1) (-(b + 20 : Nat))).m).length d11, .int .i64 ((norm (H1) (-(b + 20 : Nat))).e)] (by kernel_rfl) (by kernel_rfl))))
  refine tk 1 13 (.int .i64 ((b + 20 : Nat) : Int)) b4 ?_
  refine tk 4 16 (.int .i64 ((b + 20 : Nat) : Int)) b4 ?_
  refine tk 6 18 (.int .i64 ((b + 20 : Nat) : Int)) b4 ?_
  refine sxr [2] ?_
  refine rd1 (fun Kx hKx => ?_)
  replace hT := (hT.past (bthru ((bthru hbV4 hbV5).trans (hOV6.below (by omega))) hbV7))
  refine sek 14 60 #[.int .i64 239, .int .i64 ((b + 20 : Nat) : Int), .bool true] ?_
  ((with_reducible refine (oddO_any 239 _ 239 (b + 20) true _ rfl rfl (by omega) (by omega) (by omega) hT).mono ?_))
  rintro eV8 V8 ⟨J2, hk2, p14, c14, q14, d14, rfl, ho14, hq14, hbV8⟩
  have hzV8 := hbV8.size
  refine ⟨.agg #[.bool ((norm (sI true 239 (b + 20) J2 - oddO J2) (-(b + 20 : Nat))).neg), .slice p14 (dig B32 (norm (sI true 239 (b + 20) J2 - oddO J2) (-(b + 20 : Nat))).m).length c14, .int .i64 ((norm (sI true 239 (b + 20) J2 - oddO J2) (-(b + 20 : Nat))).e), .bool ((norm (sI true 239 (b + 20) J2 + oddO J2) (-(b + 20 : Nat))).neg), .slice q14 (dig B32 (norm (sI true 239 (b + 20) J2 + oddO J2) (-(b + 20 : Nat))).m).length d14, .int .i64 ((norm (sI true 239 (b + 20) J2 + oddO J2) (-(b + 20 : Nat))).e)], rfl, ?_⟩
  replace b4 := (b4.past hbV8)
  refine hKx.out _ _ b4 ?_
  clear hKx Kx
  refine sxr [3] ?_
  refine rd1 (fun Kx hKx => ?_)
  replace hT := (hT.past hbV8)
  refine sek 15 61 #[.int .i64 (-4)] ?_
  ((with_reducible refine (serWhole_any (-4) _ (by omega) hT).mono ?_))
  rintro eV9 V9 ⟨p15, c15, rfl, ho15, hbV9⟩
  have hzV9 := hbV9.size
  refine ⟨.agg #[.bool ((norm (-4) 0).neg), .slice p15 (dig B32 (norm (-4) 0).m).length c15, .int .i64 ((norm (-4) 0).e), .bool ((norm (-4) 0).neg), .slice p15 (dig B32 (norm (-4) 0).m).length c15, .int .i64 ((norm (-4) 0).e)], rfl, ?_⟩
  replace b4 := (b4.past hbV9)
  refine hKx.out _ _ b4 ?_
  clear hKx Kx
  refine sxr [5] ?_
  refine rd1 (fun Kx hKx => ?_)
  replace ho14 := (ho14.past hbV9)
  replace hq14 := (hq14.past hbV9)
  replace hT := (hT.past hbV9)
  refine sek 17 58 #[.agg #[.bool ((norm (sI true 239 (b + 20) J2 - oddO J2) (-(b + 20 : Nat))).neg), .slice p14 (dig B32 (norm (sI true 239 (b + 20) J2 - oddO J2) (-(b + 20 : Nat))).m).length c14, .int .i64 ((norm (sI true 239 (b + 20) J2 - oddO J2) (-(b + 20 : Nat))).e), .bool ((norm (sI true 239 (b + 20) J2 + oddO J2) (-(b + 20 : Nat))).neg), .slice q14 (dig B32 (norm (sI true 239 (b + 20) J2 + oddO J2) (-(b + 20 : Nat))).m).length d14, .int .i64 ((norm (sI true 239 (b + 20) J2 + oddO J2) (-(b + 20 : Nat))).e)], .agg #[.bool ((norm (-4) 0).neg), .slice p15 (dig B32 (norm (-4) 0).m).length c15, .int .i64 ((norm (-4) 0).e), .bool ((norm (-4) 0).neg), .slice p15 (dig B32 (norm (-4) 0).m).length c15, .int .i64 ((norm (-4) 0).e)], .int .i64 ((b + 20 : Nat) : Int)] ?_
  ((with_reducible refine (stimes _ _ (-4) (b + 20) w.heap.size _ p14 q14 p15 c14 d14 c15 _ rfl (by omega) (by omega) (ho14.mono (by omega)) (hq14.mono (by omega)) (ho15.mono (by omega)) (odd_small true (by omega) (by omega) (by omega) hk2).1 (odd_small true (by omega) (by omega) (by omega) hk2).2 (small_of (k := 8) (by decide) (by omega)) (odd_mul true (by omega) (by omega) (by omega) hk2 _ (by omega)).1 (odd_mul true (by omega) (by omega) (by omega) hk2 _ (by omega)).2 hT (by omega)).mono ?_))
  rintro eV10 V10 ⟨L2, H2, ht2, p17, c17, q17, d17, rfl, ho17, hq17, hbV10⟩
  have hzV10 := hbV10.size
  refine ⟨.agg #[.bool ((norm (L2) (-(b + 20 : Nat))).neg), .slice p17 (dig B32 (norm (L2) (-(b + 20 : Nat))).m).length c17, .int .i64 ((norm (L2) (-(b + 20 : Nat))).e), .bool ((norm (H2) (-(b + 20 : Nat))).neg), .slice q17 (dig B32 (norm (H2) (-(b + 20 : Nat))).m).length d17, .int .i64 ((norm (H2) (-(b + 20 : Nat))).e)], rfl, ?_⟩
  replace b4 := (b4.past hbV10)
  refine hKx.out _ _ b4 ?_
  clear hKx Kx
  refine sxr [7] ?_
  refine rd1 (fun Kx hKx => ?_)
  replace ho11 := (ho11.past (bthru (bthru (bthru (bthru (hbV5.trans (hOV6.below (by omega))) hbV7) hbV8) hbV9) hbV10))
  replace hq11 := (hq11.past (bthru (bthru (bthru (bthru (hbV5.trans (hOV6.below (by omega))) hbV7) hbV8) hbV9) hbV10))
  replace hT := (hT.past hbV10)
  refine sek 19 59 #[.agg #[.bool ((norm (L1) (-(b + 20 : Nat))).neg), .slice p11 (dig B32 (norm (L1) (-(b + 20 : Nat))).m).length c11, .int .i64 ((norm (L1) (-(b + 20 : Nat))).e), .bool ((norm (H1) (-(b + 20 : Nat))).neg), .slice q11 (dig B32 (norm (H1) (-(b + 20 : Nat))).m).length d11, .int .i64 ((norm (H1) (-(b + 20 : Nat))).e)], .agg #[.bool ((norm (L2) (-(b + 20 : Nat))).neg), .slice p17 (dig B32 (norm (L2) (-(b + 20 : Nat))).m).length c17, .int .i64 ((norm (L2) (-(b + 20 : Nat))).e), .bool ((norm (H2) (-(b + 20 : Nat))).neg), .slice q17 (dig B32 (norm (H2) (-(b + 20 : Nat))).m).length d17, .int .i64 ((norm (H2) (-(b + 20 : Nat))).e)], .int .i64 ((b + 20 : Nat) : Int)] ?_
  ((with_reducible refine (splusB L1 H1 L2 H2 (b + 20) w.heap.size _ p11 q11 p17 q17 c11 d11 c17 d17 _ rfl (by omega) (by omega) (ho11.mono (by omega)) (hq11.mono (by omega)) (ho17.mono (by omega)) (hq17.mono (by omega)) (pi_ok (w := b + 20) (by omega) (by omega) hk1 hk2 ht1 ht2).a (pi_ok (w := b + 20) (by omega) (by omega) hk1 hk2 ht1 ht2).b (pi_ok (w := b + 20) (by omega) (by omega) hk1 hk2 ht1 ht2).c (pi_ok (w := b + 20) (by omega) (by omega) hk1 hk2 ht1 ht2).d (pi_ok (w := b + 20) (by omega) (by omega) hk1 hk2 ht1 ht2).e (pi_ok (w := b + 20) (by omega) (by omega) hk1 hk2 ht1 ht2).f (pi_ok (w := b + 20) (by omega) (by omega) hk1 hk2 ht1 ht2).g (pi_ok (w := b + 20) (by omega) (by omega) hk1 hk2 ht1 ht2).i hT (by omega)).mono ?_))
  rintro eV11 V11 ⟨L, H, hs, p19, c19, q19, d19, rfl, ho19, hq19, hbV11⟩
  have hzV11 := hbV11.size
  refine ⟨.agg #[.bool ((norm (L) (-(b + 20 : Nat))).neg), .slice p19 (dig B32 (norm (L) (-(b + 20 : Nat))).m).length c19, .int .i64 ((norm (L) (-(b + 20 : Nat))).e), .bool ((norm (H) (-(b + 20 : Nat))).neg), .slice q19 (dig B32 (norm (H) (-(b + 20 : Nat))).m).length d19, .int .i64 ((norm (H) (-(b + 20 : Nat))).e)], rfl, ?_⟩
  replace b4 := (b4.past hbV11)
  refine hKx.out _ _ b4 ?_
  clear hKx Kx
  refine sxr [8] ?_
  refine rd1 (fun Kx hKx => ?_)
  replace b2 := (b2.past (bthru (bthru (bthru (bthru (bthru ((bthru (bthru (bthru hbV2 hbV3) hbV4) hbV5).trans (hOV6.below (by omega))) hbV7) hbV8) hbV9) hbV10) hbV11))
  refine ssk none b2 hT64 0 #[.bool ((norm (L) (-(b + 20 : Nat))).neg), .slice p19 (dig B32 (norm (L) (-(b + 20 : Nat))).m).length c19, .int .i64 ((norm (L) (-(b + 20 : Nat))).e), .bool ((norm (H) (-(b + 20 : Nat))).neg), .slice q19 (dig B32 (norm (H) (-(b + 20 : Nat))).m).length d19, .int .i64 ((norm (H) (-(b + 20 : Nat))).e)] #[.bool ((norm (L) (-(b + 20 : Nat))).neg), .slice p19 (dig B32 (norm (L) (-(b + 20 : Nat))).m).length c19, .int .i64 ((norm (L) (-(b + 20 : Nat))).e), .bool ((norm (H) (-(b + 20 : Nat))).neg), .slice q19 (dig B32 (norm (H) (-(b + 20 : Nat))).m).length d19, .int .i64 ((norm (H) (-(b + 20 : Nat))).e)] ?_
  have boV12 := b2
  clear b2
  intro V12 hOV12 b2
  have hzV12 := hOV12.size
  replace b4 := (b4.only hOV12 (by omega))
  refine hKx.out _ _ b4 ?_
  clear hKx Kx
  refine sx_done (by kernel_rfl) ?_
  refine sx_then ?_
  refine wp_ret ?_
  have ⟨b2_0, b2_1, b2_2, b2_3, b2_4, b2_5⟩ := b2.bx.e6
  repeat (first | with_reducible refine sx_thenret ?_ | with_reducible refine sx_blockret ?_)
  refine bodyPost_ret (v := .agg #[.bool ((norm (L) (-(b + 20 : Nat))).neg), .slice p19 (dig B32 (norm (L) (-(b + 20 : Nat))).m).length c19, .int .i64 ((norm (L) (-(b + 20 : Nat))).e), .bool ((norm (H) (-(b + 20 : Nat))).neg), .slice q19 (dig B32 (norm (H) (-(b + 20 : Nat))).m).length d19, .int .i64 ((norm (H) (-(b + 20 : Nat))).e)]) (by simp [results, Tryd.results34, go_sem, b2_0, b2_1, b2_2, b2_3, b2_4, b2_5]) rfl ?_
  replace ho19 := (ho19.put boV12 hOV12 (by kernel_rfl))
  replace hq19 := (hq19.put boV12 hOV12 (by kernel_rfl))
  exact ⟨L, H, pi_ball (by omega) (by omega) hk1 hk2 ht1 ht2 hs, p19, c19, q19, d19, rfl, ho19.mono (by omega), hq19.mono (by omega), ((bthru (bthru (bthru (bthru (bthru ((bthru (bthru (bthru (bthru hbV1 hbV2) hbV3) hbV4) hbV5).trans (hOV6.below (by omega))) hbV7) hbV8) hbV9) hbV10) hbV11).trans (hOV12.below (by omega)))⟩

set_option maxHeartbeats 4000000 in
set_option maxRecDepth 100000 in
theorem rawLn2_any (b : Nat) (w : World) (hb1 : 10 ≤ b) (hb2 : b ≤ 1000) (hT : TabW w) :
    Calls Tryd.prog 45 #[.int .i64 ((b : Nat) : Int)] w (GivesX w Xln (b + 20)) := by
  have hT64 : SxAgg Tryd.prog 64 6 := sxAgg_of (by kernel_rfl) (by kernel_rfl)
  refine calls_of_wp Tryd.func45 rfl ?_
  refine sx_frame (a' := ⟨((.int .i64 ((b : Nat) : Int)) :: undef :: undef :: undef :: undef :: undef :: undef :: undef :: undef :: undef :: undef :: undef :: undef :: undef :: undef :: undef :: undef :: undef :: undef :: undef :: undef :: undef :: undef :: undef :: undef :: undef :: undef :: undef :: []).toArray, []⟩) (by kernel_rfl) ?_
  refine wp_seq ?_
  refine sx_region ?_
  refine sn 2 #[.bool false, .slice none 0 0, .int .i64 0, .bool false, .slice none 0 0, .int .i64 0] 64 (fun V1 hbV1 hzV1 b2 => ?_)
  refine sx_nil ?_
  refine sx_then ?_
  refine wp_seq ?_
  refine sx_region ?_
  refine sv 5 (.int .i64 ((b : Nat) : Int)) ?_
  refine sv 6 (.int .i64 ((b + 20 : Nat) : Int)) ?_ (hr := ((show _ = Result.ok (Next.value (.int .i64 (IntKind.wrap .i64 (((b : Nat) : Int) + 20)))) _ by kernel_rfl).trans (congrArg (fun z => Result.ok (Next.value (.int .i64 z)) _) ((by rw [show ((b : Nat) : Int) + 20 = ((b + 20 : Nat) : Int) by omega]; exact IntWalk.i64_in _ (by omega))))))
  refine sv 3 (.int .i64 ((b + 20 : Nat) : Int)) ?_
  refine sx_nil ?_
  refine sx_then ?_
  refine wp_seq ?_
  refine sx_region ?_
  refine sv 7 (.int .i64 ((b + 20 : Nat) : Int)) ?_
  replace hT := (hT.past hbV1)
  refine se 8 60 #[.int .i64 26, .int .i64 ((b + 20 : Nat) : Int), .bool false] (fun Gx hGx => ?_)
  ((with_reducible refine (oddO_any 26 _ 26 (b + 20) false _ rfl rfl (by omega) (by omega) (by omega) hT).mono ?_))
  rintro eV2 V2 ⟨J1, hk1, p8, c8, q8, d8, rfl, ho8, hq8, hbV2⟩
  have hzV2 := hbV2.size
  refine ⟨.agg #[.bool ((norm (sI false 26 (b + 20) J1 - oddO J1) (-(b + 20 : Nat))).neg), .slice p8 (dig B32 (norm (sI false 26 (b + 20) J1 - oddO J1) (-(b + 20 : Nat))).m).length c8, .int .i64 ((norm (sI false 26 (b + 20) J1 - oddO J1) (-(b + 20 : Nat))).e), .bool ((norm (sI false 26 (b + 20) J1 + oddO J1) (-(b + 20 : Nat))).neg), .slice q8 (dig B32 (norm (sI false 26 (b + 20) J1 + oddO J1) (-(b + 20 : Nat))).m).length d8, .int .i64 ((norm (sI false 26 (b + 20) J1 + oddO J1) (-(b + 20 : Nat))).e)], rfl, hGx _ _ ?_⟩
  clear hGx Gx
  replace hT := (hT.past hbV2)
  refine se 9 61 #[.int .i64 18] (fun Gx hGx => ?_)
  ((with_reducible refine (serWhole_any (18) _ (by omega) hT).mono ?_))
  rintro eV3 V3 ⟨p9, c9, rfl, ho9, hbV3⟩
  have hzV3 := hbV3.size
  refine ⟨.agg #[.bool ((norm (18) 0).neg), .slice p9 (dig B32 (norm (18) 0).m).length c9, .int .i64 ((norm (18) 0).e), .bool ((norm (18) 0).neg), .slice p9 (dig B32 (norm (18) 0).m).length c9, .int .i64 ((norm (18) 0).e)], rfl, hGx _ _ ?_⟩
  clear hGx Gx
  refine sv 10 (.int .i64 ((b + 20 : Nat) : Int)) ?_
  replace ho8 := (ho8.past hbV3)
  replace hq8 := (hq8.past hbV3)
  replace hT := (hT.past hbV3)
  refine se 11 58 #[.agg #[.bool ((norm (sI false 26 (b + 20) J1 - oddO J1) (-(b + 20 : Nat))).neg), .slice p8 (dig B32 (norm (sI false 26 (b + 20) J1 - oddO J1) (-(b + 20 : Nat))).m).length c8, .int .i64 ((norm (sI false 26 (b + 20) J1 - oddO J1) (-(b + 20 : Nat))).e), .bool ((norm (sI false 26 (b + 20) J1 + oddO J1) (-(b + 20 : Nat))).neg), .slice q8 (dig B32 (norm (sI false 26 (b + 20) J1 + oddO J1) (-(b + 20 : Nat))).m).length d8, .int .i64 ((norm (sI false 26 (b + 20) J1 + oddO J1) (-(b + 20 : Nat))).e)], .agg #[.bool ((norm (18) 0).neg), .slice p9 (dig B32 (norm (18) 0).m).length c9, .int .i64 ((norm (18) 0).e), .bool ((norm (18) 0).neg), .slice p9 (dig B32 (norm (18) 0).m).length c9, .int .i64 ((norm (18) 0).e)], .int .i64 ((b + 20 : Nat) : Int)] (fun Gx hGx => ?_)
  ((with_reducible refine (stimes _ _ (18) (b + 20) w.heap.size _ p8 q8 p9 c8 d8 c9 _ rfl (by omega) (by omega) (ho8.mono (by omega)) (hq8.mono (by omega)) (ho9.mono (by omega)) (odd_small false (by omega) (by omega) (by omega) hk1).1 (odd_small false (by omega) (by omega) (by omega) hk1).2 (small_of (k := 8) (by decide) (by omega)) (odd_mul false (by omega) (by omega) (by omega) hk1 _ (by omega)).1 (odd_mul false (by omega) (by omega) (by omega) hk1 _ (by omega)).2 hT (by omega)).mono ?_))
  rintro eV4 V4 ⟨L1, H1, ht1, p11, c11, q11, d11, rfl, ho11, hq11, hbV4⟩
  have hzV4 := hbV4.size
  refine ⟨.agg #[.bool ((norm (L1) (-(b + 20 : Nat))).neg), .slice p11 (dig B32 (norm (L1) (-(b + 20 : Nat))).m).length c11, .int .i64 ((norm (L1) (-(b + 20 : Nat))).e), .bool ((norm (H1) (-(b + 20 : Nat))).neg), .slice q11 (dig B32 (norm (H1) (-(b + 20 : Nat))).m).length d11, .int .i64 ((norm (H1) (-(b + 20 : Nat))).e)], rfl, hGx _ _ ?_⟩
  clear hGx Gx
  refine sn 4 #[.bool false, .slice none 0 0, .int .i64 0, .bool false, .slice none 0 0, .int .i64 0] 64 (fun V5 hbV5 hzV5 b4 => ?_)
  refine ss none b4 hT64 0 #[.bool ((norm (L1) (-(b + 20 : Nat))).neg), .slice p11 (dig B32 (norm (L1) (-(b + 20 : Nat))).m).length c11, .int .i64 ((norm (L1) (-(b + 20 : Nat))).e), .bool ((norm (H1) (-(b + 20 : Nat))).neg), .slice q11 (dig B32 (norm (H1) (-(b + 20 : Nat))).m).length d11, .int .i64 ((norm (H1) (-(b + 20 : Nat))).e)] #[.bool ((norm (L1) (-(b + 20 : Nat))).neg), .slice p11 (dig B32 (norm (L1) (-(b + 20 : Nat))).m).length c11, .int .i64 ((norm (L1) (-(b + 20 : Nat))).e), .bool ((norm (H1) (-(b + 20 : Nat))).neg), .slice q11 (dig B32 (norm (H1) (-(b + 20 : Nat))).m).length d11, .int .i64 ((norm (H1) (-(b + 20 : Nat))).e)] ?_
  have boV6 := b4
  clear b4
  intro V6 hOV6 b4
  have hzV6 := hOV6.size
  refine sx_nil ?_
  refine sx_then ?_
  refine wp_seq ?_
  refine sx_cutg (R := fun a' w' => ∃ (J2 : Nat) (p14 : Option Addr) (c14 : Nat) (q14 : Option Addr) (d14 : Nat) (p15 : Option Addr) (c15 : Nat) (L2 : Int) (H2 : Int) (p17 : Option Addr) (c17 : Nat) (q17 : Option Addr) (d17 : Nat) (A : Int) (B : Int) (p19 : Option Addr) (c19 : Nat) (q19 : Option Addr) (d19 : Nat), a' = ⟨((.int .i64 ((b : Nat) : Int)) :: undef :: (.pointer (some ⟨w.heap.size, 0, none⟩)) :: (.int .i64 ((b + 20 : Nat) : Int)) :: (.pointer (some ⟨V4.heap.size, 0, none⟩)) :: (.int .i64 ((b : Nat) : Int)) :: (.int .i64 ((b + 20 : Nat) : Int)) :: (.int .i64 ((b + 20 : Nat) : Int)) :: (.agg #[.bool ((norm (sI false 26 (b + 20) J1 - oddO J1) (-(b + 20 : Nat))).neg), .slice p8 (dig B32 (norm (sI false 26 (b + 20) J1 - oddO J1) (-(b + 20 : Nat))).m).length c8, .int .i64 ((norm (sI false 26 (b + 20) J1 - oddO J1) (-(b + 20 : Nat))).e), .bool ((norm (sI false 26 (b + 20) J1 + oddO J1) (-(b + 20 : Nat))).neg), .slice q8 (dig B32 (norm (sI false 26 (b + 20) J1 + oddO J1) (-(b + 20 : Nat))).m).length d8, .int .i64 ((norm (sI false 26 (b + 20) J1 + oddO J1) (-(b + 20 : Nat))).e)]) :: (.agg #[.bool ((norm (18) 0).neg), .slice p9 (dig B32 (norm (18) 0).m).length c9, .int .i64 ((norm (18) 0).e), .bool ((norm (18) 0).neg), .slice p9 (dig B32 (norm (18) 0).m).length c9, .int .i64 ((norm (18) 0).e)]) :: (.int .i64 ((b + 20 : Nat) : Int)) :: (.agg #[.bool ((norm (L1) (-(b + 20 : Nat))).neg), .slice p11 (dig B32 (norm (L1) (-(b + 20 : Nat))).m).length c11, .int .i64 ((norm (L1) (-(b + 20 : Nat))).e), .bool ((norm (H1) (-(b + 20 : Nat))).neg), .slice q11 (dig B32 (norm (H1) (-(b + 20 : Nat))).m).length d11, .int .i64 ((norm (H1) (-(b + 20 : Nat))).e)]) :: (.agg #[.bool ((norm (L1) (-(b + 20 : Nat))).neg), .slice p11 (dig B32 (norm (L1) (-(b + 20 : Nat))).m).length c11, .int .i64 ((norm (L1) (-(b + 20 : Nat))).e), .bool ((norm (H1) (-(b + 20 : Nat))).neg), .slice q11 (dig B32 (norm (H1) (-(b + 20 : Nat))).m).length d11, .int .i64 ((norm (H1) (-(b + 20 : Nat))).e)]) :: (.int .i64 ((b + 20 : Nat) : Int)) :: (.agg #[.bool ((norm (sI false 4801 (b + 20) J2 - oddO J2) (-(b + 20 : Nat))).neg), .slice p14 (dig B32 (norm (sI false 4801 (b + 20) J2 - oddO J2) (-(b + 20 : Nat))).m).length c14, .int .i64 ((norm (sI false 4801 (b + 20) J2 - oddO J2) (-(b + 20 : Nat))).e), .bool ((norm (sI false 4801 (b + 20) J2 + oddO J2) (-(b + 20 : Nat))).neg), .slice q14 (dig B32 (norm (sI false 4801 (b + 20) J2 + oddO J2) (-(b + 20 : Nat))).m).length d14, .int .i64 ((norm (sI false 4801 (b + 20) J2 + oddO J2) (-(b + 20 : Nat))).e)]) :: (.agg #[.bool ((norm (-2) 0).neg), .slice p15 (dig B32 (norm (-2) 0).m).length c15, .int .i64 ((norm (-2) 0).e), .bool ((norm (-2) 0).neg), .slice p15 (dig B32 (norm (-2) 0).m).length c15, .int .i64 ((norm (-2) 0).e)]) :: (.int .i64 ((b + 20 : Nat) : Int)) :: (.agg #[.bool ((norm (L2) (-(b + 20 : Nat))).neg), .slice p17 (dig B32 (norm (L2) (-(b + 20 : Nat))).m).length c17, .int .i64 ((norm (L2) (-(b + 20 : Nat))).e), .bool ((norm (H2) (-(b + 20 : Nat))).neg), .slice q17 (dig B32 (norm (H2) (-(b + 20 : Nat))).m).length d17, .int .i64 ((norm (H2) (-(b + 20 : Nat))).e)]) :: (.int .i64 ((b + 20 : Nat) : Int)) :: (.agg #[.bool ((norm (A) (-(b + 20 : Nat))).neg), .slice p19 (dig B32 (norm (A) (-(b + 20 : Nat))).m).length c19, .int .i64 ((norm (A) (-(b + 20 : Nat))).e), .bool ((norm (B) (-(b + 20 : Nat))).neg), .slice q19 (dig B32 (norm (B) (-(b + 20 : Nat))).m).length d19, .int .i64 ((norm (B) (-(b + 20 : Nat))).e)]) :: undef :: undef :: undef :: undef :: undef :: undef :: undef :: undef :: []).toArray, []⟩ ∧ Bt w' V4.heap.size 64 #[.bool ((norm (A) (-(b + 20 : Nat))).neg), .slice p19 (dig B32 (norm (A) (-(b + 20 : Nat))).m).length c19, .int .i64 ((norm (A) (-(b + 20 : Nat))).e), .bool ((norm (B) (-(b + 20 : Nat))).neg), .slice q19 (dig B32 (norm (B) (-(b + 20 : Nat))).m).length d19, .int .i64 ((norm (B) (-(b + 20 : Nat))).e)] ∧ IsJ 4801 (b + 20) J2 ∧ Own w' V6.heap.size .u32 58 p14 c14 (dig B32 (norm (sI false 4801 (b + 20) J2 - oddO J2) (-(b + 20 : Nat))).m) ∧ Own w' V6.heap.size .u32 58 q14 d14 (dig B32 (norm (sI false 4801 (b + 20) J2 + oddO J2) (-(b + 20 : Nat))).m) ∧ Own w' V6.heap.size .u32 58 p15 c15 (dig B32 (norm (-2) 0).m) ∧ TSpec (sI false 4801 (b + 20) J2 - oddO J2) (sI false 4801 (b + 20) J2 + oddO J2) (-2) L2 H2 ∧ Own w' w.heap.size .u32 58 p17 c17 (dig B32 (norm (L2) (-(b + 20 : Nat))).m) ∧ Own w' w.heap.size .u32 58 q17 d17 (dig B32 (norm (H2) (-(b + 20 : Nat))).m) ∧ PSpec L1 H1 L2 H2 A B ∧ Own w' w.heap.size .u32 58 p19 c19 (dig B32 (norm (A) (-(b + 20 : Nat))).m) ∧ Own w' w.heap.size .u32 58 q19 d19 (dig B32 (norm (B) (-(b + 20 : Nat))).m) ∧ Keep V4.heap.size V6 w') ?_ (fun Gx hGx => ?_)
  · skip
    obtain ⟨V7, hVV7⟩ : ∃ V, V = (V6).drew := ⟨_, rfl⟩
    have hbV7 : Below (V6).heap.size (V6) V7 := by rw [hVV7]; exact (Below.refl _ _).drew
    have hzV7 : V7.heap.size = (V6).heap.size := by rw [hVV7]; rfl
    refine sxd _ (fun w' => True) hVV7 True.intro ?_
    clear hVV7
    refine tk 1 13 (.int .i64 ((b + 20 : Nat) : Int)) True.intro ?_
    refine tk 4 16 (.int .i64 ((b + 20 : Nat) : Int)) True.intro ?_
    refine tk 6 18 (.int .i64 ((b + 20 : Nat) : Int)) True.intro ?_
    refine sxr [0, 2] ?_
    refine rd2 (fun Kx hKx => ?_) ?_
    · skip
      replace b4 := (b4.past hbV7)
      refine sk 12 (.agg #[.bool ((norm (L1) (-(b + 20 : Nat))).neg), .slice p11 (dig B32 (norm (L1) (-(b + 20 : Nat))).m).length c11, .int .i64 ((norm (L1) (-(b + 20 : Nat))).e), .bool ((norm (H1) (-(b + 20 : Nat))).neg), .slice q11 (dig B32 (norm (H1) (-(b + 20 : Nat))).m).length d11, .int .i64 ((norm (H1) (-(b + 20 : Nat))).e)]) ?_ (hr := (exec_ld (by kernel_rfl) (run_ld b4 hT64 0 [.bool ((norm (L1) (-(b + 20 : Nat))).neg), .slice p11 (dig B32 (norm (L1) (-(b + 20 : Nat))).m).length c11, .int .i64 ((norm (L1) (-(b + 20 : Nat))).e), .bool ((norm (H1) (-(b + 20 : Nat))).neg), .slice q11 (dig B32 (norm (H1) (-(b + 20 : Nat))).m).length d11, .int .i64 ((norm (H1) (-(b + 20 : Nat))).e)] (by kernel_rfl) (by kernel_rfl))))
      refine hKx.out _ _ True.intro ?_
      clear hKx Kx
      refine sxr [2] ?_
      refine rd1 (fun Kx hKx => ?_)
      replace hT := (hT.past (bthru ((bthru hbV4 hbV5).trans (hOV6.below (by omega))) hbV7))
      refine sek 14 60 #[.int .i64 4801, .int .i64 ((b + 20 : Nat) : Int), .bool false] ?_
      ((with_reducible refine (oddO_any 4801 _ 4801 (b + 20) false _ rfl rfl (by omega) (by omega) (by omega) hT).mono ?_))
      rintro eV8 V8 ⟨J2, hk2, p14, c14, q14, d14, rfl, ho14, hq14, hbV8⟩
      have hzV8 := hbV8.size
      refine ⟨.agg #[.bool ((norm (sI false 4801 (b + 20) J2 - oddO J2) (-(b + 20 : Nat))).neg), .slice p14 (dig B32 (norm (sI false 4801 (b + 20) J2 - oddO J2) (-(b + 20 : Nat))).m).length c14, .int .i64 ((norm (sI false 4801 (b + 20) J2 - oddO J2) (-(b + 20 : Nat))).e), .bool ((norm (sI false 4801 (b + 20) J2 + oddO J2) (-(b + 20 : Nat))).neg), .slice q14 (dig B32 (norm (sI false 4801 (b + 20) J2 + oddO J2) (-(b + 20 : Nat))).m).length d14, .int .i64 ((norm (sI false 4801 (b + 20) J2 + oddO J2) (-(b + 20 : Nat))).e)], rfl, ?_⟩
      refine hKx.out _ _ True.intro ?_
      clear hKx Kx
      refine sxr [3] ?_
      refine rd1 (fun Kx hKx => ?_)
      replace hT := (hT.past hbV8)
      refine sek 15 61 #[.int .i64 (-2)] ?_
      ((with_reducible refine (serWhole_any (-2) _ (by omega) hT).mono ?_))
      rintro eV9 V9 ⟨p15, c15, rfl, ho15, hbV9⟩
      have hzV9 := hbV9.size
      refine ⟨.agg #[.bool ((norm (-2) 0).neg), .slice p15 (dig B32 (norm (-2) 0).m).length c15, .int .i64 ((norm (-2) 0).e), .bool ((norm (-2) 0).neg), .slice p15 (dig B32 (norm (-2) 0).m).length c15, .int .i64 ((norm (-2) 0).e)], rfl, ?_⟩
      refine hKx.out _ _ True.intro ?_
      clear hKx Kx
      refine sxr [5] ?_
      refine rd1 (fun Kx hKx => ?_)
      replace ho14 := (ho14.past hbV9)
      replace hq14 := (hq14.past hbV9)
      replace hT := (hT.past hbV9)
      refine sek 17 58 #[.agg #[.bool ((norm (sI false 4801 (b + 20) J2 - oddO J2) (-(b + 20 : Nat))).neg), .slice p14 (dig B32 (norm (sI false 4801 (b + 20) J2 - oddO J2) (-(b + 20 : Nat))).m).length c14, .int .i64 ((norm (sI false 4801 (b + 20) J2 - oddO J2) (-(b + 20 : Nat))).e), .bool ((norm (sI false 4801 (b + 20) J2 + oddO J2) (-(b + 20 : Nat))).neg), .slice q14 (dig B32 (norm (sI false 4801 (b + 20) J2 + oddO J2) (-(b + 20 : Nat))).m).length d14, .int .i64 ((norm (sI false 4801 (b + 20) J2 + oddO J2) (-(b + 20 : Nat))).e)], .agg #[.bool ((norm (-2) 0).neg), .slice p15 (dig B32 (norm (-2) 0).m).length c15, .int .i64 ((norm (-2) 0).e), .bool ((norm (-2) 0).neg), .slice p15 (dig B32 (norm (-2) 0).m).length c15, .int .i64 ((norm (-2) 0).e)], .int .i64 ((b + 20 : Nat) : Int)] ?_
      ((with_reducible refine (stimes _ _ (-2) (b + 20) w.heap.size _ p14 q14 p15 c14 d14 c15 _ rfl (by omega) (by omega) (ho14.mono (by omega)) (hq14.mono (by omega)) (ho15.mono (by omega)) (odd_small false (by omega) (by omega) (by omega) hk2).1 (odd_small false (by omega) (by omega) (by omega) hk2).2 (small_of (k := 8) (by decide) (by omega)) (odd_mul false (by omega) (by omega) (by omega) hk2 _ (by omega)).1 (odd_mul false (by omega) (by omega) (by omega) hk2 _ (by omega)).2 hT (by omega)).mono ?_))
      rintro eV10 V10 ⟨L2, H2, ht2, p17, c17, q17, d17, rfl, ho17, hq17, hbV10⟩
      have hzV10 := hbV10.size
      refine ⟨.agg #[.bool ((norm (L2) (-(b + 20 : Nat))).neg), .slice p17 (dig B32 (norm (L2) (-(b + 20 : Nat))).m).length c17, .int .i64 ((norm (L2) (-(b + 20 : Nat))).e), .bool ((norm (H2) (-(b + 20 : Nat))).neg), .slice q17 (dig B32 (norm (H2) (-(b + 20 : Nat))).m).length d17, .int .i64 ((norm (H2) (-(b + 20 : Nat))).e)], rfl, ?_⟩
      refine hKx.out _ _ True.intro ?_
      clear hKx Kx
      refine sxr [7] ?_
      refine rd1 (fun Kx hKx => ?_)
      replace ho11 := (ho11.past (bthru (bthru (bthru (bthru (hbV5.trans (hOV6.below (by omega))) hbV7) hbV8) hbV9) hbV10))
      replace hq11 := (hq11.past (bthru (bthru (bthru (bthru (hbV5.trans (hOV6.below (by omega))) hbV7) hbV8) hbV9) hbV10))
      replace hT := (hT.past hbV10)
      refine sek 19 59 #[.agg #[.bool ((norm (L1) (-(b + 20 : Nat))).neg), .slice p11 (dig B32 (norm (L1) (-(b + 20 : Nat))).m).length c11, .int .i64 ((norm (L1) (-(b + 20 : Nat))).e), .bool ((norm (H1) (-(b + 20 : Nat))).neg), .slice q11 (dig B32 (norm (H1) (-(b + 20 : Nat))).m).length d11, .int .i64 ((norm (H1) (-(b + 20 : Nat))).e)], .agg #[.bool ((norm (L2) (-(b + 20 : Nat))).neg), .slice p17 (dig B32 (norm (L2) (-(b + 20 : Nat))).m).length c17, .int .i64 ((norm (L2) (-(b + 20 : Nat))).e), .bool ((norm (H2) (-(b + 20 : Nat))).neg), .slice q17 (dig B32 (norm (H2) (-(b + 20 : Nat))).m).length d17, .int .i64 ((norm (H2) (-(b + 20 : Nat))).e)], .int .i64 ((b + 20 : Nat) : Int)] ?_
      ((with_reducible refine (splusB L1 H1 L2 H2 (b + 20) w.heap.size _ p11 q11 p17 q17 c11 d11 c17 d17 _ rfl (by omega) (by omega) (ho11.mono (by omega)) (hq11.mono (by omega)) (ho17.mono (by omega)) (hq17.mono (by omega)) (ln_ok (w := b + 20) (by omega) (by omega) hk1 hk2 ht1 ht2).a (ln_ok (w := b + 20) (by omega) (by omega) hk1 hk2 ht1 ht2).b (ln_ok (w := b + 20) (by omega) (by omega) hk1 hk2 ht1 ht2).c (ln_ok (w := b + 20) (by omega) (by omega) hk1 hk2 ht1 ht2).d (ln_ok (w := b + 20) (by omega) (by omega) hk1 hk2 ht1 ht2).e (ln_ok (w := b + 20) (by omega) (by omega) hk1 hk2 ht1 ht2).f (ln_ok (w := b + 20) (by omega) (by omega) hk1 hk2 ht1 ht2).g (ln_ok (w := b + 20) (by omega) (by omega) hk1 hk2 ht1 ht2).i hT (by omega)).mono ?_))
      rintro eV11 V11 ⟨A, B, hs1, p19, c19, q19, d19, rfl, ho19, hq19, hbV11⟩
      have hzV11 := hbV11.size
      refine ⟨.agg #[.bool ((norm (A) (-(b + 20 : Nat))).neg), .slice p19 (dig B32 (norm (A) (-(b + 20 : Nat))).m).length c19, .int .i64 ((norm (A) (-(b + 20 : Nat))).e), .bool ((norm (B) (-(b + 20 : Nat))).neg), .slice q19 (dig B32 (norm (B) (-(b + 20 : Nat))).m).length d19, .int .i64 ((norm (B) (-(b + 20 : Nat))).e)], rfl, ?_⟩
      refine hKx.out _ _ True.intro ?_
      clear hKx Kx
      refine sxr [8] ?_
      refine rd1 (fun Kx hKx => ?_)
      replace b4 := (b4.past (bthru (bthru (bthru hbV8 hbV9) hbV10) hbV11))
      refine ssk none b4 hT64 0 #[.bool ((norm (A) (-(b + 20 : Nat))).neg), .slice p19 (dig B32 (norm (A) (-(b + 20 : Nat))).m).length c19, .int .i64 ((norm (A) (-(b + 20 : Nat))).e), .bool ((norm (B) (-(b + 20 : Nat))).neg), .slice q19 (dig B32 (norm (B) (-(b + 20 : Nat))).m).length d19, .int .i64 ((norm (B) (-(b + 20 : Nat))).e)] #[.bool ((norm (A) (-(b + 20 : Nat))).neg), .slice p19 (dig B32 (norm (A) (-(b + 20 : Nat))).m).length c19, .int .i64 ((norm (A) (-(b + 20 : Nat))).e), .bool ((norm (B) (-(b + 20 : Nat))).neg), .slice q19 (dig B32 (norm (B) (-(b + 20 : Nat))).m).length d19, .int .i64 ((norm (B) (-(b + 20 : Nat))).e)] ?_
      have boV12 := b4
      clear b4
      intro V12 hOV12 b4
      have hzV12 := hOV12.size
      refine hKx.out _ _ True.intro ?_
      clear hKx Kx
      refine sx_done (by kernel_rfl) ?_
      replace ho14 := ((ho14.past (bthru hbV10 hbV11)).put boV12 hOV12 (by kernel_rfl))
      replace hq14 := ((hq14.past (bthru hbV10 hbV11)).put boV12 hOV12 (by kernel_rfl))
      replace ho15 := ((ho15.past (bthru hbV10 hbV11)).put boV12 hOV12 (by kernel_rfl))
      replace ho17 := ((ho17.past hbV11).put boV12 hOV12 (by kernel_rfl))
      replace hq17 := ((hq17.past hbV11).put boV12 hOV12 (by kernel_rfl))
      replace ho19 := (ho19.put boV12 hOV12 (by kernel_rfl))
      replace hq19 := (hq19.put boV12 hOV12 (by kernel_rfl))
      exact ⟨rfl, J2, p14, c14, q14, d14, p15, c15, L2, H2, p17, c17, q17, d17, A, B, p19, c19, q19, d19, by kernel_rfl, b4, hk2, (ho14.mono (by omega)), (hq14.mono (by omega)), (ho15.mono (by omega)), ht2, ho17, hq17, hs1, ho19, hq19, (((((((Keep.refl V4.heap.size V6).step hbV7).step hbV8).step hbV9).step hbV10).step hbV11).put hOV12 (by omega))⟩
    refine rd1 (fun Kx hKx => ?_)
    replace hT := (hT.past (bthru ((bthru hbV4 hbV5).trans (hOV6.below (by omega))) hbV7))
    refine sek 14 60 #[.int .i64 4801, .int .i64 ((b + 20 : Nat) : Int), .bool false] ?_
    ((with_reducible refine (oddO_any 4801 _ 4801 (b + 20) false _ rfl rfl (by omega) (by omega) (by omega) hT).mono ?_))
    rintro eV8 V8 ⟨J2, hk2, p14, c14, q14, d14, rfl, ho14, hq14, hbV8⟩
    have hzV8 := hbV8.size
    refine ⟨.agg #[.bool ((norm (sI false 4801 (b + 20) J2 - oddO J2) (-(b + 20 : Nat))).neg), .slice p14 (dig B32 (norm (sI false 4801 (b + 20) J2 - oddO J2) (-(b + 20 : Nat))).m).length c14, .int .i64 ((norm (sI false 4801 (b + 20) J2 - oddO J2) (-(b + 20 : Nat))).e), .bool ((norm (sI false 4801 (b + 20) J2 + oddO J2) (-(b + 20 : Nat))).neg), .slice q14 (dig B32 (norm (sI false 4801 (b + 20) J2 + oddO J2) (-(b + 20 : Nat))).m).length d14, .int .i64 ((norm (sI false 4801 (b + 20) J2 + oddO J2) (-(b + 20 : Nat))).e)], rfl, ?_⟩
    refine hKx.out _ _ True.intro ?_
    clear hKx Kx
    refine sxr [0, 3] ?_
    refine rd2 (fun Kx hKx => ?_) ?_
    · skip
      replace b4 := (b4.past (bthru hbV7 hbV8))
      refine sk 12 (.agg #[.bool ((norm (L1) (-(b + 20 : Nat))).neg), .slice p11 (dig B32 (norm (L1) (-(b + 20 : Nat))).m).length c11, .int .i64 ((norm (L1) (-(b + 20 : Nat))).e), .bool ((norm (H1) (-(b + 20 : Nat))).neg), .slice q11 (dig B32 (norm (H1) (-(b + 20 : Nat))).m).length d11, .int .i64 ((norm (H1) (-(b + 20 : Nat))).e)]) ?_ (hr := (exec_ld (by kernel_rfl) (run_ld b4 hT64 0 [.bool ((norm (L1) (-(b + 20 : Nat))).neg), .slice p11 (dig B32 (norm (L1) (-(b + 20 : Nat))).m).length c11, .int .i64 ((norm (L1) (-(b + 20 : Nat))).e), .bool ((norm (H1) (-(b + 20 : Nat))).neg), .slice q11 (dig B32 (norm (H1) (-(b + 20 : Nat))).m).length d11, .int .i64 ((norm (H1) (-(b + 20 : Nat))).e)] (by kernel_rfl) (by kernel_rfl))))
      refine hKx.out _ _ True.intro ?_
      clear hKx Kx
      refine sxr [3] ?_
      refine rd1 (fun Kx hKx => ?_)
      replace hT := (hT.past hbV8)
      refine sek 15 61 #[.int .i64 (-2)] ?_
      ((with_reducible refine (serWhole_any (-2) _ (by omega) hT).mono ?_))
      rintro eV9 V9 ⟨p15, c15, rfl, ho15, hbV9⟩
      have hzV9 := hbV9.size
      refine ⟨.agg #[.bool ((norm (-2) 0).neg), .slice p15 (dig B32 (norm (-2) 0).m).length c15, .int .i64 ((norm (-2) 0).e), .bool ((norm (-2) 0).neg), .slice p15 (dig B32 (norm (-2) 0).m).length c15, .int .i64 ((norm (-2) 0).e)], rfl, ?_⟩
      refine hKx.out _ _ True.intro ?_
      clear hKx Kx
      refine sxr [5] ?_
      refine rd1 (fun Kx hKx => ?_)
      replace ho14 := (ho14.past hbV9)
      replace hq14 := (hq14.past hbV9)
      replace hT := (hT.past hbV9)
      refine sek 17 58 #[.agg #[.bool ((norm (sI false 4801 (b + 20) J2 - oddO J2) (-(b + 20 : Nat))).neg), .slice p14 (dig B32 (norm (sI false 4801 (b + 20) J2 - oddO J2) (-(b + 20 : Nat))).m).length c14, .int .i64 ((norm (sI false 4801 (b + 20) J2 - oddO J2) (-(b + 20 : Nat))).e), .bool ((norm (sI false 4801 (b + 20) J2 + oddO J2) (-(b + 20 : Nat))).neg), .slice q14 (dig B32 (norm (sI false 4801 (b + 20) J2 + oddO J2) (-(b + 20 : Nat))).m).length d14, .int .i64 ((norm (sI false 4801 (b + 20) J2 + oddO J2) (-(b + 20 : Nat))).e)], .agg #[.bool ((norm (-2) 0).neg), .slice p15 (dig B32 (norm (-2) 0).m).length c15, .int .i64 ((norm (-2) 0).e), .bool ((norm (-2) 0).neg), .slice p15 (dig B32 (norm (-2) 0).m).length c15, .int .i64 ((norm (-2) 0).e)], .int .i64 ((b + 20 : Nat) : Int)] ?_
      ((with_reducible refine (stimes _ _ (-2) (b + 20) w.heap.size _ p14 q14 p15 c14 d14 c15 _ rfl (by omega) (by omega) (ho14.mono (by omega)) (hq14.mono (by omega)) (ho15.mono (by omega)) (odd_small false (by omega) (by omega) (by omega) hk2).1 (odd_small false (by omega) (by omega) (by omega) hk2).2 (small_of (k := 8) (by decide) (by omega)) (odd_mul false (by omega) (by omega) (by omega) hk2 _ (by omega)).1 (odd_mul false (by omega) (by omega) (by omega) hk2 _ (by omega)).2 hT (by omega)).mono ?_))
      rintro eV10 V10 ⟨L2, H2, ht2, p17, c17, q17, d17, rfl, ho17, hq17, hbV10⟩
      have hzV10 := hbV10.size
      refine ⟨.agg #[.bool ((norm (L2) (-(b + 20 : Nat))).neg), .slice p17 (dig B32 (norm (L2) (-(b + 20 : Nat))).m).length c17, .int .i64 ((norm (L2) (-(b + 20 : Nat))).e), .bool ((norm (H2) (-(b + 20 : Nat))).neg), .slice q17 (dig B32 (norm (H2) (-(b + 20 : Nat))).m).length d17, .int .i64 ((norm (H2) (-(b + 20 : Nat))).e)], rfl, ?_⟩
      refine hKx.out _ _ True.intro ?_
      clear hKx Kx
      refine sxr [7] ?_
      refine rd1 (fun Kx hKx => ?_)
      replace ho11 := (ho11.past (bthru (bthru (bthru (bthru (hbV5.trans (hOV6.below (by omega))) hbV7) hbV8) hbV9) hbV10))
      replace hq11 := (hq11.past (bthru (bthru (bthru (bthru (hbV5.trans (hOV6.below (by omega))) hbV7) hbV8) hbV9) hbV10))
      replace hT := (hT.past hbV10)
      refine sek 19 59 #[.agg #[.bool ((norm (L1) (-(b + 20 : Nat))).neg), .slice p11 (dig B32 (norm (L1) (-(b + 20 : Nat))).m).length c11, .int .i64 ((norm (L1) (-(b + 20 : Nat))).e), .bool ((norm (H1) (-(b + 20 : Nat))).neg), .slice q11 (dig B32 (norm (H1) (-(b + 20 : Nat))).m).length d11, .int .i64 ((norm (H1) (-(b + 20 : Nat))).e)], .agg #[.bool ((norm (L2) (-(b + 20 : Nat))).neg), .slice p17 (dig B32 (norm (L2) (-(b + 20 : Nat))).m).length c17, .int .i64 ((norm (L2) (-(b + 20 : Nat))).e), .bool ((norm (H2) (-(b + 20 : Nat))).neg), .slice q17 (dig B32 (norm (H2) (-(b + 20 : Nat))).m).length d17, .int .i64 ((norm (H2) (-(b + 20 : Nat))).e)], .int .i64 ((b + 20 : Nat) : Int)] ?_
      ((with_reducible refine (splusB L1 H1 L2 H2 (b + 20) w.heap.size _ p11 q11 p17 q17 c11 d11 c17 d17 _ rfl (by omega) (by omega) (ho11.mono (by omega)) (hq11.mono (by omega)) (ho17.mono (by omega)) (hq17.mono (by omega)) (ln_ok (w := b + 20) (by omega) (by omega) hk1 hk2 ht1 ht2).a (ln_ok (w := b + 20) (by omega) (by omega) hk1 hk2 ht1 ht2).b (ln_ok (w := b + 20) (by omega) (by omega) hk1 hk2 ht1 ht2).c (ln_ok (w := b + 20) (by omega) (by omega) hk1 hk2 ht1 ht2).d (ln_ok (w := b + 20) (by omega) (by omega) hk1 hk2 ht1 ht2).e (ln_ok (w := b + 20) (by omega) (by omega) hk1 hk2 ht1 ht2).f (ln_ok (w := b + 20) (by omega) (by omega) hk1 hk2 ht1 ht2).g (ln_ok (w := b + 20) (by omega) (by omega) hk1 hk2 ht1 ht2).i hT (by omega)).mono ?_))
      rintro eV11 V11 ⟨A, B, hs1, p19, c19, q19, d19, rfl, ho19, hq19, hbV11⟩
      have hzV11 := hbV11.size
      refine ⟨.agg #[.bool ((norm (A) (-(b + 20 : Nat))).neg), .slice p19 (dig B32 (norm (A) (-(b + 20 : Nat))).m).length c19, .int .i64 ((norm (A) (-(b + 20 : Nat))).e), .bool ((norm (B) (-(b + 20 : Nat))).neg), .slice q19 (dig B32 (norm (B) (-(b + 20 : Nat))).m).length d19, .int .i64 ((norm (B) (-(b + 20 : Nat))).e)], rfl, ?_⟩
      refine hKx.out _ _ True.intro ?_
      clear hKx Kx
      refine sxr [8] ?_
      refine rd1 (fun Kx hKx => ?_)
      replace b4 := (b4.past (bthru (bthru hbV9 hbV10) hbV11))
      refine ssk none b4 hT64 0 #[.bool ((norm (A) (-(b + 20 : Nat))).neg), .slice p19 (dig B32 (norm (A) (-(b + 20 : Nat))).m).length c19, .int .i64 ((norm (A) (-(b + 20 : Nat))).e), .bool ((norm (B) (-(b + 20 : Nat))).neg), .slice q19 (dig B32 (norm (B) (-(b + 20 : Nat))).m).length d19, .int .i64 ((norm (B) (-(b + 20 : Nat))).e)] #[.bool ((norm (A) (-(b + 20 : Nat))).neg), .slice p19 (dig B32 (norm (A) (-(b + 20 : Nat))).m).length c19, .int .i64 ((norm (A) (-(b + 20 : Nat))).e), .bool ((norm (B) (-(b + 20 : Nat))).neg), .slice q19 (dig B32 (norm (B) (-(b + 20 : Nat))).m).length d19, .int .i64 ((norm (B) (-(b + 20 : Nat))).e)] ?_
      have boV12 := b4
      clear b4
      intro V12 hOV12 b4
      have hzV12 := hOV12.size
      refine hKx.out _ _ True.intro ?_
      clear hKx Kx
      refine sx_done (by kernel_rfl) ?_
      replace ho14 := ((ho14.past (bthru hbV10 hbV11)).put boV12 hOV12 (by kernel_rfl))
      replace hq14 := ((hq14.past (bthru hbV10 hbV11)).put boV12 hOV12 (by kernel_rfl))
      replace ho15 := ((ho15.past (bthru hbV10 hbV11)).put boV12 hOV12 (by kernel_rfl))
      replace ho17 := ((ho17.past hbV11).put boV12 hOV12 (by kernel_rfl))
      replace hq17 := ((hq17.past hbV11).put boV12 hOV12 (by kernel_rfl))
      replace ho19 := (ho19.put boV12 hOV12 (by kernel_rfl))
      replace hq19 := (hq19.put boV12 hOV12 (by kernel_rfl))
      exact ⟨rfl, J2, p14, c14, q14, d14, p15, c15, L2, H2, p17, c17, q17, d17, A, B, p19, c19, q19, d19, by kernel_rfl, b4, hk2, (ho14.mono (by omega)), (hq14.mono (by omega)), (ho15.mono (by omega)), ht2, ho17, hq17, hs1, ho19, hq19, (((((((Keep.refl V4.heap.size V6).step hbV7).step hbV8).step hbV9).step hbV10).step hbV11).put hOV12 (by omega))⟩
    refine rd1 (fun Kx hKx => ?_)
    replace hT := (hT.past hbV8)
    refine sek 15 61 #[.int .i64 (-2)] ?_
    ((with_reducible refine (serWhole_any (-2) _ (by omega) hT).mono ?_))
    rintro eV9 V9 ⟨p15, c15, rfl, ho15, hbV9⟩
    have hzV9 := hbV9.size
    refine ⟨.agg #[.bool ((norm (-2) 0).neg), .slice p15 (dig B32 (norm (-2) 0).m).length c15, .int .i64 ((norm (-2) 0).e), .bool ((norm (-2) 0).neg), .slice p15 (dig B32 (norm (-2) 0).m).length c15, .int .i64 ((norm (-2) 0).e)], rfl, ?_⟩
    refine hKx.out _ _ True.intro ?_
    clear hKx Kx
    refine sxr [0, 5] ?_
    refine rd2 (fun Kx hKx => ?_) ?_
    · skip
      replace b4 := (b4.past (bthru (bthru hbV7 hbV8) hbV9))
      refine sk 12 (.agg #[.bool ((norm (L1) (-(b + 20 : Nat))).neg), .slice p11 (dig B32 (norm (L1) (-(b + 20 : Nat))).m).length c11, .int .i64 ((norm (L1) (-(b + 20 : Nat))).e), .bool ((norm (H1) (-(b + 20 : Nat))).neg), .slice q11 (dig B32 (norm (H1) (-(b + 20 : Nat))).m).length d11, .int .i64 ((norm (H1) (-(b + 20 : Nat))).e)]) ?_ (hr := (exec_ld (by kernel_rfl) (run_ld b4 hT64 0 [.bool ((norm (L1) (-(b + 20 : Nat))).neg), .slice p11 (dig B32 (norm (L1) (-(b + 20 : Nat))).m).length c11, .int .i64 ((norm (L1) (-(b + 20 : Nat))).e), .bool ((norm (H1) (-(b + 20 : Nat))).neg), .slice q11 (dig B32 (norm (H1) (-(b + 20 : Nat))).m).length d11, .int .i64 ((norm (H1) (-(b + 20 : Nat))).e)] (by kernel_rfl) (by kernel_rfl))))
      refine hKx.out _ _ True.intro ?_
      clear hKx Kx
      refine sxr [5] ?_
      refine rd1 (fun Kx hKx => ?_)
      replace ho14 := (ho14.past hbV9)
      replace hq14 := (hq14.past hbV9)
      replace hT := (hT.past hbV9)
      refine sek 17 58 #[.agg #[.bool ((norm (sI false 4801 (b + 20) J2 - oddO J2) (-(b + 20 : Nat))).neg), .slice p14 (dig B32 (norm (sI false 4801 (b + 20) J2 - oddO J2) (-(b + 20 : Nat))).m).length c14, .int .i64 ((norm (sI false 4801 (b + 20) J2 - oddO J2) (-(b + 20 : Nat))).e), .bool ((norm (sI false 4801 (b + 20) J2 + oddO J2) (-(b + 20 : Nat))).neg), .slice q14 (dig B32 (norm (sI false 4801 (b + 20) J2 + oddO J2) (-(b + 20 : Nat))).m).length d14, .int .i64 ((norm (sI false 4801 (b + 20) J2 + oddO J2) (-(b + 20 : Nat))).e)], .agg #[.bool ((norm (-2) 0).neg), .slice p15 (dig B32 (norm (-2) 0).m).length c15, .int .i64 ((norm (-2) 0).e), .bool ((norm (-2) 0).neg), .slice p15 (dig B32 (norm (-2) 0).m).length c15, .int .i64 ((norm (-2) 0).e)], .int .i64 ((b + 20 : Nat) : Int)] ?_
      ((with_reducible refine (stimes _ _ (-2) (b + 20) w.heap.size _ p14 q14 p15 c14 d14 c15 _ rfl (by omega) (by omega) (ho14.mono (by omega)) (hq14.mono (by omega)) (ho15.mono (by omega)) (odd_small false (by omega) (by omega) (by omega) hk2).1 (odd_small false (by omega) (by omega) (by omega) hk2).2 (small_of (k := 8) (by decide) (by omega)) (odd_mul false (by omega) (by omega) (by omega) hk2 _ (by omega)).1 (odd_mul false (by omega) (by omega) (by omega) hk2 _ (by omega)).2 hT (by omega)).mono ?_))
      rintro eV10 V10 ⟨L2, H2, ht2, p17, c17, q17, d17, rfl, ho17, hq17, hbV10⟩
      have hzV10 := hbV10.size
      refine ⟨.agg #[.bool ((norm (L2) (-(b + 20 : Nat))).neg), .slice p17 (dig B32 (norm (L2) (-(b + 20 : Nat))).m).length c17, .int .i64 ((norm (L2) (-(b + 20 : Nat))).e), .bool ((norm (H2) (-(b + 20 : Nat))).neg), .slice q17 (dig B32 (norm (H2) (-(b + 20 : Nat))).m).length d17, .int .i64 ((norm (H2) (-(b + 20 : Nat))).e)], rfl, ?_⟩
      refine hKx.out _ _ True.intro ?_
      clear hKx Kx
      refine sxr [7] ?_
      refine rd1 (fun Kx hKx => ?_)
      replace ho11 := (ho11.past (bthru (bthru (bthru (bthru (hbV5.trans (hOV6.below (by omega))) hbV7) hbV8) hbV9) hbV10))
      replace hq11 := (hq11.past (bthru (bthru (bthru (bthru (hbV5.trans (hOV6.below (by omega))) hbV7) hbV8) hbV9) hbV10))
      replace hT := (hT.past hbV10)
      refine sek 19 59 #[.agg #[.bool ((norm (L1) (-(b + 20 : Nat))).neg), .slice p11 (dig B32 (norm (L1) (-(b + 20 : Nat))).m).length c11, .int .i64 ((norm (L1) (-(b + 20 : Nat))).e), .bool ((norm (H1) (-(b + 20 : Nat))).neg), .slice q11 (dig B32 (norm (H1) (-(b + 20 : Nat))).m).length d11, .int .i64 ((norm (H1) (-(b + 20 : Nat))).e)], .agg #[.bool ((norm (L2) (-(b + 20 : Nat))).neg), .slice p17 (dig B32 (norm (L2) (-(b + 20 : Nat))).m).length c17, .int .i64 ((norm (L2) (-(b + 20 : Nat))).e), .bool ((norm (H2) (-(b + 20 : Nat))).neg), .slice q17 (dig B32 (norm (H2) (-(b + 20 : Nat))).m).length d17, .int .i64 ((norm (H2) (-(b + 20 : Nat))).e)], .int .i64 ((b + 20 : Nat) : Int)] ?_
      ((with_reducible refine (splusB L1 H1 L2 H2 (b + 20) w.heap.size _ p11 q11 p17 q17 c11 d11 c17 d17 _ rfl (by omega) (by omega) (ho11.mono (by omega)) (hq11.mono (by omega)) (ho17.mono (by omega)) (hq17.mono (by omega)) (ln_ok (w := b + 20) (by omega) (by omega) hk1 hk2 ht1 ht2).a (ln_ok (w := b + 20) (by omega) (by omega) hk1 hk2 ht1 ht2).b (ln_ok (w := b + 20) (by omega) (by omega) hk1 hk2 ht1 ht2).c (ln_ok (w := b + 20) (by omega) (by omega) hk1 hk2 ht1 ht2).d (ln_ok (w := b + 20) (by omega) (by omega) hk1 hk2 ht1 ht2).e (ln_ok (w := b + 20) (by omega) (by omega) hk1 hk2 ht1 ht2).f (ln_ok (w := b + 20) (by omega) (by omega) hk1 hk2 ht1 ht2).g (ln_ok (w := b + 20) (by omega) (by omega) hk1 hk2 ht1 ht2).i hT (by omega)).mono ?_))
      rintro eV11 V11 ⟨A, B, hs1, p19, c19, q19, d19, rfl, ho19, hq19, hbV11⟩
      have hzV11 := hbV11.size
      refine ⟨.agg #[.bool ((norm (A) (-(b + 20 : Nat))).neg), .slice p19 (dig B32 (norm (A) (-(b + 20 : Nat))).m).length c19, .int .i64 ((norm (A) (-(b + 20 : Nat))).e), .bool ((norm (B) (-(b + 20 : Nat))).neg), .slice q19 (dig B32 (norm (B) (-(b + 20 : Nat))).m).length d19, .int .i64 ((norm (B) (-(b + 20 : Nat))).e)], rfl, ?_⟩
      refine hKx.out _ _ True.intro ?_
      clear hKx Kx
      refine sxr [8] ?_
      refine rd1 (fun Kx hKx => ?_)
      replace b4 := (b4.past (bthru hbV10 hbV11))
      refine ssk none b4 hT64 0 #[.bool ((norm (A) (-(b + 20 : Nat))).neg), .slice p19 (dig B32 (norm (A) (-(b + 20 : Nat))).m).length c19, .int .i64 ((norm (A) (-(b + 20 : Nat))).e), .bool ((norm (B) (-(b + 20 : Nat))).neg), .slice q19 (dig B32 (norm (B) (-(b + 20 : Nat))).m).length d19, .int .i64 ((norm (B) (-(b + 20 : Nat))).e)] #[.bool ((norm (A) (-(b + 20 : Nat))).neg), .slice p19 (dig B32 (norm (A) (-(b + 20 : Nat))).m).length c19, .int .i64 ((norm (A) (-(b + 20 : Nat))).e), .bool ((norm (B) (-(b + 20 : Nat))).neg), .slice q19 (dig B32 (norm (B) (-(b + 20 : Nat))).m).length d19, .int .i64 ((norm (B) (-(b + 20 : Nat))).e)] ?_
      have boV12 := b4
      clear b4
      intro V12 hOV12 b4
      have hzV12 := hOV12.size
      refine hKx.out _ _ True.intro ?_
      clear hKx Kx
      refine sx_done (by kernel_rfl) ?_
      replace ho14 := ((ho14.past (bthru hbV10 hbV11)).put boV12 hOV12 (by kernel_rfl))
      replace hq14 := ((hq14.past (bthru hbV10 hbV11)).put boV12 hOV12 (by kernel_rfl))
      replace ho15 := ((ho15.past (bthru hbV10 hbV11)).put boV12 hOV12 (by kernel_rfl))
      replace ho17 := ((ho17.past hbV11).put boV12 hOV12 (by kernel_rfl))
      replace hq17 := ((hq17.past hbV11).put boV12 hOV12 (by kernel_rfl))
      replace ho19 := (ho19.put boV12 hOV12 (by kernel_rfl))
      replace hq19 := (hq19.put boV12 hOV12 (by kernel_rfl))
      exact ⟨rfl, J2, p14, c14, q14, d14, p15, c15, L2, H2, p17, c17, q17, d17, A, B, p19, c19, q19, d19, by kernel_rfl, b4, hk2, (ho14.mono (by omega)), (hq14.mono (by omega)), (ho15.mono (by omega)), ht2, ho17, hq17, hs1, ho19, hq19, (((((((Keep.refl V4.heap.size V6).step hbV7).step hbV8).step hbV9).step hbV10).step hbV11).put hOV12 (by omega))⟩
    refine rd1 (fun Kx hKx => ?_)
    replace ho14 := (ho14.past hbV9)
    replace hq14 := (hq14.past hbV9)
    replace hT := (hT.past hbV9)
    refine sek 17 58 #[.agg #[.bool ((norm (sI false 4801 (b + 20) J2 - oddO J2) (-(b + 20 : Nat))).neg), .slice p14 (dig B32 (norm (sI false 4801 (b + 20) J2 - oddO J2) (-(b + 20 : Nat))).m).length c14, .int .i64 ((norm (sI false 4801 (b + 20) J2 - oddO J2) (-(b + 20 : Nat))).e), .bool ((norm (sI false 4801 (b + 20) J2 + oddO J2) (-(b + 20 : Nat))).neg), .slice q14 (dig B32 (norm (sI false 4801 (b + 20) J2 + oddO J2) (-(b + 20 : Nat))).m).length d14, .int .i64 ((norm (sI false 4801 (b + 20) J2 + oddO J2) (-(b + 20 : Nat))).e)], .agg #[.bool ((norm (-2) 0).neg), .slice p15 (dig B32 (norm (-2) 0).m).length c15, .int .i64 ((norm (-2) 0).e), .bool ((norm (-2) 0).neg), .slice p15 (dig B32 (norm (-2) 0).m).length c15, .int .i64 ((norm (-2) 0).e)], .int .i64 ((b + 20 : Nat) : Int)] ?_
    ((with_reducible refine (stimes _ _ (-2) (b + 20) w.heap.size _ p14 q14 p15 c14 d14 c15 _ rfl (by omega) (by omega) (ho14.mono (by omega)) (hq14.mono (by omega)) (ho15.mono (by omega)) (odd_small false (by omega) (by omega) (by omega) hk2).1 (odd_small false (by omega) (by omega) (by omega) hk2).2 (small_of (k := 8) (by decide) (by omega)) (odd_mul false (by omega) (by omega) (by omega) hk2 _ (by omega)).1 (odd_mul false (by omega) (by omega) (by omega) hk2 _ (by omega)).2 hT (by omega)).mono ?_))
    rintro eV10 V10 ⟨L2, H2, ht2, p17, c17, q17, d17, rfl, ho17, hq17, hbV10⟩
    have hzV10 := hbV10.size
    refine ⟨.agg #[.bool ((norm (L2) (-(b + 20 : Nat))).neg), .slice p17 (dig B32 (norm (L2) (-(b + 20 : Nat))).m).length c17, .int .i64 ((norm (L2) (-(b + 20 : Nat))).e), .bool ((norm (H2) (-(b + 20 : Nat))).neg), .slice q17 (dig B32 (norm (H2) (-(b + 20 : Nat))).m).length d17, .int .i64 ((norm (H2) (-(b + 20 : Nat))).e)], rfl, ?_⟩
    refine hKx.out _ _ True.intro ?_
    clear hKx Kx
    refine sxr [0] ?_
    refine rd1 (fun Kx hKx => ?_)
    replace b4 := (b4.past (bthru (bthru (bthru hbV7 hbV8) hbV9) hbV10))
    refine sk 12 (.agg #[.bool ((norm (L1) (-(b + 20 : Nat))).neg), .slice p11 (dig B32 (norm (L1) (-(b + 20 : Nat))).m).length c11, .int .i64 ((norm (L1) (-(b + 20 : Nat))).e), .bool ((norm (H1) (-(b + 20 : Nat))).neg), .slice q11 (dig B32 (norm (H1) (-(b + 20 : Nat))).m).length d11, .int .i64 ((norm (H1) (-(b + 20 : Nat))).e)]) ?_ (hr := (exec_ld (by kernel_rfl) (run_ld b4 hT64 0 [.bool ((norm (L1) (-(b + 20 : Nat))).neg), .slice p11 (dig B32 (norm (L1) (-(b + 20 : Nat))).m).length c11, .int .i64 ((norm (L1) (-(b + 20 : Nat))).e), .bool ((norm (H1) (-(b + 20 : Nat))).neg), .slice q11 (dig B32 (norm (H1) (-(b + 20 : Nat))).m).length d11, .int .i64 ((norm (H1) (-(b + 20 : Nat))).e)] (by kernel_rfl) (by kernel_rfl))))
    refine hKx.out _ _ True.intro ?_
    clear hKx Kx
    refine sxr [7] ?_
    refine rd1 (fun Kx hKx => ?_)
    replace ho11 := (ho11.past (bthru (bthru (bthru (bthru (hbV5.trans (hOV6.below (by omega))) hbV7) hbV8) hbV9) hbV10))
    replace hq11 := (hq11.past (bthru (bthru (bthru (bthru (hbV5.trans (hOV6.below (by omega))) hbV7) hbV8) hbV9) hbV10))
    replace hT := (hT.past hbV10)
    refine sek 19 59 #[.agg #[.bool ((norm (L1) (-(b + 20 : Nat))).neg), .slice p11 (dig B32 (norm (L1) (-(b + 20 : Nat))).m).length c11, .int .i64 ((norm (L1) (-(b + 20 : Nat))).e), .bool ((norm (H1) (-(b + 20 : Nat))).neg), .slice q11 (dig B32 (norm (H1) (-(b + 20 : Nat))).m).length d11, .int .i64 ((norm (H1) (-(b + 20 : Nat))).e)], .agg #[.bool ((norm (L2) (-(b + 20 : Nat))).neg), .slice p17 (dig B32 (norm (L2) (-(b + 20 : Nat))).m).length c17, .int .i64 ((norm (L2) (-(b + 20 : Nat))).e), .bool ((norm (H2) (-(b + 20 : Nat))).neg), .slice q17 (dig B32 (norm (H2) (-(b + 20 : Nat))).m).length d17, .int .i64 ((norm (H2) (-(b + 20 : Nat))).e)], .int .i64 ((b + 20 : Nat) : Int)] ?_
    ((with_reducible refine (splusB L1 H1 L2 H2 (b + 20) w.heap.size _ p11 q11 p17 q17 c11 d11 c17 d17 _ rfl (by omega) (by omega) (ho11.mono (by omega)) (hq11.mono (by omega)) (ho17.mono (by omega)) (hq17.mono (by omega)) (ln_ok (w := b + 20) (by omega) (by omega) hk1 hk2 ht1 ht2).a (ln_ok (w := b + 20) (by omega) (by omega) hk1 hk2 ht1 ht2).b (ln_ok (w := b + 20) (by omega) (by omega) hk1 hk2 ht1 ht2).c (ln_ok (w := b + 20) (by omega) (by omega) hk1 hk2 ht1 ht2).d (ln_ok (w := b + 20) (by omega) (by omega) hk1 hk2 ht1 ht2).e (ln_ok (w := b + 20) (by omega) (by omega) hk1 hk2 ht1 ht2).f (ln_ok (w := b + 20) (by omega) (by omega) hk1 hk2 ht1 ht2).g (ln_ok (w := b + 20) (by omega) (by omega) hk1 hk2 ht1 ht2).i hT (by omega)).mono ?_))
    rintro eV11 V11 ⟨A, B, hs1, p19, c19, q19, d19, rfl, ho19, hq19, hbV11⟩
    have hzV11 := hbV11.size
    refine ⟨.agg #[.bool ((norm (A) (-(b + 20 : Nat))).neg), .slice p19 (dig B32 (norm (A) (-(b + 20 : Nat))).m).length c19, .int .i64 ((norm (A) (-(b + 20 : Nat))).e), .bool ((norm (B) (-(b + 20 : Nat))).neg), .slice q19 (dig B32 (norm (B) (-(b + 20 : Nat))).m).length d19, .int .i64 ((norm (B) (-(b + 20 : Nat))).e)], rfl, ?_⟩
    refine hKx.out _ _ True.intro ?_
    clear hKx Kx
    refine sxr [8] ?_
    refine rd1 (fun Kx hKx => ?_)
    replace b4 := (b4.past hbV11)
    refine ssk none b4 hT64 0 #[.bool ((norm (A) (-(b + 20 : Nat))).neg), .slice p19 (dig B32 (norm (A) (-(b + 20 : Nat))).m).length c19, .int .i64 ((norm (A) (-(b + 20 : Nat))).e), .bool ((norm (B) (-(b + 20 : Nat))).neg), .slice q19 (dig B32 (norm (B) (-(b + 20 : Nat))).m).length d19, .int .i64 ((norm (B) (-(b + 20 : Nat))).e)] #[.bool ((norm (A) (-(b + 20 : Nat))).neg), .slice p19 (dig B32 (norm (A) (-(b + 20 : Nat))).m).length c19, .int .i64 ((norm (A) (-(b + 20 : Nat))).e), .bool ((norm (B) (-(b + 20 : Nat))).neg), .slice q19 (dig B32 (norm (B) (-(b + 20 : Nat))).m).length d19, .int .i64 ((norm (B) (-(b + 20 : Nat))).e)] ?_
    have boV12 := b4
    clear b4
    intro V12 hOV12 b4
    have hzV12 := hOV12.size
    refine hKx.out _ _ True.intro ?_
    clear hKx Kx
    refine sx_done (by kernel_rfl) ?_
    replace ho14 := ((ho14.past (bthru hbV10 hbV11)).put boV12 hOV12 (by kernel_rfl))
    replace hq14 := ((hq14.past (bthru hbV10 hbV11)).put boV12 hOV12 (by kernel_rfl))
    replace ho15 := ((ho15.past (bthru hbV10 hbV11)).put boV12 hOV12 (by kernel_rfl))
    replace ho17 := ((ho17.past hbV11).put boV12 hOV12 (by kernel_rfl))
    replace hq17 := ((hq17.past hbV11).put boV12 hOV12 (by kernel_rfl))
    replace ho19 := (ho19.put boV12 hOV12 (by kernel_rfl))
    replace hq19 := (hq19.put boV12 hOV12 (by kernel_rfl))
    exact ⟨rfl, J2, p14, c14, q14, d14, p15, c15, L2, H2, p17, c17, q17, d17, A, B, p19, c19, q19, d19, by kernel_rfl, b4, hk2, (ho14.mono (by omega)), (hq14.mono (by omega)), (ho15.mono (by omega)), ht2, ho17, hq17, hs1, ho19, hq19, (((((((Keep.refl V4.heap.size V6).step hbV7).step hbV8).step hbV9).step hbV10).step hbV11).put hOV12 (by omega))⟩
  have boV7 := b4
  clear b4
  rintro _ V7 ⟨J2, p14, c14, q14, d14, p15, c15, L2, H2, p17, c17, q17, d17, A, B, p19, c19, q19, d19, rfl, b4, hk2, ho14, hq14, ho15, ht2, ho17, hq17, hs1, ho19, hq19, hOV7⟩
  refine hGx _ _ ?_
  clear hGx Gx
  have hzV7 := hOV7.size
  refine sx_then ?_
  refine wp_seq ?_
  obtain ⟨V8, hVV8⟩ : ∃ V, V = (V7).drew := ⟨_, rfl⟩
  have hbV8 : Below (V7).heap.size (V7) V8 := by rw [hVV8]; exact (Below.refl _ _).drew
  have hzV8 : V8.heap.size = (V7).heap.size := by rw [hVV8]; rfl
  replace b4 := (b4.past hbV8)
  refine sxd _ (fun w' => Bt w' V4.heap.size 64 #[.bool ((norm (A) (-(b + 20 : Nat))).neg), .slice p19 (dig B32 (norm (A) (-(b + 20 : Nat))).m).length c19, .int .i64 ((norm (A) (-(b + 20 : Nat))).e), .bool ((norm (B) (-(b + 20 : Nat))).neg), .slice q19 (dig B32 (norm (B) (-(b + 20 : Nat))).m).length d19, .int .i64 ((norm (B) (-(b + 20 : Nat))).e)]) hVV8 b4 ?_
  clear hVV8
  refine tk 0 20 (.agg #[.bool ((norm (A) (-(b + 20 : Nat))).neg), .slice p19 (dig B32 (norm (A) (-(b + 20 : Nat))).m).length c19, .int .i64 ((norm (A) (-(b + 20 : Nat))).e), .bool ((norm (B) (-(b + 20 : Nat))).neg), .slice q19 (dig B32 (norm (B) (-(b + 20 : Nat))).m).length d19, .int .i64 ((norm (B) (-(b + 20 : Nat))).e)]) b4 ?_ (hy := fun w' hS => (exec_ld (by kernel_rfl) (run_ld hS hT64 0 [.bool ((norm (A) (-(b + 20 : Nat))).neg), .slice p19 (dig B32 (norm (A) (-(b + 20 : Nat))).m).length c19, .int .i64 ((norm (A) (-(b + 20 : Nat))).e), .bool ((norm (B) (-(b + 20 : Nat))).neg), .slice q19 (dig B32 (norm (B) (-(b + 20 : Nat))).m).length d19, .int .i64 ((norm (B) (-(b + 20 : Nat))).e)] (by kernel_rfl) (by kernel_rfl))))
  refine tk 1 21 (.int .i64 ((b + 20 : Nat) : Int)) b4 ?_
  refine tk 4 24 (.int .i64 ((b + 20 : Nat) : Int)) b4 ?_
  refine tk 6 26 (.int .i64 ((b + 20 : Nat) : Int)) b4 ?_
  refine sxr [2] ?_
  refine rd1 (fun Kx hKx => ?_)
  replace hT := (hT.past (bthru (((bthru hbV4 hbV5).trans (hOV6.below (by omega))).trans (hOV7.below (by omega) (by omega))) hbV8))
  refine sek 22 60 #[.int .i64 8749, .int .i64 ((b + 20 : Nat) : Int), .bool false] ?_
  ((with_reducible refine (oddO_any 8749 _ 8749 (b + 20) false _ rfl rfl (by omega) (by omega) (by omega) hT).mono ?_))
  rintro eV9 V9 ⟨J3, hk3, p22, c22, q22, d22, rfl, ho22, hq22, hbV9⟩
  have hzV9 := hbV9.size
  refine ⟨.agg #[.bool ((norm (sI false 8749 (b + 20) J3 - oddO J3) (-(b + 20 : Nat))).neg), .slice p22 (dig B32 (norm (sI false 8749 (b + 20) J3 - oddO J3) (-(b + 20 : Nat))).m).length c22, .int .i64 ((norm (sI false 8749 (b + 20) J3 - oddO J3) (-(b + 20 : Nat))).e), .bool ((norm (sI false 8749 (b + 20) J3 + oddO J3) (-(b + 20 : Nat))).neg), .slice q22 (dig B32 (norm (sI false 8749 (b + 20) J3 + oddO J3) (-(b + 20 : Nat))).m).length d22, .int .i64 ((norm (sI false 8749 (b + 20) J3 + oddO J3) (-(b + 20 : Nat))).e)], rfl, ?_⟩
  replace b4 := (b4.past hbV9)
  refine hKx.out _ _ b4 ?_
  clear hKx Kx
  refine sxr [3] ?_
  refine rd1 (fun Kx hKx => ?_)
  replace hT := (hT.past hbV9)
  refine sek 23 61 #[.int .i64 8] ?_
  ((with_reducible refine (serWhole_any (8) _ (by omega) hT).mono ?_))
  rintro eV10 V10 ⟨p23, c23, rfl, ho23, hbV10⟩
  have hzV10 := hbV10.size
  refine ⟨.agg #[.bool ((norm (8) 0).neg), .slice p23 (dig B32 (norm (8) 0).m).length c23, .int .i64 ((norm (8) 0).e), .bool ((norm (8) 0).neg), .slice p23 (dig B32 (norm (8) 0).m).length c23, .int .i64 ((norm (8) 0).e)], rfl, ?_⟩
  replace b4 := (b4.past hbV10)
  refine hKx.out _ _ b4 ?_
  clear hKx Kx
  refine sxr [5] ?_
  refine rd1 (fun Kx hKx => ?_)
  replace ho22 := (ho22.past hbV10)
  replace hq22 := (hq22.past hbV10)
  replace hT := (hT.past hbV10)
  refine sek 25 58 #[.agg #[.bool ((norm (sI false 8749 (b + 20) J3 - oddO J3) (-(b + 20 : Nat))).neg), .slice p22 (dig B32 (norm (sI false 8749 (b + 20) J3 - oddO J3) (-(b + 20 : Nat))).m).length c22, .int .i64 ((norm (sI false 8749 (b + 20) J3 - oddO J3) (-(b + 20 : Nat))).e), .bool ((norm (sI false 8749 (b + 20) J3 + oddO J3) (-(b + 20 : Nat))).neg), .slice q22 (dig B32 (norm (sI false 8749 (b + 20) J3 + oddO J3) (-(b + 20 : Nat))).m).length d22, .int .i64 ((norm (sI false 8749 (b + 20) J3 + oddO J3) (-(b + 20 : Nat))).e)], .agg #[.bool ((norm (8) 0).neg), .slice p23 (dig B32 (norm (8) 0).m).length c23, .int .i64 ((norm (8) 0).e), .bool ((norm (8) 0).neg), .slice p23 (dig B32 (norm (8) 0).m).length c23, .int .i64 ((norm (8) 0).e)], .int .i64 ((b + 20 : Nat) : Int)] ?_
  ((with_reducible refine (stimes _ _ (8) (b + 20) w.heap.size _ p22 q22 p23 c22 d22 c23 _ rfl (by omega) (by omega) (ho22.mono (by omega)) (hq22.mono (by omega)) (ho23.mono (by omega)) (odd_small false (by omega) (by omega) (by omega) hk3).1 (odd_small false (by omega) (by omega) (by omega) hk3).2 (small_of (k := 8) (by decide) (by omega)) (odd_mul false (by omega) (by omega) (by omega) hk3 _ (by omega)).1 (odd_mul false (by omega) (by omega) (by omega) hk3 _ (by omega)).2 hT (by omega)).mono ?_))
  rintro eV11 V11 ⟨L3, H3, ht3, p25, c25, q25, d25, rfl, ho25, hq25, hbV11⟩
  have hzV11 := hbV11.size
  refine ⟨.agg #[.bool ((norm (L3) (-(b + 20 : Nat))).neg), .slice p25 (dig B32 (norm (L3) (-(b + 20 : Nat))).m).length c25, .int .i64 ((norm (L3) (-(b + 20 : Nat))).e), .bool ((norm (H3) (-(b + 20 : Nat))).neg), .slice q25 (dig B32 (norm (H3) (-(b + 20 : Nat))).m).length d25, .int .i64 ((norm (H3) (-(b + 20 : Nat))).e)], rfl, ?_⟩
  replace b4 := (b4.past hbV11)
  refine hKx.out _ _ b4 ?_
  clear hKx Kx
  refine sxr [7] ?_
  refine rd1 (fun Kx hKx => ?_)
  replace ho19 := (ho19.past (bthru (bthru (bthru hbV8 hbV9) hbV10) hbV11))
  replace hq19 := (hq19.past (bthru (bthru (bthru hbV8 hbV9) hbV10) hbV11))
  replace hT := (hT.past hbV11)
  refine sek 27 59 #[.agg #[.bool ((norm (A) (-(b + 20 : Nat))).neg), .slice p19 (dig B32 (norm (A) (-(b + 20 : Nat))).m).length c19, .int .i64 ((norm (A) (-(b + 20 : Nat))).e), .bool ((norm (B) (-(b + 20 : Nat))).neg), .slice q19 (dig B32 (norm (B) (-(b + 20 : Nat))).m).length d19, .int .i64 ((norm (B) (-(b + 20 : Nat))).e)], .agg #[.bool ((norm (L3) (-(b + 20 : Nat))).neg), .slice p25 (dig B32 (norm (L3) (-(b + 20 : Nat))).m).length c25, .int .i64 ((norm (L3) (-(b + 20 : Nat))).e), .bool ((norm (H3) (-(b + 20 : Nat))).neg), .slice q25 (dig B32 (norm (H3) (-(b + 20 : Nat))).m).length d25, .int .i64 ((norm (H3) (-(b + 20 : Nat))).e)], .int .i64 ((b + 20 : Nat) : Int)] ?_
  ((with_reducible refine (splusB A B L3 H3 (b + 20) w.heap.size _ p19 q19 p25 q25 c19 d19 c25 d25 _ rfl (by omega) (by omega) (ho19.mono (by omega)) (hq19.mono (by omega)) (ho25.mono (by omega)) (hq25.mono (by omega)) (ln_ok2 (w := b + 20) (by omega) (by omega) hk1 hk2 hk3 ht1 ht2 hs1 ht3).a (ln_ok2 (w := b + 20) (by omega) (by omega) hk1 hk2 hk3 ht1 ht2 hs1 ht3).b (ln_ok2 (w := b + 20) (by omega) (by omega) hk1 hk2 hk3 ht1 ht2 hs1 ht3).c (ln_ok2 (w := b + 20) (by omega) (by omega) hk1 hk2 hk3 ht1 ht2 hs1 ht3).d (ln_ok2 (w := b + 20) (by omega) (by omega) hk1 hk2 hk3 ht1 ht2 hs1 ht3).e (ln_ok2 (w := b + 20) (by omega) (by omega) hk1 hk2 hk3 ht1 ht2 hs1 ht3).f (ln_ok2 (w := b + 20) (by omega) (by omega) hk1 hk2 hk3 ht1 ht2 hs1 ht3).g (ln_ok2 (w := b + 20) (by omega) (by omega) hk1 hk2 hk3 ht1 ht2 hs1 ht3).i hT (by omega)).mono ?_))
  rintro eV12 V12 ⟨L, H, hs, p27, c27, q27, d27, rfl, ho27, hq27, hbV12⟩
  have hzV12 := hbV12.size
  refine ⟨.agg #[.bool ((norm (L) (-(b + 20 : Nat))).neg), .slice p27 (dig B32 (norm (L) (-(b + 20 : Nat))).m).length c27, .int .i64 ((norm (L) (-(b + 20 : Nat))).e), .bool ((norm (H) (-(b + 20 : Nat))).neg), .slice q27 (dig B32 (norm (H) (-(b + 20 : Nat))).m).length d27, .int .i64 ((norm (H) (-(b + 20 : Nat))).e)], rfl, ?_⟩
  replace b4 := (b4.past hbV12)
  refine hKx.out _ _ b4 ?_
  clear hKx Kx
  refine sxr [8] ?_
  refine rd1 (fun Kx hKx => ?_)
  replace b2 := (b2.past (bthru (bthru (bthru (bthru (bthru (((bthru (bthru (bthru hbV2 hbV3) hbV4) hbV5).trans (hOV6.below (by omega))).trans (hOV7.below (by omega) (by omega))) hbV8) hbV9) hbV10) hbV11) hbV12))
  refine ssk none b2 hT64 0 #[.bool ((norm (L) (-(b + 20 : Nat))).neg), .slice p27 (dig B32 (norm (L) (-(b + 20 : Nat))).m).length c27, .int .i64 ((norm (L) (-(b + 20 : Nat))).e), .bool ((norm (H) (-(b + 20 : Nat))).neg), .slice q27 (dig B32 (norm (H) (-(b + 20 : Nat))).m).length d27, .int .i64 ((norm (H) (-(b + 20 : Nat))).e)] #[.bool ((norm (L) (-(b + 20 : Nat))).neg), .slice p27 (dig B32 (norm (L) (-(b + 20 : Nat))).m).length c27, .int .i64 ((norm (L) (-(b + 20 : Nat))).e), .bool ((norm (H) (-(b + 20 : Nat))).neg), .slice q27 (dig B32 (norm (H) (-(b + 20 : Nat))).m).length d27, .int .i64 ((norm (H) (-(b + 20 : Nat))).e)] ?_
  have boV13 := b2
  clear b2
  intro V13 hOV13 b2
  have hzV13 := hOV13.size
  replace b4 := (b4.only hOV13 (by omega))
  refine hKx.out _ _ b4 ?_
  clear hKx Kx
  refine sx_done (by kernel_rfl) ?_
  refine sx_then ?_
  refine wp_ret ?_
  have ⟨b2_0, b2_1, b2_2, b2_3, b2_4, b2_5⟩ := b2.bx.e6
  repeat (first | with_reducible refine sx_thenret ?_ | with_reducible refine sx_blockret ?_)
  refine bodyPost_ret (v := .agg #[.bool ((norm (L) (-(b + 20 : Nat))).neg), .slice p27 (dig B32 (norm (L) (-(b + 20 : Nat))).m).length c27, .int .i64 ((norm (L) (-(b + 20 : Nat))).e), .bool ((norm (H) (-(b + 20 : Nat))).neg), .slice q27 (dig B32 (norm (H) (-(b + 20 : Nat))).m).length d27, .int .i64 ((norm (H) (-(b + 20 : Nat))).e)]) (by simp [results, Tryd.results45, go_sem, b2_0, b2_1, b2_2, b2_3, b2_4, b2_5]) rfl ?_
  replace ho27 := (ho27.put boV13 hOV13 (by kernel_rfl))
  replace hq27 := (hq27.put boV13 hOV13 (by kernel_rfl))
  exact ⟨L, H, ln_ball (by omega) (by omega) hk1 hk2 hk3 ht1 ht2 ht3 hs1 hs, p27, c27, q27, d27, rfl, ho27.mono (by omega), hq27.mono (by omega), ((bthru (bthru (bthru (bthru (bthru (((bthru (bthru (bthru (bthru hbV1 hbV2) hbV3) hbV4) hbV5).trans (hOV6.below (by omega))).trans (hOV7.below (by omega) (by omega))) hbV8) hbV9) hbV10) hbV11) hbV12).trans (hOV13.below (by omega)))⟩

set_option maxHeartbeats 2000000 in
set_option maxRecDepth 100000 in
theorem pi_ok (b : Nat) (w : World) (hb1 : 10 ≤ b) (hb2 : b ≤ 1000) (hT : TabW w) :
    Calls Tryd.prog 9 #[.int .i64 ((b : Nat) : Int)] w (GivesXE w Xpi (b + 20)) := by
  have hT27 : SxAgg Tryd.prog 27 6 := sxAgg_of (by kernel_rfl) (by kernel_rfl)
  refine calls_of_wp Tryd.func9 rfl ?_
  refine sx_frame (a' := ⟨((.int .i64 ((b : Nat) : Int)) :: undef :: undef :: undef :: undef :: undef :: undef :: undef :: undef :: undef :: undef :: undef :: undef :: []).toArray, []⟩) (by kernel_rfl) ?_
  refine wp_seq ?_
  refine sx_region ?_
  refine sn 2 #[.bool false, .slice none 0 0, .int .i64 0, .bool false, .slice none 0 0, .int .i64 0] 27 (fun V1 hbV1 hzV1 b2 => ?_)
  refine sv 3 (.int .i64 0) ?_
  refine sx_nil ?_
  refine sx_then ?_
  refine wp_seq ?_
  refine wp_seq ?_
  refine sx_region ?_
  refine sv 4 (.int .i64 ((b : Nat) : Int)) ?_
  refine se 5 33 #[.int .i64 ((b : Nat) : Int), .int .i64 10, .int .i64 1000] (fun Gx hGx => ?_)
  ((with_reducible refine (within_any _ 10 1000 _).mono ?_))
  rintro eV2 V2 ⟨rfl, hbV2⟩
  have hzV2 := hbV2.size
  rw [show (decide ((10 : Int) ≤ ((b : Nat) : Int) ∧ ((b : Nat) : Int) ≤ 1000)) = true from decide_eq_true (by omega)]
  refine ⟨.bool true, rfl, hGx _ _ ?_⟩
  clear hGx Gx
  refine sv 6 (.bool false) ?_
  refine sx_nil ?_
  refine sx_then ?_
  refine wp_cond_false (by kernel_rfl) ?_
  refine wp_skip ?_
  refine sx_then ?_
  refine wp_seq ?_
  refine sx_region ?_
  refine sv 8 (.int .i64 ((b : Nat) : Int)) ?_
  replace hT := (hT.past (bthru hbV1 hbV2))
  refine se 9 34 #[.int .i64 ((b : Nat) : Int)] (fun Gx hGx => ?_)
  ((with_reducible refine (rawPi_any b _ hb1 hb2 hT).mono ?_))
  rintro eV3 V3 ⟨L, H, hB, p9, c9, q9, d9, rfl, ho9, hq9, hbV3⟩
  have hzV3 := hbV3.size
  refine ⟨.agg #[.bool ((norm (L) (-(b + 20 : Nat))).neg), .slice p9 (dig B32 (norm (L) (-(b + 20 : Nat))).m).length c9, .int .i64 ((norm (L) (-(b + 20 : Nat))).e), .bool ((norm (H) (-(b + 20 : Nat))).neg), .slice q9 (dig B32 (norm (H) (-(b + 20 : Nat))).m).length d9, .int .i64 ((norm (H) (-(b + 20 : Nat))).e)], rfl, hGx _ _ ?_⟩
  clear hGx Gx
  refine se 10 35 #[.agg #[.bool ((norm (L) (-(b + 20 : Nat))).neg), .slice p9 (dig B32 (norm (L) (-(b + 20 : Nat))).m).length c9, .int .i64 ((norm (L) (-(b + 20 : Nat))).e), .bool ((norm (H) (-(b + 20 : Nat))).neg), .slice q9 (dig B32 (norm (H) (-(b + 20 : Nat))).m).length d9, .int .i64 ((norm (H) (-(b + 20 : Nat))).e)]] (fun Gx hGx => ?_)
  ((with_reducible refine (sdone L H (b + 20) w.heap.size p9 q9 c9 d9 _ (by omega) (ho9.mono (by omega)) (hq9.mono (by omega)) (ball_small hB (by omega)).1 (ball_small hB (by omega)).2).mono ?_))
  rintro eV4 V4 ⟨p10, c10, q10, d10, rfl, ho10, hq10, hbV4⟩
  have hzV4 := hbV4.size
  refine ⟨.tuple #[.agg #[.bool ((norm (L) (-(b + 20 : Nat))).neg), .slice p10 (dig B32 (norm (L) (-(b + 20 : Nat))).m).length c10, .int .i64 ((norm (L) (-(b + 20 : Nat))).e), .bool ((norm (H) (-(b + 20 : Nat))).neg), .slice q10 (dig B32 (norm (H) (-(b + 20 : Nat))).m).length d10, .int .i64 ((norm (H) (-(b + 20 : Nat))).e)], .int .i64 0], rfl, hGx _ _ ?_⟩
  clear hGx Gx
  refine sv 11 (.agg #[.bool ((norm (L) (-(b + 20 : Nat))).neg), .slice p10 (dig B32 (norm (L) (-(b + 20 : Nat))).m).length c10, .int .i64 ((norm (L) (-(b + 20 : Nat))).e), .bool ((norm (H) (-(b + 20 : Nat))).neg), .slice q10 (dig B32 (norm (H) (-(b + 20 : Nat))).m).length d10, .int .i64 ((norm (H) (-(b + 20 : Nat))).e)]) ?_
  refine sv 12 (.int .i64 0) ?_
  replace b2 := (b2.past (bthru (bthru hbV2 hbV3) hbV4))
  refine ss none b2 hT27 0 #[.bool ((norm (L) (-(b + 20 : Nat))).neg), .slice p10 (dig B32 (norm (L) (-(b + 20 : Nat))).m).length c10, .int .i64 ((norm (L) (-(b + 20 : Nat))).e), .bool ((norm (H) (-(b + 20 : Nat))).neg), .slice q10 (dig B32 (norm (H) (-(b + 20 : Nat))).m).length d10, .int .i64 ((norm (H) (-(b + 20 : Nat))).e)] #[.bool ((norm (L) (-(b + 20 : Nat))).neg), .slice p10 (dig B32 (norm (L) (-(b + 20 : Nat))).m).length c10, .int .i64 ((norm (L) (-(b + 20 : Nat))).e), .bool ((norm (H) (-(b + 20 : Nat))).neg), .slice q10 (dig B32 (norm (H) (-(b + 20 : Nat))).m).length d10, .int .i64 ((norm (H) (-(b + 20 : Nat))).e)] ?_
  have boV5 := b2
  clear b2
  intro V5 hOV5 b2
  have hzV5 := hOV5.size
  refine sv 3 (.int .i64 0) ?_
  refine sx_nil ?_
  refine sx_then ?_
  refine wp_ret ?_
  have ⟨b2_0, b2_1, b2_2, b2_3, b2_4, b2_5⟩ := b2.bx.e6
  repeat (first | with_reducible refine sx_thenret ?_ | with_reducible refine sx_blockret ?_)
  refine bodyPost_ret (v := .tuple #[.agg #[.bool ((norm (L) (-(b + 20 : Nat))).neg), .slice p10 (dig B32 (norm (L) (-(b + 20 : Nat))).m).length c10, .int .i64 ((norm (L) (-(b + 20 : Nat))).e), .bool ((norm (H) (-(b + 20 : Nat))).neg), .slice q10 (dig B32 (norm (H) (-(b + 20 : Nat))).m).length d10, .int .i64 ((norm (H) (-(b + 20 : Nat))).e)], .int .i64 0]) (by simp [results, Tryd.results9, go_sem, b2_0, b2_1, b2_2, b2_3, b2_4, b2_5]) rfl ?_
  replace ho10 := (ho10.put boV5 hOV5 (by kernel_rfl))
  replace hq10 := (hq10.put boV5 hOV5 (by kernel_rfl))
  exact ⟨L, H, hB, p10, c10, q10, d10, rfl, ho10, hq10, ((bthru (bthru (bthru hbV1 hbV2) hbV3) hbV4).trans (hOV5.below (by omega)))⟩

set_option maxHeartbeats 2000000 in
set_option maxRecDepth 100000 in
theorem ln2_ok (b : Nat) (w : World) (hb1 : 10 ≤ b) (hb2 : b ≤ 1000) (hT : TabW w) :
    Calls Tryd.prog 15 #[.int .i64 ((b : Nat) : Int)] w (GivesXE w Xln (b + 20)) := by
  have hT27 : SxAgg Tryd.prog 27 6 := sxAgg_of (by kernel_rfl) (by kernel_rfl)
  refine calls_of_wp Tryd.func15 rfl ?_
  refine sx_frame (a' := ⟨((.int .i64 ((b : Nat) : Int)) :: undef :: undef :: undef :: undef :: undef :: undef :: undef :: undef :: undef :: undef :: undef :: undef :: []).toArray, []⟩) (by kernel_rfl) ?_
  refine wp_seq ?_
  refine sx_region ?_
  refine sn 2 #[.bool false, .slice none 0 0, .int .i64 0, .bool false, .slice none 0 0, .int .i64 0] 27 (fun V1 hbV1 hzV1 b2 => ?_)
  refine sv 3 (.int .i64 0) ?_
  refine sx_nil ?_
  refine sx_then ?_
  refine wp_seq ?_
  refine wp_seq ?_
  refine sx_region ?_
  refine sv 4 (.int .i64 ((b : Nat) : Int)) ?_
  refine se 5 33 #[.int .i64 ((b : Nat) : Int), .int .i64 10, .int .i64 1000] (fun Gx hGx => ?_)
  ((with_reducible refine (within_any _ 10 1000 _).mono ?_))
  rintro eV2 V2 ⟨rfl, hbV2⟩
  have hzV2 := hbV2.size
  rw [show (decide ((10 : Int) ≤ ((b : Nat) : Int) ∧ ((b : Nat) : Int) ≤ 1000)) = true from decide_eq_true (by omega)]
  refine ⟨.bool true, rfl, hGx _ _ ?_⟩
  clear hGx Gx
  refine sv 6 (.bool false) ?_
  refine sx_nil ?_
  refine sx_then ?_
  refine wp_cond_false (by kernel_rfl) ?_
  refine wp_skip ?_
  refine sx_then ?_
  refine wp_seq ?_
  refine sx_region ?_
  refine sv 8 (.int .i64 ((b : Nat) : Int)) ?_
  replace hT := (hT.past (bthru hbV1 hbV2))
  refine se 9 45 #[.int .i64 ((b : Nat) : Int)] (fun Gx hGx => ?_)
  ((with_reducible refine (rawLn2_any b _ hb1 hb2 hT).mono ?_))
  rintro eV3 V3 ⟨L, H, hB, p9, c9, q9, d9, rfl, ho9, hq9, hbV3⟩
  have hzV3 := hbV3.size
  refine ⟨.agg #[.bool ((norm (L) (-(b + 20 : Nat))).neg), .slice p9 (dig B32 (norm (L) (-(b + 20 : Nat))).m).length c9, .int .i64 ((norm (L) (-(b + 20 : Nat))).e), .bool ((norm (H) (-(b + 20 : Nat))).neg), .slice q9 (dig B32 (norm (H) (-(b + 20 : Nat))).m).length d9, .int .i64 ((norm (H) (-(b + 20 : Nat))).e)], rfl, hGx _ _ ?_⟩
  clear hGx Gx
  refine se 10 35 #[.agg #[.bool ((norm (L) (-(b + 20 : Nat))).neg), .slice p9 (dig B32 (norm (L) (-(b + 20 : Nat))).m).length c9, .int .i64 ((norm (L) (-(b + 20 : Nat))).e), .bool ((norm (H) (-(b + 20 : Nat))).neg), .slice q9 (dig B32 (norm (H) (-(b + 20 : Nat))).m).length d9, .int .i64 ((norm (H) (-(b + 20 : Nat))).e)]] (fun Gx hGx => ?_)
  ((with_reducible refine (sdone L H (b + 20) w.heap.size p9 q9 c9 d9 _ (by omega) (ho9.mono (by omega)) (hq9.mono (by omega)) (ball_small hB (by omega)).1 (ball_small hB (by omega)).2).mono ?_))
  rintro eV4 V4 ⟨p10, c10, q10, d10, rfl, ho10, hq10, hbV4⟩
  have hzV4 := hbV4.size
  refine ⟨.tuple #[.agg #[.bool ((norm (L) (-(b + 20 : Nat))).neg), .slice p10 (dig B32 (norm (L) (-(b + 20 : Nat))).m).length c10, .int .i64 ((norm (L) (-(b + 20 : Nat))).e), .bool ((norm (H) (-(b + 20 : Nat))).neg), .slice q10 (dig B32 (norm (H) (-(b + 20 : Nat))).m).length d10, .int .i64 ((norm (H) (-(b + 20 : Nat))).e)], .int .i64 0], rfl, hGx _ _ ?_⟩
  clear hGx Gx
  refine sv 11 (.agg #[.bool ((norm (L) (-(b + 20 : Nat))).neg), .slice p10 (dig B32 (norm (L) (-(b + 20 : Nat))).m).length c10, .int .i64 ((norm (L) (-(b + 20 : Nat))).e), .bool ((norm (H) (-(b + 20 : Nat))).neg), .slice q10 (dig B32 (norm (H) (-(b + 20 : Nat))).m).length d10, .int .i64 ((norm (H) (-(b + 20 : Nat))).e)]) ?_
  refine sv 12 (.int .i64 0) ?_
  replace b2 := (b2.past (bthru (bthru hbV2 hbV3) hbV4))
  refine ss none b2 hT27 0 #[.bool ((norm (L) (-(b + 20 : Nat))).neg), .slice p10 (dig B32 (norm (L) (-(b + 20 : Nat))).m).length c10, .int .i64 ((norm (L) (-(b + 20 : Nat))).e), .bool ((norm (H) (-(b + 20 : Nat))).neg), .slice q10 (dig B32 (norm (H) (-(b + 20 : Nat))).m).length d10, .int .i64 ((norm (H) (-(b + 20 : Nat))).e)] #[.bool ((norm (L) (-(b + 20 : Nat))).neg), .slice p10 (dig B32 (norm (L) (-(b + 20 : Nat))).m).length c10, .int .i64 ((norm (L) (-(b + 20 : Nat))).e), .bool ((norm (H) (-(b + 20 : Nat))).neg), .slice q10 (dig B32 (norm (H) (-(b + 20 : Nat))).m).length d10, .int .i64 ((norm (H) (-(b + 20 : Nat))).e)] ?_
  have boV5 := b2
  clear b2
  intro V5 hOV5 b2
  have hzV5 := hOV5.size
  refine sv 3 (.int .i64 0) ?_
  refine sx_nil ?_
  refine sx_then ?_
  refine wp_ret ?_
  have ⟨b2_0, b2_1, b2_2, b2_3, b2_4, b2_5⟩ := b2.bx.e6
  repeat (first | with_reducible refine sx_thenret ?_ | with_reducible refine sx_blockret ?_)
  refine bodyPost_ret (v := .tuple #[.agg #[.bool ((norm (L) (-(b + 20 : Nat))).neg), .slice p10 (dig B32 (norm (L) (-(b + 20 : Nat))).m).length c10, .int .i64 ((norm (L) (-(b + 20 : Nat))).e), .bool ((norm (H) (-(b + 20 : Nat))).neg), .slice q10 (dig B32 (norm (H) (-(b + 20 : Nat))).m).length d10, .int .i64 ((norm (H) (-(b + 20 : Nat))).e)], .int .i64 0]) (by simp [results, Tryd.results15, go_sem, b2_0, b2_1, b2_2, b2_3, b2_4, b2_5]) rfl ?_
  replace ho10 := (ho10.put boV5 hOV5 (by kernel_rfl))
  replace hq10 := (hq10.put boV5 hOV5 (by kernel_rfl))
  exact ⟨L, H, hB, p10, c10, q10, d10, rfl, ho10, hq10, ((bthru (bthru (bthru hbV1 hbV2) hbV3) hbV4).trans (hOV5.below (by omega)))⟩

end Go.Proofs.YtehodhanojgkgaaDoor
