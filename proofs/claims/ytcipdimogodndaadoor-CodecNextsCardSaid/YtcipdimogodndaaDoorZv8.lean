/- The reference's EncodeOf.
   The law CodecNexts. -/
import Derived.Test.YtcipdimogodndaaDoorZv1
import Derived.Test.YtcipdimogodndaaDoorZv2
import Derived.Test.YtcipdimogodndaaDoorZv3
import Derived.Test.YtcipdimogodndaaDoorZv4
import Derived.Test.YtcipdimogodndaaDoorZv5
import Derived.Test.YtcipdimogodndaaDoorZv6
import Derived.Test.YtcipdimogodndaaDoorZv7
namespace Go.Slip

structure NumR (f : Fm) (d : Dv) (A B K : Int) (X : Nat) : Prop where
  hA : A = (d.e + ((blen d.m : Nat) : Int) - 1 + 80000).tdiv ((wid f.g : Nat) : Int)
  hB : B = (80000 : Int).tdiv ((wid f.g : Nat) : Int)
  a1 : -200000 ≤ A
  a2 : A ≤ 200000
  b1 : 0 ≤ B
  b2 : B ≤ 80000
  mx : max f.g.lo (A - B - f.g.digs + 1) = K
  k1 : f.g.lo ≤ K
  k2 : K ≤ f.g.hi
  m1 : -80000 ≤ wid f.g * K
  m2 : wid f.g * K ≤ 80000
  bl : blen d.m ≤ 40000
  e1 : -20000 ≤ d.e
  e2 : d.e ≤ 20000
  fl : dFloor ⟨false, d.m, d.e - wid f.g * K⟩ = X
  xl : (dig B16 X).length ≤ 40
  np : f.numP d = if f.fam = 2 then ⟨d.neg, (K - f.g.lo).toNat, X⟩ else if (blen X : Int) = f.g.digs then ⟨d.neg, (K - f.g.lo).toNat + 1, if f.ext then X else X - 2 ^ f.F⟩ else ⟨d.neg, (K - f.g.lo).toNat, X⟩

end Go.Slip
namespace Go.Proofs.YtcipdimogodndaaDoor
open Go.RowKit Go.Slip
theorem dig16_len_pow {x k n : Nat} (h : x < 2 ^ k) (hk : k ≤ 16 * n) : (dig B16 x).length ≤ n := by
  rw [dig_len_le B16_two]
  unfold B16
  rw [show (65536 : Nat) = 2 ^ 16 from rfl, ← Nat.pow_mul]
  exact Nat.lt_of_lt_of_le h (Nat.pow_le_pow_right (by omega) hk)
theorem numR_of {f : Fm} (G : GoodF f) {d : Dv} (hin : inGridD d f.g = true) (h0 : d.m ≠ 0) (hB : Bare d) (hl : (dig B32 d.m).length ≤ 1200) : ∃ A B K X, NumR f d A B K X := by
  have N := numF_of G hin h0
  have he := inGrid_e G.g hB hin
  have hg := goodG_of G.g
  have hbl := blen_len32 d.m
  have hpos := (blen_pos d.m).2 (by omega)
  have wp := wid_pos f.g
  have w2 : wid f.g = 1 ∨ wid f.g = 4 := by rw [G.w]; split <;> simp
  have hx : -80000 ≤ d.e + (blen d.m : Int) - 1 := by omega
  have h8 := far_div8 w2 hx
  have hmul := mul_bd (wd := wid f.g) (k := stepK d f.g) (B := 17000) wp.2 (by have := N.k1; have := N.k2; have := hg.l1; have := hg.h2; omega)
  have hd := ediv_bd (d.e + (blen d.m : Int) - 1) (wid f.g) (by omega)
  have hab := ediv_abs (x := d.e + (blen d.m : Int) - 1 + 80000) (B := 150000) (wd := wid f.g) wp.1 (by omega)
  have hab2 := ediv_abs (x := 80000) (B := 80000) (wd := wid f.g) wp.1 (by omega)
  have hab3 : (0 : Int) ≤ 80000 / (wid f.g : Int) := Int.ediv_nonneg (by omega) (by omega)
  refine ⟨_, _, stepK d f.g, f.fr d, ⟨rfl, rfl, by rw [h8.1]; omega, by rw [h8.1]; omega, by rw [h8.2.1]; omega, by rw [h8.2.1]; omega, ?_, N.k1, N.k2, by omega, by omega, by omega, by omega, by omega, ?_, ?_, rfl⟩⟩
  · rw [h8.1, h8.2.1, h8.2.2]
    have hd1 := hg.d1
    show _ = max f.g.lo (upK d (wid f.g) f.g.digs.toNat)
    unfold upK topD
    congr 1
    omega
  · unfold dFloor Fm.fr
    simp only
    rw [if_pos N.e0]
  · have h1 := N.lt
    have hd2 := hg.d2
    exact dig16_len_pow h1 (by have := Nat.mul_le_mul wp.2 (show f.g.digs.toNat ≤ 120 by omega); omega)
end Go.Proofs.YtcipdimogodndaaDoor
namespace Go.Slip
theorem str_of_bits {f : Fm} (G : GoodF f) {g : Bool} {e x : Nat} (he : e < 2 ^ f.E) (hx : x < 2 ^ f.F) {L : List Nat} (hl : L.length = f.size) (h : ∀ i, i < f.size → dg L (plc f.ord f.size i) = vb (((f.bits g e x).drop (8 * i)).take 8)) : L = f.str g e x := by
  refine str_of G hl fun i hi => ?_
  rw [h i hi, vb_byte_at (f.bits g e x) f.size i (by rw [bits_len, G.bits]) hi, vb_fbits he hx]
end Go.Slip
namespace Go.Proofs.YtcipdimogodndaaDoor
open Go.RowKit Go.Slip

theorem rfloor (p : Option Addr) (n c : Nat) (e : Int) (m x : Nat) (w : World) (hp : Rd w .i64 p (dig B16 m)) (hn : n = (dig B16 m).length) (hl : (dig B16 m).length ≤ 1000000) (he : -1000000 ≤ e ∧ e ≤ 1000000) (h : dFloor ⟨false, m, e⟩ = x) :
    Calls Tryd.prog 68 #[.agg #[.bool false, .slice p n c, .int .i64 e]] w (GRf w (dig B16 x)) := by
  subst h
  exact (refFloorOf_any false p n c e m w hp hn hl he).mono fun _ _ => GivesR.grf

theorem refBitsOfN_n (a many : Nat) (p : Option Addr) (n c b0 : Nat) (w : World) (hn : n = (dig B16 a).length) (hp : Rf w b0 p c (dig B16 a)) (hl : (dig B16 a).length ≤ 1000) (hm : many ≤ 1000) :
    Calls Tryd.prog 79 #[.slice p n c, .int .i64 (many : Int)] w (GBs w (bitsN a many)) := by
  subst hn
  exact refBitsOfN_any a many p c b0 w hp hl hm

set_option maxHeartbeats 4000000 in
set_option maxRecDepth 100000 in
theorem refEncodeOf_any (n : Int) (v : Vr) (p : Option Addr) (c b0 : Nat) (w : World) (hn : IsFm n) (hp : Rf w b0 p c (dig B16 v.x.m)) (hl : (dig B16 v.x.m).length ≤ 2400)
    (N : v.cls = 2 → inGridD v.x (fmt n).g = true ∧ v.x.m ≠ 0 ∧ Bare v.x ∧ v.x.neg = v.neg ∧ (dig B32 v.x.m).length ≤ 1200) :
    Calls Tryd.prog 31 #[.int .i64 n, .agg #[.int .i64 ((v.cls : Nat) : Int), .bool v.neg, .bool v.x.neg, .slice p (dig B16 v.x.m).length c, .int .i64 v.x.e]] w fun en w' => en = .returned (.string (strOf ((fmt n).strP ((fmt n).encP v.cls v.neg v.x)))) ∧ Below w.heap.size w w' := by
  have G := good_fm hn
  have hext := ext_is hn
  have HF := fun W => Lib.hid (refFormat_ok n hn W)
  have HPT := fun (bs : List Bool) m p c W h1 h2 h3 => Lib.hid (refPatternOf_any n bs m p c W hn h1 h2 h3)
  generalize fmt n = f at *
  have z1 := G.sz
  have z2 := G.e2
  have z3 := G.f2
  have z4 := G.bits
  have z5 := G.lo
  have z6 := G.f1
  have z7 := G.hi
  have hlt := encP_lt G (cls := v.cls) (g := v.neg) (d := v.x) (fun h => numF_of G (N h).1 (N h).2.1)
  have hN : v.cls = 2 → ∃ A B K X, NumR f v.x A B K X := fun h => numR_of G (N h).1 (N h).2.1 (N h).2.2.1 (N h).2.2.2.2
  have hsn : v.cls = 2 → v.x.neg = v.neg := fun h => (N h).2.2.2.1
  have hF := G.hi1
  have h15 : 2 ^ f.E ≤ 32768 := by rw [show (32768 : Nat) = 2 ^ 15 from rfl]; exact Nat.pow_le_pow_right (by omega) (by omega)
  have h0E : 0 < 2 ^ f.E := Nat.pow_pos (by omega)
  have hpi : ∀ i, i ≤ f.E → 2 ^ i ≤ 32768 := fun i hi => Nat.le_trans (Nat.pow_le_pow_right (by omega) hi) h15
  have hp2 : ∀ i, 2 * 2 ^ i = 2 ^ (i + 1) := fun i => by rw [Nat.pow_succ]; omega
  have hg := goodG_of G.g
  have hd1 := hg.d1
  have hd2 := hg.d2
  obtain ⟨dN, hdN⟩ : ∃ dN : Nat, f.g.digs - 1 = (dN : Int) := ⟨(f.g.digs - 1).toNat, by omega⟩
  have hdl : (dig B16 (2 ^ dN)).length ≤ 8 := dig16_le_pow (n := 121) (Nat.pow_lt_pow_right (by omega) (by omega)) (by omega)
  have h63 : (dig B16 (2 ^ 63)).length ≤ 4 := dig16_le_pow (n := 64) (by omega) (by omega)
  have h62 : (dig B16 (2 ^ 62)).length ≤ 4 := dig16_le_pow (n := 64) (by omega) (by omega)
  have hFl : (dig B16 (2 ^ (f.F - 1))).length ≤ 4 := dig16_le_pow (n := 64) (Nat.pow_lt_pow_right (by omega) (by omega)) (by omega)
  have hge : ∀ X : Nat, (blen X : Int) = f.g.digs → 2 ^ dN ≤ X := fun X h => by
    have h1 := blen_pow X ((blen_pos X).1 (by omega))
    rw [show blen X - 1 = dN by omega] at h1
    exact h1
  have e3 : v.cls = 3 → f.encP v.cls v.neg v.x = ⟨v.neg, 2 ^ f.E - 1, if f.ext then 2 ^ 63 else 0⟩ := fun h => by rw [h]; rfl
  have e4 : v.cls = 4 → f.encP v.cls v.neg v.x = ⟨v.neg, 2 ^ f.E - 1, if f.ext then 2 ^ 63 + 2 ^ 62 else 2 ^ (f.F - 1)⟩ := fun h => by rw [h]; rfl
  have e5 : v.cls = 5 → f.encP v.cls v.neg v.x = ⟨true, 0, 0⟩ := fun h => by rw [h]; rfl
  have e2 : v.cls = 2 → f.encP v.cls v.neg v.x = f.numP v.x := fun h => by rw [h]; rfl
  have e1 : v.cls ≠ 2 → v.cls ≠ 3 → v.cls ≠ 4 → v.cls ≠ 5 → f.encP v.cls v.neg v.x = ⟨v.neg, 0, 0⟩ := fun h2 h3 h4 h5 => by unfold Fm.encP; rw [if_neg h2, if_neg h3, if_neg h4, if_neg h5]
  have hwd : ((wid f.g : Nat) : Int) ≠ 0 := by have := wid_pos f.g; omega
  have hd1F := G.d1
  have hln : ∀ (x y : List Bool), (x.map Value.bool ++ y.map Value.bool) = (x ++ y).map Value.bool := fun x y => by rw [List.map_append]
  obtain ⟨en, hen⟩ : ∃ en, f.encP v.cls v.neg v.x = en := ⟨_, rfl⟩
  rw [hen] at hlt e1 e2 e3 e4 e5 ⊢
  have hel : ∀ (g : Bool) (e x : Nat), en = ⟨g, e, x⟩ → (dig B16 e).length ≤ 4 ∧ (dig B16 x).length ≤ 40 := fun g e x h => by subst h; exact ⟨dig16_len_pow hlt.1 (by omega), dig16_len_pow hlt.2 (by omega)⟩
  have hstr := fun (L : List Nat) h1 h2 => str_of_bits G (g := en.neg) hlt.1 hlt.2 (L := L) h1 h2
  have hbl := bits_len f
  unfold Fm.strP
  clear N hen
  have hT3 : SxOne Tryd.prog 3 := sxOne_of (by kernel_rfl) (by kernel_rfl)
  have hT4 : SxOne Tryd.prog 4 := sxOne_of (by kernel_rfl) (by kernel_rfl)
  have hT29 : SxAgg Tryd.prog 29 5 := sxAgg_of (by kernel_rfl) (by kernel_rfl)
  have hT32 : SxOne Tryd.prog 32 := sxOne_of (by kernel_rfl) (by kernel_rfl)
  have hT79 : SxAgg Tryd.prog 79 9 := sxAgg_of (by kernel_rfl) (by kernel_rfl)
  refine calls_of_wp Tryd.func31 rfl ?_
  refine sx_frame (a' := ⟨((.int .i64 n) :: (.agg #[.int .i64 ((v.cls : Nat) : Int), .bool v.neg, .bool v.x.neg, .slice p (dig B16 v.x.m).length c, .int .i64 v.x.e]) :: us 134 []).toArray, []⟩) (by kernel_rfl) ?_
  refine ye ?_
  refine yw 0 rfl 3 #[.int .i64 ((v.cls : Nat) : Int), .bool v.neg, .bool v.x.neg, .slice p (dig B16 v.x.m).length c, .int .i64 v.x.e] 61 (fun V1 hbV1 hzV1 b3 => ?_)
  refine yzt 1 ?_
  refine ye ?_
  have lhp := fun h => hp.lt h
  refine yc 1 rfl 17 ((HF V1).out) (fun Gx hGx => ?_)
  rintro eV2 V2 ⟨rfl, hbV2⟩
  have hzV2 := hbV2.size
  refine ⟨_, rfl, hGx _ _ ?_⟩
  clear hGx Gx
  refine yw 3 rfl 5 #[.int .i64 0, .int .i64 0, .int .i64 0, .int .i64 0, .int .i64 0, .int .i64 0, .int .i64 0, .bool false, .int .i64 0] 79 (fun V3 hbV3 hzV3 b5 => ?_)
  have boV4 := b5
  refine ysw 0 rfl b5 hT79 #[.int .i64 ((f.size : Nat) : Int), .int .i64 ((f.E : Nat) : Int), .int .i64 ((f.F : Nat) : Int), .int .i64 f.g.rad, .int .i64 f.g.digs, .int .i64 f.g.lo, .int .i64 f.g.hi, .bool f.g.grad, .int .i64 ((f.fam : Nat) : Int)] ?_
  clear b5
  intro V4 hOV4 b5
  have hzV4 := hOV4.size
  refine yzt 1 ?_
  refine yq ?_
  refine ye ?_
  have b3_w4 := b3.past ((bthru hbV2 hbV3).trans (hOV4.below (by omega)))
  refine yl 1 rfl 21 b3_w4 hT4 1 ?_
  refine yzt 1 ?_
  refine yq ?_
  refine wp_seq ?_
  refine yq ?_
  refine wp_block ?_
  refine sx_frame (a' := ⟨((.int .i64 n) :: (.agg #[.int .i64 ((v.cls : Nat) : Int), .bool v.neg, .bool v.x.neg, .slice p (dig B16 v.x.m).length c, .int .i64 v.x.e]) :: undef :: (.pointer (some ⟨w.heap.size, 0, none⟩)) :: (Go.Value.string (ByteArray.mk #[])) :: (.pointer (some ⟨V2.heap.size, 0, none⟩)) :: (.bool true) :: (.int .i64 0) :: (.slice none 0 0) :: (.bool v.neg) :: (.int .i64 1) :: (.int .i64 0) :: us 3 ((.tuple #[.agg #[.int .i64 ((f.size : Nat) : Int), .int .i64 ((f.E : Nat) : Int), .int .i64 ((f.F : Nat) : Int), .int .i64 f.g.rad, .int .i64 f.g.digs, .int .i64 f.g.lo, .int .i64 f.g.hi, .bool f.g.grad, .int .i64 ((f.fam : Nat) : Int)], .bool true]) :: (.int .i64 n) :: (.tuple #[.agg #[.int .i64 ((f.size : Nat) : Int), .int .i64 ((f.E : Nat) : Int), .int .i64 ((f.F : Nat) : Int), .int .i64 f.g.rad, .int .i64 f.g.digs, .int .i64 f.g.lo, .int .i64 f.g.hi, .bool f.g.grad, .int .i64 ((f.fam : Nat) : Int)], .bool true]) :: (.agg #[.int .i64 ((f.size : Nat) : Int), .int .i64 ((f.E : Nat) : Int), .int .i64 ((f.F : Nat) : Int), .int .i64 f.g.rad, .int .i64 f.g.digs, .int .i64 f.g.lo, .int .i64 f.g.hi, .bool f.g.grad, .int .i64 ((f.fam : Nat) : Int)]) :: (.bool true) :: (.pointer (some ⟨w.heap.size, 1, none⟩)) :: (.bool v.neg) :: us 114 [])).toArray, []⟩) (by kernel_rfl) ?_
  refine sx_loop2 (fun (gk : Nat) U0 a' w' => ∃ (i : Nat) (t : Nat), a' = ⟨((.int .i64 n) :: (.agg #[.int .i64 ((v.cls : Nat) : Int), .bool v.neg, .bool v.x.neg, .slice p (dig B16 v.x.m).length c, .int .i64 v.x.e]) :: undef :: (.pointer (some ⟨w.heap.size, 0, none⟩)) :: (Go.Value.string (ByteArray.mk #[])) :: (.pointer (some ⟨V2.heap.size, 0, none⟩)) :: (.bool true) :: (.int .i64 0) :: (.slice none 0 0) :: (.bool v.neg) :: (.int .i64 ((t : Nat) : Int)) :: (.int .i64 ((i : Nat) : Int)) :: us 3 ((.tuple #[.agg #[.int .i64 ((f.size : Nat) : Int), .int .i64 ((f.E : Nat) : Int), .int .i64 ((f.F : Nat) : Int), .int .i64 f.g.rad, .int .i64 f.g.digs, .int .i64 f.g.lo, .int .i64 f.g.hi, .bool f.g.grad, .int .i64 ((f.fam : Nat) : Int)], .bool true]) :: (.int .i64 n) :: (.tuple #[.agg #[.int .i64 ((f.size : Nat) : Int), .int .i64 ((f.E : Nat) : Int), .int .i64 ((f.F : Nat) : Int), .int .i64 f.g.rad, .int .i64 f.g.digs, .int .i64 f.g.lo, .int .i64 f.g.hi, .bool f.g.grad, .int .i64 ((f.fam : Nat) : Int)], .bool true]) :: (.agg #[.int .i64 ((f.size : Nat) : Int), .int .i64 ((f.E : Nat) : Int), .int .i64 ((f.F : Nat) : Int), .int .i64 f.g.rad, .int .i64 f.g.digs, .int .i64 f.g.lo, .int .i64 f.g.hi, .bool f.g.grad, .int .i64 ((f.fam : Nat) : Int)]) :: (.bool true) :: (.pointer (some ⟨w.heap.size, 1, none⟩)) :: (.bool v.neg) :: uvs U0 22 8 (us 106 []))).toArray, []⟩ ∧ Below V4.heap.size V4 w' ∧ (t = 2 ^ i) ∧ (gk + i = f.E)) f.E ?_ (fun Gx hGx => ?_)
  · skip
    exact ⟨0, 1, by kernel_rfl, Below.refl _ _, rfl, (by omega)⟩
  rintro gk0 U0 _ V5 ⟨i, t, rfl, hbV5, ht, hgk⟩
  refine hGx _ _ _ ?_
  clear hGx Gx
  have hzV5 := hbV5.size
  refine wp_seq ?_
  have ht15 : t ≤ 32768 := by rw [ht]; exact hpi i (by omega)
  refine ye ?_
  have b5_w5 := b5.past hbV5
  refine yl 2 rfl 24 b5_w5 hT3 1 ?_
  rcases Bool.eq_false_or_eq_true (decide (((i : Nat) : Int) < ((f.E : Nat) : Int))) with f25 | f25
  · skip
    refine yb 0 rfl 25 (decide (((i : Nat) : Int) < ((f.E : Nat) : Int))) (true) (f25) ?_
    refine yzt 0 ?_
    refine yT ?_
    refine wp_skip ?_
    refine sx_then ?_
    refine wp_seq ?_
    refine wp_block ?_
    refine sx_region ?_
    refine ya 1 rfl 29 .i64 ((2 : Int) * ((t : Nat) : Int)) (((2 * t : Nat) : Int)) ((by rw [show ((2 : Int) * ((t : Nat) : Int)) = ((2 * t : Nat) : Int) by omega]; exact IntWalk.i64_in _ (by omega))) ?_
    refine yz 1 ?_
    refine sx_inblock ?_
    refine sx_then ?_
    refine sx_region ?_
    refine ya 1 rfl 27 .i64 (((i : Nat) : Int) + 1) (((i + 1 : Nat) : Int)) ((by rw [show (((i : Nat) : Int) + 1) = ((i + 1 : Nat) : Int) by omega]; exact IntWalk.i64_in _ (by have := of_decide_eq_true f25; omega))) ?_
    refine yz 1 ?_
    refine sx_then ?_
    refine ⟨gk0 - 1, (by have := of_decide_eq_true f25; omega), ?_⟩
    exact ⟨i + 1, 2 * t, by kernel_rfl, hbV5, (by rw [ht, hp2]), (by have := of_decide_eq_true f25; omega)⟩
  refine yb 0 rfl 25 (decide (((i : Nat) : Int) < ((f.E : Nat) : Int))) (false) (f25) ?_
  refine yzt 0 ?_
  refine yF ?_
  refine wp_exit ?_
  repeat (with_reducible refine sx_thenexit ?_)
  refine sx_exit (id := 0) ?_
  refine sx_then ?_
  have hiE : i = f.E := by have := of_decide_eq_false f25; omega
  have htP : t = 2 ^ f.E := by rw [ht, hiE]
  refine ye ?_
  refine ya 1 rfl 31 .i64 (((t : Nat) : Int) - 1) (((t - 1 : Nat) : Int)) ((by rw [show (((t : Nat) : Int) - 1) = ((t - 1 : Nat) : Int) by omega]; exact IntWalk.i64_in _ (by omega))) ?_
  refine yzt 1 ?_
  refine wp_seq ?_
  refine ye ?_
  have b3_w5 := b3.past (bthru ((bthru hbV2 hbV3).trans (hOV4.below (by omega))) hbV5)
  refine yl 1 rfl 33 b3_w5 hT3 0 ?_
  refine yzt 0 ?_
  refine sx_cutu (R := fun T2 a' w' => ∃ (e : Nat) (x : Nat) (g : Bool) (p8 : Option Addr) (c8 : Nat) (n8 : Nat), a' = ⟨((.int .i64 n) :: (.agg #[.int .i64 ((v.cls : Nat) : Int), .bool v.neg, .bool v.x.neg, .slice p (dig B16 v.x.m).length c, .int .i64 v.x.e]) :: undef :: (.pointer (some ⟨w.heap.size, 0, none⟩)) :: (Go.Value.string (ByteArray.mk #[])) :: (.pointer (some ⟨V2.heap.size, 0, none⟩)) :: (.bool true) :: (.int .i64 ((e : Nat) : Int)) :: (.slice p8 n8 c8) :: (.bool g) :: (.int .i64 ((t - 1 : Nat) : Int)) :: (.int .i64 ((i : Nat) : Int)) :: uvs T2 12 2 (undef :: (.tuple #[.agg #[.int .i64 ((f.size : Nat) : Int), .int .i64 ((f.E : Nat) : Int), .int .i64 ((f.F : Nat) : Int), .int .i64 f.g.rad, .int .i64 f.g.digs, .int .i64 f.g.lo, .int .i64 f.g.hi, .bool f.g.grad, .int .i64 ((f.fam : Nat) : Int)], .bool true]) :: (.int .i64 n) :: (.tuple #[.agg #[.int .i64 ((f.size : Nat) : Int), .int .i64 ((f.E : Nat) : Int), .int .i64 ((f.F : Nat) : Int), .int .i64 f.g.rad, .int .i64 f.g.digs, .int .i64 f.g.lo, .int .i64 f.g.hi, .bool f.g.grad, .int .i64 ((f.fam : Nat) : Int)], .bool true]) :: (.agg #[.int .i64 ((f.size : Nat) : Int), .int .i64 ((f.E : Nat) : Int), .int .i64 ((f.F : Nat) : Int), .int .i64 f.g.rad, .int .i64 f.g.digs, .int .i64 f.g.lo, .int .i64 f.g.hi, .bool f.g.grad, .int .i64 ((f.fam : Nat) : Int)]) :: (.bool true) :: (.pointer (some ⟨w.heap.size, 1, none⟩)) :: (.bool v.neg) :: (.int .i64 ((i : Nat) : Int)) :: (.pointer (some ⟨V2.heap.size, 1, none⟩)) :: (.int .i64 ((f.E : Nat) : Int)) :: (.bool false) :: uvs U0 26 4 ((.int .i64 ((t : Nat) : Int)) :: (.int .i64 ((t - 1 : Nat) : Int)) :: (.pointer (some ⟨w.heap.size, 0, none⟩)) :: (.int .i64 ((v.cls : Nat) : Int)) :: uvs T2 34 86 (us 16 [])))).toArray, []⟩ ∧ (Rf w' V5.heap.size p8 c8 (dig B16 x)) ∧ Below V5.heap.size V5 w' ∧ (n8 = (dig B16 x).length) ∧ (en = ⟨g, e, x⟩)) ?_ (fun Gx hGx => ?_)
  · skip
    refine wp_block ?_
    refine ye ?_
    rcases Bool.eq_false_or_eq_true (((v.cls : Nat) : Int) == 2) with f35 | f35
    · skip
      refine yb 0 rfl 35 (((v.cls : Nat) : Int) == 2) (true) (f35) ?_
      refine yzt 1 ?_
      refine yT ?_
      have c2 : v.cls = 2 := by have := beq_iff_eq.1 f35; omega
      obtain ⟨A, B, K, X, R⟩ := hN c2
      obtain ⟨hA, hB, ra1, ra2, rb1, rb2, rmx, rk1, rk2, rm1, rm2, rbl, re1, re2, rfl0, rxl, rnp⟩ := R
      rw [← e2 c2] at rnp
      generalize hmw : ((wid f.g : Nat) : Int) * K = mw at *
      refine ye ?_
      refine yla 1 rfl 37 b5_w5 hT29 3 ?_
      refine yc 0 rfl 38 (refWidth_any f.g V5) (fun Gx hGx => ?_)
      rintro eV6 V6 ⟨rfl, hbV6⟩
      have hzV6 := hbV6.size
      refine ⟨_, rfl, hGx _ _ ?_⟩
      clear hGx Gx
      refine yzt 1 ?_
      refine wp_seq ?_
      have b5_w6 := b5.past (bthru hbV5 hbV6)
      have b3_w6 := b3.past (bthru (bthru ((bthru hbV2 hbV3).trans (hOV4.below (by omega))) hbV5) hbV6)
      obtain ⟨V7, hVV7, hbV7, hzV7⟩ := drew_of V6
      have b5_w7 := b5.past (bthru (bthru hbV5 hbV6) hbV7)
      have b3_w7 := b3.past (bthru (bthru (bthru ((bthru hbV2 hbV3).trans (hOV4.below (by omega))) hbV5) hbV6) hbV7)
      refine yd2 hVV7 ⟨b5_w7, b3_w7⟩ ?_
      clear hVV7
      refine yt 23 [0, 1] rfl ⟨b5_w7, b3_w7⟩ ?_
      refine ytl 2 rfl 41 (fun _ h => h.1) hT3 5 ⟨b5_w7, b3_w7⟩ ?_
      refine yt 20 [3, 4] rfl ⟨b5_w7, b3_w7⟩ ?_
      refine ytl 5 rfl 44 (fun _ h => h.2) hT3 4 ⟨b5_w7, b3_w7⟩ ?_
      refine yt 17 [6, 7] rfl ⟨b5_w7, b3_w7⟩ ?_
      refine ytl 8 rfl 47 (fun _ h => h.2) hT32 3 ⟨b5_w7, b3_w7⟩ ?_
      refine yt 14 [13, 15] rfl ⟨b5_w7, b3_w7⟩ ?_
      refine tk 16 55 (.int .i64 B) ⟨b5_w7, b3_w7⟩ ?_ (hy := fun w' _ => (exec_quo (X := (80000)) (Y := ((wid f.g : Nat) : Int)) B (by kernel_rfl) (by kernel_rfl) (hwd) ((by rw [← hB]; exact IntWalk.i64_in _ (by omega)))))
      refine yt 11 [18, 19] rfl ⟨b5_w7, b3_w7⟩ ?_
      refine ytl 20 rfl 59 (fun _ h => h.1) hT3 4 ⟨b5_w7, b3_w7⟩ ?_
      refine sxr [9] ?_
      refine rd1 (fun Kx hKx => ?_)
      replace hp := (hp.past (bthru (bthru (bthru ((bthru (bthru hbV1 hbV2) hbV3).trans (hOV4.below (by omega))) hbV5) hbV6) hbV7))
      refine yck 48 (stay (refLen_any p _ c v.x.m V7 hp.rd rfl (by omega))) ?_
      rintro eV8 V8 ⟨rfl, hbV8⟩
      have hzV8 := hbV8.size
      refine ⟨_, rfl, ?_⟩
      have b5_w8 := b5.past (bthru (bthru (bthru hbV5 hbV6) hbV7) hbV8)
      have b3_w8 := b3.past (bthru (bthru (bthru (bthru ((bthru hbV2 hbV3).trans (hOV4.below (by omega))) hbV5) hbV6) hbV7) hbV8)
      refine hKx.out _ _ ⟨b5_w8, b3_w8⟩ ?_
      clear hKx Kx
      refine tk 10 49 (.int .i64 (v.x.e + ((blen v.x.m : Nat) : Int))) ⟨b5_w8, b3_w8⟩ ?_ (hy := fun w' _ => ((show _ = Result.ok (Next.value (.int .i64 (IntKind.wrap .i64 (v.x.e + ((blen v.x.m : Nat) : Int))))) _ by kernel_rfl).trans (congrArg (fun z => Result.ok (Next.value (.int .i64 z)) _) (IntWalk.i64_in _ (by omega)))))
      refine tk 11 50 (.int .i64 ((v.x.e + ((blen v.x.m : Nat) : Int)) - 1)) ⟨b5_w8, b3_w8⟩ ?_ (hy := fun w' _ => ((show _ = Result.ok (Next.value (.int .i64 (IntKind.wrap .i64 ((v.x.e + ((blen v.x.m : Nat) : Int)) - 1)))) _ by kernel_rfl).trans (congrArg (fun z => Result.ok (Next.value (.int .i64 z)) _) (IntWalk.i64_in _ (by omega)))))
      refine tk 12 51 (.int .i64 (((v.x.e + ((blen v.x.m : Nat) : Int)) - 1) + 80000)) ⟨b5_w8, b3_w8⟩ ?_ (hy := fun w' _ => ((show _ = Result.ok (Next.value (.int .i64 (IntKind.wrap .i64 (((v.x.e + ((blen v.x.m : Nat) : Int)) - 1) + 80000)))) _ by kernel_rfl).trans (congrArg (fun z => Result.ok (Next.value (.int .i64 z)) _) (IntWalk.i64_in _ (by omega)))))
      refine tk 14 53 (.int .i64 A) ⟨b5_w8, b3_w8⟩ ?_ (hy := fun w' _ => (exec_quo (X := (((v.x.e + ((blen v.x.m : Nat) : Int)) - 1) + 80000)) (Y := ((wid f.g : Nat) : Int)) A (by kernel_rfl) (by kernel_rfl) (hwd) ((by rw [← hA]; exact IntWalk.i64_in _ (by omega)))))
      refine tk 17 56 (.int .i64 (A - B)) ⟨b5_w8, b3_w8⟩ ?_ (hy := fun w' _ => ((show _ = Result.ok (Next.value (.int .i64 (IntKind.wrap .i64 (A - B)))) _ by kernel_rfl).trans (congrArg (fun z => Result.ok (Next.value (.int .i64 z)) _) (IntWalk.i64_in _ (by omega)))))
      refine tk 21 60 (.int .i64 ((A - B) - f.g.digs)) ⟨b5_w8, b3_w8⟩ ?_ (hy := fun w' _ => ((show _ = Result.ok (Next.value (.int .i64 (IntKind.wrap .i64 ((A - B) - f.g.digs)))) _ by kernel_rfl).trans (congrArg (fun z => Result.ok (Next.value (.int .i64 z)) _) (IntWalk.i64_in _ (by omega)))))
      refine tk 22 61 (.int .i64 (((A - B) - f.g.digs) + 1)) ⟨b5_w8, b3_w8⟩ ?_ (hy := fun w' _ => ((show _ = Result.ok (Next.value (.int .i64 (IntKind.wrap .i64 (((A - B) - f.g.digs) + 1)))) _ by kernel_rfl).trans (congrArg (fun z => Result.ok (Next.value (.int .i64 z)) _) (IntWalk.i64_in _ (by omega)))))
      refine tk 23 62 (.int .i64 K) ⟨b5_w8, b3_w8⟩ ?_ (hy := fun w' _ => ((show _ = Result.ok (Next.value (.int .i64 (if (((((A - B) - f.g.digs) + 1)) : Int) > (f.g.lo) then (((A - B) - f.g.digs) + 1) else f.g.lo))) _ by kernel_rfl).trans (congrArg (fun z => Result.ok (Next.value (.int .i64 z)) _) (((max_is _ _).trans rmx)))))
      refine yt 0 [24] rfl ⟨b5_w8, b3_w8⟩ ?_
      refine sx_done (by kernel_rfl) ?_
      refine sx_then ?_
      refine ye ?_
      refine yl 2 rfl 65 b3_w8 hT32 3 ?_
      refine yl 2 rfl 68 b3_w8 hT3 4 ?_
      refine ya 2 rfl 71 .i64 (((wid f.g : Nat) : Int) * K) (mw) ((by rw [hmw]; exact IntWalk.i64_in _ (by omega))) ?_
      refine yi 0 rfl 72 (v.x.e - mw) ?_
      replace hp := (hp.past hbV8)
      refine yc 1 rfl 74 (rfloor p _ c (v.x.e - mw) v.x.m X V8 hp.rd rfl (by omega) (by omega) rfl0) (fun Gx hGx => ?_)
      rintro eV9 V9 ⟨p74, c74, rfl, o74, hbV9⟩
      have hzV9 := hbV9.size
      have lo74 := fun h => o74.lt h
      refine ⟨_, rfl, hGx _ _ ?_⟩
      clear hGx Gx
      refine yzt 1 ?_
      refine ye ?_
      have b5_w9 := b5.past (bthru (bthru (bthru (bthru hbV5 hbV6) hbV7) hbV8) hbV9)
      refine yl 3 rfl 78 b5_w9 hT3 5 ?_
      refine ya 0 rfl 79 .i64 (K - f.g.lo) ((((K - f.g.lo).toNat : Nat) : Int)) ((by rw [show (((K - f.g.lo).toNat : Nat) : Int) = K - f.g.lo by omega]; exact IntWalk.i64_in _ (by omega))) ?_
      refine yzt 1 ?_
      refine ye ?_
      refine yl 1 rfl 81 b5_w9 hT3 8 ?_
      rcases Bool.eq_false_or_eq_true (((f.fam : Nat) : Int) != 2) with f82 | f82
      · skip
        refine yb 0 rfl 82 (((f.fam : Nat) : Int) != 2) (true) (f82) ?_
        refine yzt 0 ?_
        refine yT ?_
        refine wp_seq ?_
        by_cases h88 : ((blen X : Nat) : Int) = f.g.digs
        · skip
          obtain ⟨V10, hVV10, hbV10, hzV10⟩ := drew_of V9
          have b5_w10 := b5.past (bthru (bthru (bthru (bthru (bthru hbV5 hbV6) hbV7) hbV8) hbV9) hbV10)
          refine yd1 hVV10 b5_w10 ?_
          clear hVV10
          refine yt 3 [0, 2, 3] rfl b5_w10 ?_
          refine ytl 4 rfl 87 (fun _ h => h) hT3 4 b5_w10 ?_
          refine sxr [1] ?_
          refine rd1 (fun Kx hKx => ?_)
          replace o74 := (o74.past hbV10)
          refine yck 84 (stay (refLen_any p74 _ c74 X V10 o74.rd rfl (by omega))) ?_
          rintro eV11 V11 ⟨rfl, hbV11⟩
          have hzV11 := hbV11.size
          refine ⟨_, rfl, ?_⟩
          have b5_w11 := b5.past (bthru (bthru (bthru (bthru (bthru (bthru hbV5 hbV6) hbV7) hbV8) hbV9) hbV10) hbV11)
          refine hKx.out _ _ b5_w11 ?_
          clear hKx Kx
          refine tk 5 88 (.bool true) b5_w11 ?_ (hy := fun w' _ => ((show _ = Result.ok (Next.value (.bool (((blen X : Nat) : Int) == f.g.digs))) _ from (by kernel_rfl)).trans (congrArg (fun z => Result.ok (Next.value (.bool z)) _) (show (((blen X : Nat) : Int) == f.g.digs) = true from beq_iff_eq.2 h88))))
          refine sx_done (by kernel_rfl) ?_
          refine sx_then ?_
          refine yT ?_
          refine ye ?_
          refine ya 1 rfl 90 .i64 ((((K - f.g.lo).toNat : Nat) : Int) + 1) ((((K - f.g.lo).toNat + 1 : Nat) : Int)) ((by rw [show ((((K - f.g.lo).toNat : Nat) : Int) + 1) = (((K - f.g.lo).toNat + 1 : Nat) : Int) by omega]; exact IntWalk.i64_in _ (by omega))) ?_
          refine yzt 1 ?_
          refine ye ?_
          rcases Bool.eq_false_or_eq_true (n != 3) with f92 | f92
          · skip
            refine yb 1 rfl 92 (n != 3) (true) (f92) ?_
            refine yzt 0 ?_
            refine yT ?_
            refine sx_region ?_
            refine yl 3 rfl 96 b5_w11 hT3 4 ?_
            refine ya 0 rfl 97 .i64 (f.g.digs - 1) (((dN : Nat) : Int)) ((by rw [hdN]; exact IntWalk.i64_in _ (by omega))) ?_
            refine yc 0 rfl 98 (rpow2 ((dN : Nat) : Int) dN rfl (by omega) V11) (fun Gx hGx => ?_)
            rintro eV12 V12 ⟨p98, c98, rfl, o98, hbV12⟩
            have hzV12 := hbV12.size
            have lo98 := fun h => o98.lt h
            refine ⟨_, rfl, hGx _ _ ?_⟩
            clear hGx Gx
            replace o74 := (o74.past (bthru hbV11 hbV12))
            refine yc 0 rfl 99 (rless p74 p98 _ _ c74 c98 X (2 ^ dN) (X - 2 ^ dN) V12 o74.rd o98.rd rfl rfl (by omega) (hge X h88) rfl) (fun Gx hGx => ?_)
            rintro eV13 V13 ⟨p99, c99, rfl, o99, hbV13⟩
            have hzV13 := hbV13.size
            have lo99 := fun h => o99.lt h
            refine ⟨_, rfl, hGx _ _ ?_⟩
            clear hGx Gx
            refine yz 1 ?_
            refine sx_inblock ?_
            exact ⟨rfl, (K - f.g.lo).toNat + 1, X - 2 ^ dN, v.neg, p99, c99, (dig B16 (X - 2 ^ dN)).length, by kernel_rfl, o99.mono (by omega), (bthru (bthru (bthru (bthru (bthru (bthru (bthru hbV6 hbV7) hbV8) hbV9) hbV10) hbV11) hbV12) hbV13), rfl, (by have c3 : n ≠ 3 := bne_iff_ne.1 f92; have cx : f.ext = false := (by rw [hext]; exact decide_eq_false c3); have cf : f.fam ≠ 2 := (by have := bne_iff_ne.1 f82; omega); have cF := hd1F cf cx; rw [rnp, if_neg cf, if_pos h88, hsn c2, if_neg (by rw [cx]; simp), show dN = f.F by omega])⟩
          refine yb 1 rfl 92 (n != 3) (false) (f92) ?_
          refine yzt 0 ?_
          refine yF ?_
          refine wp_skip ?_
          refine sx_inblock ?_
          replace o74 := (o74.past hbV11)
          exact ⟨rfl, (K - f.g.lo).toNat + 1, X, v.neg, p74, c74, (dig B16 X).length, by kernel_rfl, o74.mono (by omega), (bthru (bthru (bthru (bthru (bthru hbV6 hbV7) hbV8) hbV9) hbV10) hbV11), rfl, (by have c3 : n = 3 := (by simpa using f92); have cx : f.ext = true := (by rw [hext]; exact decide_eq_true c3); have cf : f.fam ≠ 2 := (by have := bne_iff_ne.1 f82; omega); rw [rnp, if_neg cf, if_pos h88, hsn c2, if_pos cx])⟩
        obtain ⟨V10, hVV10, hbV10, hzV10⟩ := drew_of V9
        have b5_w10 := b5.past (bthru (bthru (bthru (bthru (bthru hbV5 hbV6) hbV7) hbV8) hbV9) hbV10)
        refine yd1 hVV10 b5_w10 ?_
        clear hVV10
        refine yt 3 [0, 2, 3] rfl b5_w10 ?_
        refine ytl 4 rfl 87 (fun _ h => h) hT3 4 b5_w10 ?_
        refine sxr [1] ?_
        refine rd1 (fun Kx hKx => ?_)
        replace o74 := (o74.past hbV10)
        refine yck 84 (stay (refLen_any p74 _ c74 X V10 o74.rd rfl (by omega))) ?_
        rintro eV11 V11 ⟨rfl, hbV11⟩
        have hzV11 := hbV11.size
        refine ⟨_, rfl, ?_⟩
        have b5_w11 := b5.past (bthru (bthru (bthru (bthru (bthru (bthru hbV5 hbV6) hbV7) hbV8) hbV9) hbV10) hbV11)
        refine hKx.out _ _ b5_w11 ?_
        clear hKx Kx
        refine tk 5 88 (.bool false) b5_w11 ?_ (hy := fun w' _ => ((show _ = Result.ok (Next.value (.bool (((blen X : Nat) : Int) == f.g.digs))) _ from (by kernel_rfl)).trans (congrArg (fun z => Result.ok (Next.value (.bool z)) _) (show (((blen X : Nat) : Int) == f.g.digs) = false from beq_eq_false_iff_ne.2 h88))))
        refine sx_done (by kernel_rfl) ?_
        refine sx_then ?_
        refine yF ?_
        refine wp_skip ?_
        refine sx_inblock ?_
        replace o74 := (o74.past hbV11)
        exact ⟨rfl, (K - f.g.lo).toNat, X, v.neg, p74, c74, (dig B16 X).length, by kernel_rfl, o74.mono (by omega), (bthru (bthru (bthru (bthru (bthru hbV6 hbV7) hbV8) hbV9) hbV10) hbV11), rfl, (by have cf : f.fam ≠ 2 := (by have := bne_iff_ne.1 f82; omega); rw [rnp, if_neg cf, if_neg h88, hsn c2])⟩
      refine yb 0 rfl 82 (((f.fam : Nat) : Int) != 2) (false) (f82) ?_
      refine yzt 0 ?_
      refine yF ?_
      refine wp_skip ?_
      refine sx_inblock ?_
      exact ⟨rfl, (K - f.g.lo).toNat, X, v.neg, p74, c74, (dig B16 X).length, by kernel_rfl, o74.mono (by omega), (bthru (bthru (bthru hbV6 hbV7) hbV8) hbV9), rfl, (by have cf : f.fam = 2 := (by have h82 : ((f.fam : Nat) : Int) = 2 := (by simpa using f82); omega); rw [rnp, if_pos cf, hsn c2])⟩
    refine yb 0 rfl 35 (((v.cls : Nat) : Int) == 2) (false) (f35) ?_
    refine yzt 1 ?_
    refine yF ?_
    refine ye ?_
    rcases Bool.eq_false_or_eq_true (((v.cls : Nat) : Int) == 3) with f101 | f101
    · skip
      refine yb 0 rfl 101 (((v.cls : Nat) : Int) == 3) (true) (f101) ?_
      refine yzt 1 ?_
      refine yT ?_
      refine yq ?_
      refine ye ?_
      rcases Bool.eq_false_or_eq_true (n == 3) with f104 | f104
      · skip
        refine yb 1 rfl 104 (n == 3) (true) (f104) ?_
        refine yzt 0 ?_
        refine yT ?_
        refine sx_region ?_
        refine yc 0 rfl 105 (rpow2 63 63 rfl (by omega) V5) (fun Gx hGx => ?_)
        rintro eV6 V6 ⟨p105, c105, rfl, o105, hbV6⟩
        have hzV6 := hbV6.size
        have lo105 := fun h => o105.lt h
        refine ⟨_, rfl, hGx _ _ ?_⟩
        clear hGx Gx
        refine yz 1 ?_
        refine sx_inblock ?_
        exact ⟨rfl, t - 1, 2 ^ 63, v.neg, p105, c105, (dig B16 (2 ^ 63)).length, by kernel_rfl, o105.mono (by omega), hbV6, rfl, (by have c3 : n = 3 := beq_iff_eq.1 f104; have cx : f.ext = true := (by rw [hext]; exact decide_eq_true c3); rw [e3 (by have := beq_iff_eq.1 f101; omega), if_pos cx, htP])⟩
      refine yb 1 rfl 104 (n == 3) (false) (f104) ?_
      refine yzt 0 ?_
      refine yF ?_
      refine wp_skip ?_
      refine sx_inblock ?_
      exact ⟨rfl, t - 1, 0, v.neg, none, 0, 0, by kernel_rfl, (by rw [dig_zero]; exact rf_nil _ _ _), (Below.refl _ _), (by rw [dig_zero]; rfl), (by have c3 : n ≠ 3 := beq_eq_false_iff_ne.1 f104; have cx : f.ext = false := (by rw [hext]; exact decide_eq_false c3); rw [e3 (by have := beq_iff_eq.1 f101; omega), if_neg (by rw [cx]; simp), htP])⟩
    refine yb 0 rfl 101 (((v.cls : Nat) : Int) == 3) (false) (f101) ?_
    refine yzt 1 ?_
    refine yF ?_
    refine ye ?_
    rcases Bool.eq_false_or_eq_true (((v.cls : Nat) : Int) == 4) with f107 | f107
    · skip
      refine yb 0 rfl 107 (((v.cls : Nat) : Int) == 4) (true) (f107) ?_
      refine yzt 1 ?_
      refine yT ?_
      refine ye ?_
      refine yl 2 rfl 110 b5_w5 hT3 2 ?_
      refine ya 0 rfl 111 .i64 (((f.F : Nat) : Int) - 1) (((f.F - 1 : Nat) : Int)) ((by rw [show (((f.F : Nat) : Int) - 1) = ((f.F - 1 : Nat) : Int) by omega]; exact IntWalk.i64_in _ (by omega))) ?_
      refine yc 0 rfl 112 (rpow2 ((f.F - 1 : Nat) : Int) (f.F - 1) rfl (by omega) V5) (fun Gx hGx => ?_)
      rintro eV6 V6 ⟨p112, c112, rfl, o112, hbV6⟩
      have hzV6 := hbV6.size
      have lo112 := fun h => o112.lt h
      refine ⟨_, rfl, hGx _ _ ?_⟩
      clear hGx Gx
      refine yzt 2 ?_
      refine ye ?_
      rcases Bool.eq_false_or_eq_true (n == 3) with f114 | f114
      · skip
        refine yb 1 rfl 114 (n == 3) (true) (f114) ?_
        refine yzt 0 ?_
        refine yT ?_
        refine sx_region ?_
        refine yc 0 rfl 115 (rpow2 63 63 rfl (by omega) V6) (fun Gx hGx => ?_)
        rintro eV7 V7 ⟨p115, c115, rfl, o115, hbV7⟩
        have hzV7 := hbV7.size
        have lo115 := fun h => o115.lt h
        refine ⟨_, rfl, hGx _ _ ?_⟩
        clear hGx Gx
        refine yc 0 rfl 116 (rpow2 62 62 rfl (by omega) V7) (fun Gx hGx => ?_)
        rintro eV8 V8 ⟨p116, c116, rfl, o116, hbV8⟩
        have hzV8 := hbV8.size
        have lo116 := fun h => o116.lt h
        refine ⟨_, rfl, hGx _ _ ?_⟩
        clear hGx Gx
        replace o115 := (o115.past hbV8)
        refine yc 0 rfl 117 (rplus p115 p116 _ _ c115 c116 (2 ^ 63) (2 ^ 62) (2 ^ 63 + 2 ^ 62) V8 o115.rd o116.rd rfl rfl (by omega) (by omega) rfl) (fun Gx hGx => ?_)
        rintro eV9 V9 ⟨p117, c117, rfl, o117, hbV9⟩
        have hzV9 := hbV9.size
        have lo117 := fun h => o117.lt h
        refine ⟨_, rfl, hGx _ _ ?_⟩
        clear hGx Gx
        refine yz 1 ?_
        refine sx_inblock ?_
        exact ⟨rfl, t - 1, 2 ^ 63 + 2 ^ 62, v.neg, p117, c117, (dig B16 (2 ^ 63 + 2 ^ 62)).length, by kernel_rfl, o117.mono (by omega), (bthru (bthru (bthru hbV6 hbV7) hbV8) hbV9), rfl, (by have c3 : n = 3 := beq_iff_eq.1 f114; have cx : f.ext = true := (by rw [hext]; exact decide_eq_true c3); rw [e4 (by have := beq_iff_eq.1 f107; omega), if_pos cx, htP])⟩
      refine yb 1 rfl 114 (n == 3) (false) (f114) ?_
      refine yzt 0 ?_
      refine yF ?_
      refine wp_skip ?_
      refine sx_inblock ?_
      exact ⟨rfl, t - 1, 2 ^ (f.F - 1), v.neg, p112, c112, (dig B16 (2 ^ (f.F - 1))).length, by kernel_rfl, o112.mono (by omega), hbV6, rfl, (by have c3 : n ≠ 3 := beq_eq_false_iff_ne.1 f114; have cx : f.ext = false := (by rw [hext]; exact decide_eq_false c3); rw [e4 (by have := beq_iff_eq.1 f107; omega), if_neg (by rw [cx]; simp), htP])⟩
    refine yb 0 rfl 107 (((v.cls : Nat) : Int) == 4) (false) (f107) ?_
    refine yzt 1 ?_
    refine yF ?_
    refine ye ?_
    rcases Bool.eq_false_or_eq_true (((v.cls : Nat) : Int) == 5) with f119 | f119
    · skip
      refine yb 0 rfl 119 (((v.cls : Nat) : Int) == 5) (true) (f119) ?_
      refine yzt 1 ?_
      refine yT ?_
      refine yr ?_
      refine sx_inblock ?_
      exact ⟨rfl, 0, 0, true, none, 0, 0, by kernel_rfl, (by rw [dig_zero]; exact rf_nil _ _ _), (Below.refl _ _), (by rw [dig_zero]; rfl), (by rw [e5 (by have := beq_iff_eq.1 f119; omega)])⟩
    refine yb 0 rfl 119 (((v.cls : Nat) : Int) == 5) (false) (f119) ?_
    refine yzt 1 ?_
    refine yF ?_
    refine wp_skip ?_
    refine sx_inblock ?_
    exact ⟨rfl, 0, 0, v.neg, none, 0, 0, by kernel_rfl, (by rw [dig_zero]; exact rf_nil _ _ _), (Below.refl _ _), (by rw [dig_zero]; rfl), (by rw [e1 (by have := beq_eq_false_iff_ne.1 f35; omega) (by have := beq_eq_false_iff_ne.1 f101; omega) (by have := beq_eq_false_iff_ne.1 f107; omega) (by have := beq_eq_false_iff_ne.1 f119; omega)])⟩
  rintro T2 _ V6 ⟨e, x, g, p8, c8, n8, rfl, o8, hbV6, hn8, hP⟩
  refine hGx _ _ ?_
  clear hGx Gx
  have hzV6 := hbV6.size
  have lo8 := fun h => o8.lt h
  refine sx_then ?_
  refine wp_seq ?_
  refine sx_cutu (R := fun T7 a' w' => ∃ (p123 : Option Addr) (c123 : Nat) (p126 : Option Addr) (c126 : Nat) (p127 : Option Addr) (c127 : Nat), a' = ⟨((.int .i64 n) :: (.agg #[.int .i64 ((v.cls : Nat) : Int), .bool v.neg, .bool v.x.neg, .slice p (dig B16 v.x.m).length c, .int .i64 v.x.e]) :: undef :: (.pointer (some ⟨w.heap.size, 0, none⟩)) :: (Go.Value.string (ByteArray.mk #[])) :: (.pointer (some ⟨V2.heap.size, 0, none⟩)) :: (.bool true) :: (.int .i64 ((e : Nat) : Int)) :: (.slice p8 n8 c8) :: (.bool g) :: (.int .i64 ((t - 1 : Nat) : Int)) :: (.int .i64 ((i : Nat) : Int)) :: uvs T2 12 2 ((.slice p127 (1 + f.E) c127) :: (.tuple #[.agg #[.int .i64 ((f.size : Nat) : Int), .int .i64 ((f.E : Nat) : Int), .int .i64 ((f.F : Nat) : Int), .int .i64 f.g.rad, .int .i64 f.g.digs, .int .i64 f.g.lo, .int .i64 f.g.hi, .bool f.g.grad, .int .i64 ((f.fam : Nat) : Int)], .bool true]) :: (.int .i64 n) :: (.tuple #[.agg #[.int .i64 ((f.size : Nat) : Int), .int .i64 ((f.E : Nat) : Int), .int .i64 ((f.F : Nat) : Int), .int .i64 f.g.rad, .int .i64 f.g.digs, .int .i64 f.g.lo, .int .i64 f.g.hi, .bool f.g.grad, .int .i64 ((f.fam : Nat) : Int)], .bool true]) :: (.agg #[.int .i64 ((f.size : Nat) : Int), .int .i64 ((f.E : Nat) : Int), .int .i64 ((f.F : Nat) : Int), .int .i64 f.g.rad, .int .i64 f.g.digs, .int .i64 f.g.lo, .int .i64 f.g.hi, .bool f.g.grad, .int .i64 ((f.fam : Nat) : Int)]) :: (.bool true) :: (.pointer (some ⟨w.heap.size, 1, none⟩)) :: (.bool v.neg) :: (.int .i64 ((i : Nat) : Int)) :: (.pointer (some ⟨V2.heap.size, 1, none⟩)) :: (.int .i64 ((f.E : Nat) : Int)) :: (.bool false) :: uvs U0 26 4 ((.int .i64 ((t : Nat) : Int)) :: (.int .i64 ((t - 1 : Nat) : Int)) :: (.pointer (some ⟨w.heap.size, 0, none⟩)) :: (.int .i64 ((v.cls : Nat) : Int)) :: uvs T2 34 86 ((.bool g) :: (T7 121) :: (.int .i64 ((e : Nat) : Int)) :: (.slice p123 (dig B16 e).length c123) :: (.pointer (some ⟨V2.heap.size, 1, none⟩)) :: (.int .i64 ((f.E : Nat) : Int)) :: (.slice p126 (bitsN e f.E).length c126) :: (.slice p127 (1 + f.E) c127) :: us 8 [])))).toArray, []⟩ ∧ OwnV w' V6.heap.size 4 p127 c127 ([Value.bool g] ++ (bitsN e f.E).map Value.bool) ∧ Below V6.heap.size V6 w') ?_ (fun Gx hGx => ?_)
  · skip
    have b5_w6 := b5.past (bthru hbV5 hbV6)
    obtain ⟨V7, hVV7, hbV7, hzV7⟩ := drew_of V6
    have b5_w7 := b5.past (bthru (bthru hbV5 hbV6) hbV7)
    refine yd1 hVV7 b5_w7 ?_
    clear hVV7
    refine yt 6 [0, 2, 4] rfl b5_w7 ?_
    refine ytl 5 rfl 125 (fun _ h => h) hT3 1 b5_w7 ?_
    refine sxr [1, 3] ?_
    refine rd2 (fun Kx hKx => ?_) ?_
    · skip
      refine snvk 121 (.slice (some ⟨V7.heap.size, 0, none⟩) 1 1) #[.bool g] 4 (fun V8 hbV8 hzV8 b121 => ?_)
      have b5_w8 := b5.past (bthru (bthru (bthru hbV5 hbV6) hbV7) hbV8)
      refine hKx.out _ _ b5_w8 ?_
      clear hKx Kx
      refine sxr [3] ?_
      refine rd1 (fun Kx hKx => ?_)
      refine yck 123 (rfrom ((e : Nat) : Int) e rfl (by rw [hP] at hlt; have := hlt.1; simp only at this; omega) V8) ?_
      rintro eV9 V9 ⟨p123, c123, rfl, o123, hbV9⟩
      have hzV9 := hbV9.size
      have lo123 := fun h => o123.lt h
      refine ⟨_, rfl, ?_⟩
      have b5_w9 := b5.past (bthru (bthru (bthru (bthru hbV5 hbV6) hbV7) hbV8) hbV9)
      refine hKx.out _ _ b5_w9 ?_
      clear hKx Kx
      refine sxr [6] ?_
      refine rd1 (fun Kx hKx => ?_)
      refine yck 126 (refBitsOfN_any e f.E p123 c123 _ V9 o123 (by have := (hel _ _ _ hP).1; omega) (by omega)) ?_
      rintro eV10 V10 ⟨p126, c126, rfl, o126, hbV10⟩
      have hzV10 := hbV10.size
      refine ⟨_, rfl, ?_⟩
      have b5_w10 := b5.past (bthru (bthru (bthru (bthru (bthru hbV5 hbV6) hbV7) hbV8) hbV9) hbV10)
      refine hKx.out _ _ b5_w10 ?_
      clear hKx Kx
      refine sxr [7] ?_
      refine rd1 (fun Kx hKx => ?_)
      replace b121 := (b121.past (bthru hbV9 hbV10))
      refine sapvk 127 tvBools V6.heap.size (some ⟨V7.heap.size, 0, none⟩) 1 1 [Value.bool g] (ownv_of_bt b121 (by omega) (by show 1 ≤ maxLen; decide)) rfl p126 _ c126 _ (OwnV.rd o126) (by rw [List.length_map]) (all_bool _) (by simp [bitsN_len] <;> omega) (by omega) (1 + f.E) (by simp [bitsN_len] <;> omega) (fun p127 c127 V11 o127 hjV11 => ?_)
      have hbV11 : Below V6.heap.size V6 V11 := (bthru (bthru (bthru hbV7 hbV8) hbV9) hbV10).trans (hjV11.mono (by omega))
      have hzV11 := hbV11.size
      have b5_w11 := b5.past (bthru (bthru hbV5 hbV6) hbV11)
      refine hKx.out _ _ b5_w11 ?_
      clear hKx Kx
      refine yt 0 [8] rfl b5_w11 ?_
      refine sx_done (by kernel_rfl) ?_
      exact ⟨rfl, p123, c123, p126, c126, p127, c127, by kernel_rfl, (o127.mono (by omega)), hbV11⟩
    refine rd1 (fun Kx hKx => ?_)
    refine yck 123 (rfrom ((e : Nat) : Int) e rfl (by rw [hP] at hlt; have := hlt.1; simp only at this; omega) V7) ?_
    rintro eV8 V8 ⟨p123, c123, rfl, o123, hbV8⟩
    have hzV8 := hbV8.size
    have lo123 := fun h => o123.lt h
    refine ⟨_, rfl, ?_⟩
    have b5_w8 := b5.past (bthru (bthru (bthru hbV5 hbV6) hbV7) hbV8)
    refine hKx.out _ _ b5_w8 ?_
    clear hKx Kx
    refine sxr [1, 6] ?_
    refine rd2 (fun Kx hKx => ?_) ?_
    · skip
      refine snvk 121 (.slice (some ⟨V8.heap.size, 0, none⟩) 1 1) #[.bool g] 4 (fun V9 hbV9 hzV9 b121 => ?_)
      have b5_w9 := b5.past (bthru (bthru (bthru (bthru hbV5 hbV6) hbV7) hbV8) hbV9)
      refine hKx.out _ _ b5_w9 ?_
      clear hKx Kx
      refine sxr [6] ?_
      refine rd1 (fun Kx hKx => ?_)
      replace o123 := (o123.past hbV9)
      refine yck 126 (refBitsOfN_any e f.E p123 c123 _ V9 o123 (by have := (hel _ _ _ hP).1; omega) (by omega)) ?_
      rintro eV10 V10 ⟨p126, c126, rfl, o126, hbV10⟩
      have hzV10 := hbV10.size
      refine ⟨_, rfl, ?_⟩
      have b5_w10 := b5.past (bthru (bthru (bthru (bthru (bthru hbV5 hbV6) hbV7) hbV8) hbV9) hbV10)
      refine hKx.out _ _ b5_w10 ?_
      clear hKx Kx
      refine sxr [7] ?_
      refine rd1 (fun Kx hKx => ?_)
      replace b121 := (b121.past hbV10)
      refine sapvk 127 tvBools V6.heap.size (some ⟨V8.heap.size, 0, none⟩) 1 1 [Value.bool g] (ownv_of_bt b121 (by omega) (by show 1 ≤ maxLen; decide)) rfl p126 _ c126 _ (OwnV.rd o126) (by rw [List.length_map]) (all_bool _) (by simp [bitsN_len] <;> omega) (by omega) (1 + f.E) (by simp [bitsN_len] <;> omega) (fun p127 c127 V11 o127 hjV11 => ?_)
      have hbV11 : Below V6.heap.size V6 V11 := (bthru (bthru (bthru hbV7 hbV8) hbV9) hbV10).trans (hjV11.mono (by omega))
      have hzV11 := hbV11.size
      have b5_w11 := b5.past (bthru (bthru hbV5 hbV6) hbV11)
      refine hKx.out _ _ b5_w11 ?_
      clear hKx Kx
      refine yt 0 [8] rfl b5_w11 ?_
      refine sx_done (by kernel_rfl) ?_
      exact ⟨rfl, p123, c123, p126, c126, p127, c127, by kernel_rfl, (o127.mono (by omega)), hbV11⟩
    refine rd1 (fun Kx hKx => ?_)
    refine yck 126 (refBitsOfN_any e f.E p123 c123 _ V8 o123 (by have := (hel _ _ _ hP).1; omega) (by omega)) ?_
    rintro eV9 V9 ⟨p126, c126, rfl, o126, hbV9⟩
    have hzV9 := hbV9.size
    refine ⟨_, rfl, ?_⟩
    have b5_w9 := b5.past (bthru (bthru (bthru (bthru hbV5 hbV6) hbV7) hbV8) hbV9)
    refine hKx.out _ _ b5_w9 ?_
    clear hKx Kx
    refine sxr [1] ?_
    refine rd1 (fun Kx hKx => ?_)
    refine snvk 121 (.slice (some ⟨V9.heap.size, 0, none⟩) 1 1) #[.bool g] 4 (fun V10 hbV10 hzV10 b121 => ?_)
    have b5_w10 := b5.past (bthru (bthru (bthru (bthru (bthru hbV5 hbV6) hbV7) hbV8) hbV9) hbV10)
    refine hKx.out _ _ b5_w10 ?_
    clear hKx Kx
    refine sxr [7] ?_
    refine rd1 (fun Kx hKx => ?_)
    replace o126 := (o126.past hbV10)
    refine sapvk 127 tvBools V6.heap.size (some ⟨V9.heap.size, 0, none⟩) 1 1 [Value.bool g] (ownv_of_bt b121 (by omega) (by show 1 ≤ maxLen; decide)) rfl p126 _ c126 _ (OwnV.rd o126) (by rw [List.length_map]) (all_bool _) (by simp [bitsN_len] <;> omega) (by omega) (1 + f.E) (by simp [bitsN_len] <;> omega) (fun p127 c127 V11 o127 hjV11 => ?_)
    have hbV11 : Below V6.heap.size V6 V11 := (bthru (bthru (bthru hbV7 hbV8) hbV9) hbV10).trans (hjV11.mono (by omega))
    have hzV11 := hbV11.size
    have b5_w11 := b5.past (bthru (bthru hbV5 hbV6) hbV11)
    refine hKx.out _ _ b5_w11 ?_
    clear hKx Kx
    refine yt 0 [8] rfl b5_w11 ?_
    refine sx_done (by kernel_rfl) ?_
    exact ⟨rfl, p123, c123, p126, c126, p127, c127, by kernel_rfl, (o127.mono (by omega)), hbV11⟩
  rintro T7 _ V7 ⟨p123, c123, p126, c126, p127, c127, rfl, o127, hbV7⟩
  refine hGx _ _ ?_
  clear hGx Gx
  have hzV7 := hbV7.size
  refine sx_then ?_
  refine ye ?_
  have b5_w7 := b5.past (bthru (bthru hbV5 hbV6) hbV7)
  refine yl 4 rfl 132 b5_w7 hT3 2 ?_
  replace o8 := (o8.past hbV7)
  refine yc 0 rfl 133 (refBitsOfN_n x f.F p8 n8 c8 _ V7 hn8 o8 (by have := (hel _ _ _ hP).2; omega) (by omega)) (fun Gx hGx => ?_)
  rintro eV8 V8 ⟨p133, c133, rfl, o133, hbV8⟩
  have hzV8 := hbV8.size
  refine ⟨_, rfl, hGx _ _ ?_⟩
  clear hGx Gx
  replace o127 := (o127.past hbV8)
  refine sapv 134 tvBools V6.heap.size p127 (1 + f.E) c127 _ o127 (by simp [bitsN_len] <;> omega) p133 _ c133 _ (OwnV.rd o133) (by rw [List.length_map]) (all_bool _) (by simp [bitsN_len] <;> omega) (by omega) (1 + f.E + f.F) (by simp [bitsN_len] <;> omega) (fun p134 c134 V9 o134 hjV9 => ?_)
  have hbV9 : Below V6.heap.size V6 V9 := (bthru hbV7 hbV8).trans (hjV9.mono (by omega))
  have hzV9 := hbV9.size
  refine yc 0 rfl 135 ((HPT (f.bits g e x) (1 + f.E + f.F) p134 c134 V9 (by have h := OwnV.rd o134; simpa [Fm.bits] using h) (by rw [hbl]) (by rw [hbl]; omega)).out) (fun Gx hGx => ?_)
  rintro eV10 V10 ⟨L, rfl, hL, hD, hbV10⟩
  have hzV10 := hbV10.size
  refine ⟨_, rfl, hGx _ _ ?_⟩
  clear hGx Gx
  refine yzt 1 ?_
  refine wp_ret ?_
  repeat (first | with_reducible refine sx_thenret ?_ | with_reducible refine sx_blockret ?_)
  refine yret (.string (strOf L)) (res1 Tryd.results31 rvt) ?_
  rw [hP] at hstr ⊢
  exact ⟨by rw [hstr L hL hD], (bthru (bthru (bthru (bthru ((bthru (bthru hbV1 hbV2) hbV3).trans (hOV4.below (by omega))) hbV5) hbV6) hbV9) hbV10)⟩
end Go.Proofs.YtcipdimogodndaaDoor

namespace Go.Proofs.YtcipdimogodndaaDoor
open Go.RowKit Go.Slip

theorem refEncode_zero (n : Int) (w : World) (hn : IsFm n) : Calls Tryd.prog 31 #[.int .i64 n, .agg #[.int .i64 1, .bool false, .bool false, .slice none 0 0, .int .i64 0]] w fun en w' => en = .returned (.string (strOf ((fmt n).str false 0 0))) ∧ Below w.heap.size w w' := by
  have h := refEncodeOf_any n (⟨1, false, ⟨false, 0, 0⟩⟩ : Vr) none 0 0 w hn (by show Rf _ _ _ _ (dig B16 0); rw [dig_zero]; exact rf_nil _ _ _) (by show (dig B16 0).length ≤ _; rw [dig_zero]; decide) (fun h => absurd h (by decide))
  simp only at h
  rw [dig_zero] at h
  exact h
theorem refEncode_num (n : Int) (x : Dv) (p : Option Addr) (c b0 : Nat) (w : World) (hn : IsFm n) (hp : Rf w b0 p c (dig B16 x.m)) (hin : inGridD x (fmt n).g = true) (hB : Bare x) (h0 : x.m ≠ 0) :
    Calls Tryd.prog 31 #[.int .i64 n, .agg #[.int .i64 2, .bool x.neg, .bool x.neg, .slice p (dig B16 x.m).length c, .int .i64 x.e]] w fun en w' => en = .returned (.string (strOf ((fmt n).strP ((fmt n).numP x)))) ∧ Below w.heap.size w w' := by
  have hl := grid_len (good_fm hn).g hin
  have h16 := B16_len32 x.m
  exact refEncodeOf_any n (⟨2, x.neg, x⟩ : Vr) p c b0 w hn hp (by show (dig B16 x.m).length ≤ 2400; omega) (fun _ => ⟨hin, h0, hB, rfl, hl⟩)

def GNz (w : World) (S : Nat → Prop) (base : Nat) (d : Dv) (en : Ending) (w' : World) : Prop :=
  ∃ p c, en = .returned (.agg #[.bool d.neg, .slice p (dig B16 d.m).length c, .int .i64 d.e]) ∧ Rf w' base p c (dig B16 d.m) ∧ (∀ x, S x → 0 < (dig B16 d.m).length → blk p ≠ x) ∧ Below w.heap.size w w'
theorem rminusz (a : Dv) (p : Option Addr) (c base : Nat) (w : World) (S : Nat → Prop) (hp : Rf w base p c (dig B16 a.m)) (hf : ∀ x, S x → 0 < (dig B16 a.m).length → blk p ≠ x) (hA : ∀ x, S x → x < w.heap.size) (hb : base ≤ w.heap.size) :
    Calls Tryd.prog 38 #[.agg #[.bool a.neg, .slice p (dig B16 a.m).length c, .int .i64 a.e]] w (GNz w S base (dMinus a)) := by
  refine (refMinus_any (fun b => base ≤ b ∧ ∀ x, S x → b ≠ x) a.neg p _ c a.e a.m w hp.rd rfl hp.cap (fun h => ⟨hp.at_ h, fun x hx => hf x hx h⟩)).mono fun en w' hh => ?_
  obtain ⟨p, c, h1, h2, h3, h4, h5⟩ := hh
  refine ⟨p, c, h1, ⟨h2, h3, fun h => ?_⟩, fun x hx h => ?_, h5⟩
  · rcases h4 h with h | h
    · exact h.1
    · omega
  · rcases h4 h with h | h
    · exact h.2 x hx
    · have := hA x hx
      omega

set_option maxHeartbeats 4000000 in
set_option maxRecDepth 100000 in
theorem codecNexts_row (n : Int) (s : ByteArray) (up : Bool) (w : World) (hT : TabW w) : Calls Tryd.prog 9 #[.int .i64 n, .string s, .bool up] w fun en w' => en = .returned (.bool true) ∧ Below w.heap.size w w' := by
  have HN := fun W h => Lib.hid (Next_any n s up W h)
  have HO := fun W => Lib.hid (refOpen_any n s W)
  have HF := fun W => Lib.hid (refFormat_any n W)
  unfold GivesS at HN
  by_cases h0 : errPat n s = 0
  · obtain ⟨hn, hs⟩ := errPat_zero.1 h0
    unfold errNext nextOut at HN
    rw [if_pos h0] at HN
    rw [h0] at HO
    rw [decide_eq_true hn] at HF
    have G := good_fm hn
    have HD := fun W => Lib.hid (refDecodeOf_any n s W hn hs)
    have PN := patN_of G s
    have HZ := fun W => Lib.hid (refEncode_zero n W hn)
    have HE0 := fun x W p c b h1 h2 h3 h4 => Lib.hid (refEncode_num n x p c b W hn h1 h2 h3 h4)
    generalize (fmt n).refN (numOfS (fmt n) s) = u at *
    generalize (fmt n).valN (numOfS (fmt n) s) = v at *
    generalize (fmt n).neg (numOfS (fmt n) s) = g at *
    generalize fmt n = f at *
    obtain ⟨_, hB, _, hxl, hx16, _, _, hlo, hhi, _⟩ := PN
    have hg := G.g
    have GG := goodG_of hg
    obtain ⟨x1, h1⟩ : ∃ x1, fromN u.x up = x1 := ⟨_, rfl⟩
    have hm1 : x1.m = u.x.m ∧ x1.e = u.x.e ∧ inGridD x1 f.g = inGridD u.x f.g ∧ Bare x1 := by
      subst h1
      unfold fromN
      split
      · exact ⟨rfl, rfl, rfl, hB⟩
      · exact ⟨rfl, rfl, rfl, dMinus_bare hB⟩
    obtain ⟨x2, h2⟩ : ∃ x2, (pStep x1 f.g).1 = x2 := ⟨_, rfl⟩
    obtain ⟨ok, hok⟩ : ∃ ok, (pStep x1 f.g).2 = ok := ⟨_, rfl⟩
    have hin2 := fun h : ok = true => pStep_ok (a := x1) GG (hok.trans h)
    rw [h2] at hin2
    obtain ⟨x3, h3⟩ : ∃ x3, fromN x2 up = x3 := ⟨_, rfl⟩
    have hm3 : x3.m = x2.m ∧ inGridD x3 f.g = inGridD x2 f.g ∧ (Bare x2 → Bare x3) := by
      subst h3
      unfold fromN
      split
      · exact ⟨rfl, rfl, id⟩
      · exact ⟨rfl, rfl, dMinus_bare⟩
    have hin3 : ok = true → inGridD x3 f.g = true ∧ Bare x3 := fun h => ⟨hm3.2.1.trans (hin2 h).1, hm3.2.2 (hin2 h).2⟩
    have HE : ∀ y, x3 = y → ∀ W p c b, Rf W b p c (dig B16 y.m) → (inGridD x3 f.g = true ∧ Bare x3) → x3.m ≠ 0 → Hid (Calls Tryd.prog 31 #[.int .i64 n, .agg #[.int .i64 2, .bool y.neg, .bool y.neg, .slice p (dig B16 y.m).length c, .int .i64 y.e]] W fun en w' => en = .returned (.string (strOf (f.strP (f.numP x3)))) ∧ Below W.heap.size W w') := fun y hy W p c b h1 h2 h4 => by subst hy; exact HE0 x3 W p c b h1 h2.1 h2.2 h4
    have HS : ∀ y, x1 = y → ∀ (W : World) p c b, Rf W b p c (dig B16 y.m) → inGridD u.x f.g = true → Hid (Calls Tryd.prog 39 #[.agg #[.bool y.neg, .slice p (dig B16 y.m).length c, .int .i64 y.e], .agg #[.int .i64 f.g.rad, .int .i64 f.g.digs, .int .i64 f.g.lo, .int .i64 f.g.hi, .bool f.g.grad]] W (GivesFB2 W x2 ok)) := by
      intro y hy W p c b k1 k2
      subst hy
      obtain ⟨q1, q2, q3, q4⟩ := hm1
      have q5 : (dig B32 x1.m).length ≤ 1200 := by rw [q1]; omega
      have he := inGrid_e hg hB k2
      have := refStepOf_any x1.neg p c x1.e x1.m f.g W k1.rd q4 q5 (by omega) hg (q3.trans k2) k1.cap
      rw [show (⟨x1.neg, x1.m, x1.e⟩ : Dv) = x1 from rfl, ← step_eq q4 GG (q3.trans k2), h2, hok] at this
      exact Lib.hid this
    obtain ⟨er, her⟩ : ∃ er, errNx u.cls u.x f.g up = er := ⟨_, rfl⟩
    have hE : er = if 2 < u.cls ∨ inGridD u.x f.g = false then 4 else if ok = false then 5 else 0 := by rw [← her]; unfold errNx; rw [h1, hok]
    obtain ⟨sN, hsN⟩ : ∃ sN, (if er = 0 then outNx f u.x up else strOf []) = sN := ⟨_, rfl⟩
    have hO : outNx f u.x up = if x3.m = 0 then strOf (f.str false 0 0) else strOf (f.strP (f.numP x3)) := by
      have h : nextN u.x f.g up = x3 := by unfold nextN; rw [h1, h2, h3]
      unfold outNx
      rw [h]
    rw [her, hsN] at HN
    rw [hO] at hsN
    have hQ4 : (2 < u.cls ∨ inGridD u.x f.g = false) → er = 4 ∧ sN = strOf [] := fun h => by
      rw [if_pos h] at hE
      rw [if_neg (by omega)] at hsN
      exact ⟨hE, hsN.symm⟩
    have hQ5 : ¬ (2 < u.cls ∨ inGridD u.x f.g = false) → ok = false → er = 5 ∧ sN = strOf [] := fun h h' => by
      rw [if_neg h, if_pos h'] at hE
      rw [if_neg (by omega)] at hsN
      exact ⟨hE, hsN.symm⟩
    have hQz : ¬ (2 < u.cls ∨ inGridD u.x f.g = false) → ok = true → x3.m = 0 → er = 0 ∧ sN = strOf (f.str false 0 0) := fun h h' h'' => by
      rw [if_neg h, if_neg (by rw [h']; simp)] at hE
      rw [if_pos hE, if_pos h''] at hsN
      exact ⟨hE, hsN.symm⟩
    have hQn : ¬ (2 < u.cls ∨ inGridD u.x f.g = false) → ok = true → x3.m ≠ 0 → er = 0 ∧ sN = strOf (f.strP (f.numP x3)) := fun h h' h'' => by
      rw [if_neg h, if_neg (by rw [h']; simp)] at hE
      rw [if_pos hE, if_neg h''] at hsN
      exact ⟨hE, hsN.symm⟩
    have hup : up = true → x1 = u.x ∧ x3 = x2 := fun h => by rw [← h1, ← h3, h]; exact ⟨rfl, rfl⟩
    have hdn : up = false → x1 = dMinus u.x ∧ x3 = dMinus x2 := fun h => by rw [← h1, ← h3, h]; exact ⟨rfl, rfl⟩
    clear hE hO h1 h2 h3 hok her hsN HE0 h0 hs hm1 hin2
    have hm32 : x3.m = x2.m := hm3.1
    clear hm3
    have I := Inv.start w [tabF] ⟨hT, True.intro⟩
    refine zstart [.v (.int .i64 n), .v (.string s), .v (.bool up)] I Tryd.func9 ?_
    refine zg I (fun Al W I => (HN W I.fa.1).out) fun Al V Iv hz hB K k => ?_
    rintro _ W ⟨rfl, hb⟩
    refine ⟨_, rfl, k _ _ hb fun I => ?_⟩
    clear k K
    refine zg I (fun Al W I => (HO W).out) fun Al V Iv hz hB K k => ?_
    rintro _ W ⟨rfl, hb⟩
    refine ⟨_, rfl, k _ _ hb fun I => ?_⟩
    clear k K
    refine zg I (fun Al W I => (HF W).out) fun Al V Iv hz hB K k => ?_
    rintro _ W ⟨rfl, hb⟩
    refine ⟨_, rfl, k _ _ hb fun I => ?_⟩
    clear k K
    refine zg I (fun Al W I => (HD W).out) fun Al V Iv hz hB K k => ?_
    rintro _ W ⟨p38, c38, rfl, o38, hb⟩
    refine ⟨_, rfl, k _ _ hb fun I => ?_⟩
    clear k K
    have I := I.rf o38 (hB _) Iv
    by_cases hk : inGridD u.x f.g = true
    · skip
      rcases Bool.eq_false_or_eq_true (decide (((u.cls : Nat) : Int) > 2)) with f43 | f43
      · skip
        refine zb I 43 (decide (((u.cls : Nat) : Int) > 2)) (true) (f43) fun Al W I => ?_
        have hq : er = 4 ∧ sN = strOf [] := hQ4 (by first | (have := of_decide_eq_true f43; exact .inl (by omega)) | exact .inr (by simpa using hk))
        refine zg I (fun Al W I => codecBegun_any W I.fa.2.1) fun Al V Iv hz hB K k => ?_
        rintro _ W ⟨rfl, hb⟩
        refine ⟨_, rfl, k _ _ hb fun I => ?_⟩
        clear k K
        refine zb I 92 (er == 4) (true) (beq_iff_eq.2 hq.1) fun Al W I => ?_
        refine zbin I 97 _ (fun _ _ _ _ _ => bin_seq2 hq.2) fun Al W I => ?_
        exact zret I fun Al W I => ⟨rfl, I.below⟩
      refine zb I 43 (decide (((u.cls : Nat) : Int) > 2)) (false) (f43) fun Al W I => ?_
      refine zg I (fun Al W I => have hz := I.bel.size; refInGrid_any u.x.neg p38 _ c38 u.x.e u.x.m f.g W I.fa.1.rd rfl (by omega) (by omega) GG) fun Al V Iv hz hB K k => ?_
      rintro _ W ⟨rfl, hb⟩
      refine ⟨_, congrArg (fun b => Ending.returned (.bool b)) (show (inGridD ⟨u.x.neg, u.x.m, u.x.e⟩ f.g) = true from hk), k _ _ hb fun I => ?_⟩
      clear k K
      have hE : ¬ (2 < u.cls ∨ inGridD u.x f.g = false) := fun h => by rcases h with h | h <;> first | (rw [hk] at h; cases h; done) | (have := of_decide_eq_false f43; omega)
      rcases Bool.eq_false_or_eq_true (!up) with f57 | f57
      · skip
        refine zb I 57 (!up) (true) (f57) fun Al W I => ?_
        refine zg I (fun Al W I => have hz := I.bel.size; rminusz u.x p38 c38 _ W (Fa Al _) I.fa.1 (fun a ha h0 e => (I.far a ha).1 ⟨h0, e⟩) I.lt (by omega)) fun Al V Iv hz hB K k => ?_
        rintro _ W ⟨p59, c59, rfl, o59, n59, hb⟩
        refine ⟨_, rfl, k _ _ hb fun I => ?_⟩
        clear k K
        have I := I.rfA o59 (hB _) n59
        refine zg I (fun Al W I => (HS (dMinus u.x) (hdn (by simpa using f57)).1 W p59 c59 _ I.fa.1 hk).out) fun Al V Iv hz hB K k => ?_
        rintro _ W ⟨p64, c64, rfl, o64, hb⟩
        refine ⟨_, rfl, k _ _ hb fun I => ?_⟩
        clear k K
        have I := I.rf o64 (hB _) Iv
        rcases Bool.eq_false_or_eq_true (ok) with f66 | f66
        · skip
          refine zb I 66 (ok) (true) (f66) fun Al W I => ?_
          refine zb I 68 (!up) (true) (f57) fun Al W I => ?_
          refine zg I (fun Al W I => have hz := I.bel.size; rminusz x2 p64 c64 _ W (Fa Al _) I.fa.1 (fun a ha h0 e => (I.far a ha).1 ⟨h0, e⟩) I.lt (by omega)) fun Al V Iv hz hB K k => ?_
          rintro _ W ⟨p70, c70, rfl, o70, n70, hb⟩
          refine ⟨_, rfl, k _ _ hb fun I => ?_⟩
          clear k K
          have I := I.rfA o70 (hB _) n70
          by_cases h0 : x3.m = 0
          · skip
            refine zb I 84 ((((dig B16 (dMinus x2).m).length : Nat) : Int) == 0) (true) (beq_iff_eq.2 (by have := (dig_len_zero B16_two x2.m).2 (hm32 ▸ h0); show ((dig B16 x2.m).length : Int) = 0; omega)) fun Al W I => ?_
            have hq : er = 0 ∧ sN = strOf (f.str false 0 0) := hQz hE f66 h0
            refine zg I (fun Al W I => (HZ W).out) fun Al V Iv hz hB K k => ?_
            rintro _ W ⟨rfl, hb⟩
            refine ⟨_, rfl, k _ _ hb fun I => ?_⟩
            clear k K
            refine zg I (fun Al W I => codecBegun_any W I.fa.2.2.2.2.1) fun Al V Iv hz hB K k => ?_
            rintro _ W ⟨rfl, hb⟩
            refine ⟨_, rfl, k _ _ hb fun I => ?_⟩
            clear k K
            refine zb I 92 (er == 0) (true) (beq_iff_eq.2 hq.1) fun Al W I => ?_
            refine zbin I 97 _ (fun _ _ _ _ _ => bin_seq2 hq.2) fun Al W I => ?_
            exact zret I fun Al W I => ⟨rfl, I.below⟩
          refine zb I 84 ((((dig B16 (dMinus x2).m).length : Nat) : Int) == 0) (false) (beq_eq_false_iff_ne.2 (fun h => h0 (hm32.trans ((dig_len_zero B16_two x2.m).1 (by have h2 : ((dig B16 x2.m).length : Int) = 0 := h; omega))))) fun Al W I => ?_
          have hq : er = 0 ∧ sN = strOf (f.strP (f.numP x3)) := hQn hE f66 h0
          refine zg I (fun Al W I => (HE (dMinus x2) (hdn (by simpa using f57)).2 W p70 c70 _ I.fa.1 (hin3 f66) h0).out) fun Al V Iv hz hB K k => ?_
          rintro _ W ⟨rfl, hb⟩
          refine ⟨_, rfl, k _ _ hb fun I => ?_⟩
          clear k K
          refine zg I (fun Al W I => codecBegun_any W I.fa.2.2.2.2.1) fun Al V Iv hz hB K k => ?_
          rintro _ W ⟨rfl, hb⟩
          refine ⟨_, rfl, k _ _ hb fun I => ?_⟩
          clear k K
          refine zb I 92 (er == 0) (true) (beq_iff_eq.2 hq.1) fun Al W I => ?_
          refine zbin I 97 _ (fun _ _ _ _ _ => bin_seq2 hq.2) fun Al W I => ?_
          exact zret I fun Al W I => ⟨rfl, I.below⟩
        refine zb I 66 (ok) (false) (f66) fun Al W I => ?_
        refine zb I 68 (!up) (true) (f57) fun Al W I => ?_
        refine zg I (fun Al W I => have hz := I.bel.size; rminusz x2 p64 c64 _ W (Fa Al _) I.fa.1 (fun a ha h0 e => (I.far a ha).1 ⟨h0, e⟩) I.lt (by omega)) fun Al V Iv hz hB K k => ?_
        rintro _ W ⟨p70, c70, rfl, o70, n70, hb⟩
        refine ⟨_, rfl, k _ _ hb fun I => ?_⟩
        clear k K
        have I := I.rfA o70 (hB _) n70
        have hq : er = 5 ∧ sN = strOf [] := hQ5 hE f66
        refine zg I (fun Al W I => codecBegun_any W I.fa.2.2.2.2.1) fun Al V Iv hz hB K k => ?_
        rintro _ W ⟨rfl, hb⟩
        refine ⟨_, rfl, k _ _ hb fun I => ?_⟩
        clear k K
        refine zb I 92 (er == 5) (true) (beq_iff_eq.2 hq.1) fun Al W I => ?_
        refine zbin I 97 _ (fun _ _ _ _ _ => bin_seq2 hq.2) fun Al W I => ?_
        exact zret I fun Al W I => ⟨rfl, I.below⟩
      refine zb I 57 (!up) (false) (f57) fun Al W I => ?_
      refine zg I (fun Al W I => (HS u.x (hup (by simpa using f57)).1 W p38 c38 _ I.fa.1 hk).out) fun Al V Iv hz hB K k => ?_
      rintro _ W ⟨p64, c64, rfl, o64, hb⟩
      refine ⟨_, rfl, k _ _ hb fun I => ?_⟩
      clear k K
      have I := I.rf o64 (hB _) Iv
      rcases Bool.eq_false_or_eq_true (ok) with f66 | f66
      · skip
        refine zb I 66 (ok) (true) (f66) fun Al W I => ?_
        refine zb I 68 (!up) (false) (f57) fun Al W I => ?_
        by_cases h0 : x3.m = 0
        · skip
          refine zb I 84 ((((dig B16 x2.m).length : Nat) : Int) == 0) (true) (beq_iff_eq.2 (by have := (dig_len_zero B16_two x2.m).2 (hm32 ▸ h0); show ((dig B16 x2.m).length : Int) = 0; omega)) fun Al W I => ?_
          have hq : er = 0 ∧ sN = strOf (f.str false 0 0) := hQz hE f66 h0
          refine zg I (fun Al W I => (HZ W).out) fun Al V Iv hz hB K k => ?_
          rintro _ W ⟨rfl, hb⟩
          refine ⟨_, rfl, k _ _ hb fun I => ?_⟩
          clear k K
          refine zg I (fun Al W I => codecBegun_any W I.fa.2.2.1) fun Al V Iv hz hB K k => ?_
          rintro _ W ⟨rfl, hb⟩
          refine ⟨_, rfl, k _ _ hb fun I => ?_⟩
          clear k K
          refine zb I 92 (er == 0) (true) (beq_iff_eq.2 hq.1) fun Al W I => ?_
          refine zbin I 97 _ (fun _ _ _ _ _ => bin_seq2 hq.2) fun Al W I => ?_
          exact zret I fun Al W I => ⟨rfl, I.below⟩
        refine zb I 84 ((((dig B16 x2.m).length : Nat) : Int) == 0) (false) (beq_eq_false_iff_ne.2 (fun h => h0 (hm32.trans ((dig_len_zero B16_two x2.m).1 (by have h2 : ((dig B16 x2.m).length : Int) = 0 := h; omega))))) fun Al W I => ?_
        have hq : er = 0 ∧ sN = strOf (f.strP (f.numP x3)) := hQn hE f66 h0
        refine zg I (fun Al W I => (HE x2 (hup (by simpa using f57)).2 W p64 c64 _ I.fa.1 (hin3 f66) h0).out) fun Al V Iv hz hB K k => ?_
        rintro _ W ⟨rfl, hb⟩
        refine ⟨_, rfl, k _ _ hb fun I => ?_⟩
        clear k K
        refine zg I (fun Al W I => codecBegun_any W I.fa.2.2.1) fun Al V Iv hz hB K k => ?_
        rintro _ W ⟨rfl, hb⟩
        refine ⟨_, rfl, k _ _ hb fun I => ?_⟩
        clear k K
        refine zb I 92 (er == 0) (true) (beq_iff_eq.2 hq.1) fun Al W I => ?_
        refine zbin I 97 _ (fun _ _ _ _ _ => bin_seq2 hq.2) fun Al W I => ?_
        exact zret I fun Al W I => ⟨rfl, I.below⟩
      refine zb I 66 (ok) (false) (f66) fun Al W I => ?_
      refine zb I 68 (!up) (false) (f57) fun Al W I => ?_
      have hq : er = 5 ∧ sN = strOf [] := hQ5 hE f66
      refine zg I (fun Al W I => codecBegun_any W I.fa.2.2.1) fun Al V Iv hz hB K k => ?_
      rintro _ W ⟨rfl, hb⟩
      refine ⟨_, rfl, k _ _ hb fun I => ?_⟩
      clear k K
      refine zb I 92 (er == 5) (true) (beq_iff_eq.2 hq.1) fun Al W I => ?_
      refine zbin I 97 _ (fun _ _ _ _ _ => bin_seq2 hq.2) fun Al W I => ?_
      exact zret I fun Al W I => ⟨rfl, I.below⟩
    rcases Bool.eq_false_or_eq_true (decide (((u.cls : Nat) : Int) > 2)) with f43 | f43
    · skip
      refine zb I 43 (decide (((u.cls : Nat) : Int) > 2)) (true) (f43) fun Al W I => ?_
      have hq : er = 4 ∧ sN = strOf [] := hQ4 (by first | (have := of_decide_eq_true f43; exact .inl (by omega)) | exact .inr (by simpa using hk))
      refine zg I (fun Al W I => codecBegun_any W I.fa.2.1) fun Al V Iv hz hB K k => ?_
      rintro _ W ⟨rfl, hb⟩
      refine ⟨_, rfl, k _ _ hb fun I => ?_⟩
      clear k K
      refine zb I 92 (er == 4) (true) (beq_iff_eq.2 hq.1) fun Al W I => ?_
      refine zbin I 97 _ (fun _ _ _ _ _ => bin_seq2 hq.2) fun Al W I => ?_
      exact zret I fun Al W I => ⟨rfl, I.below⟩
    refine zb I 43 (decide (((u.cls : Nat) : Int) > 2)) (false) (f43) fun Al W I => ?_
    refine zg I (fun Al W I => have hz := I.bel.size; refInGrid_any u.x.neg p38 _ c38 u.x.e u.x.m f.g W I.fa.1.rd rfl (by omega) (by omega) GG) fun Al V Iv hz hB K k => ?_
    rintro _ W ⟨rfl, hb⟩
    refine ⟨_, congrArg (fun b => Ending.returned (.bool b)) (show (inGridD ⟨u.x.neg, u.x.m, u.x.e⟩ f.g) = false from (by simpa using hk)), k _ _ hb fun I => ?_⟩
    clear k K
    have hq : er = 4 ∧ sN = strOf [] := hQ4 (by first | (have := of_decide_eq_true f43; exact .inl (by omega)) | exact .inr (by simpa using hk))
    refine zg I (fun Al W I => codecBegun_any W I.fa.2.1) fun Al V Iv hz hB K k => ?_
    rintro _ W ⟨rfl, hb⟩
    refine ⟨_, rfl, k _ _ hb fun I => ?_⟩
    clear k K
    refine zb I 92 (er == 4) (true) (beq_iff_eq.2 hq.1) fun Al W I => ?_
    refine zbin I 97 _ (fun _ _ _ _ _ => bin_seq2 hq.2) fun Al W I => ?_
    exact zret I fun Al W I => ⟨rfl, I.below⟩
  · unfold errNext at HN
    rw [if_neg h0, if_neg h0] at HN
    generalize errPat n s = er at *
    generalize decide (IsFm n) = fo at *
    generalize fmt n = f at *
    have I := Inv.start w [tabF] ⟨hT, True.intro⟩
    refine zstart [.v (.int .i64 n), .v (.string s), .v (.bool up)] I Tryd.func9 ?_
    refine zg I (fun Al W I => (HN W I.fa.1).out) fun Al V Iv hz hB K k => ?_
    rintro _ W ⟨rfl, hb⟩
    refine ⟨_, rfl, k _ _ hb fun I => ?_⟩
    clear k K
    refine zg I (fun Al W I => (HO W).out) fun Al V Iv hz hB K k => ?_
    rintro _ W ⟨rfl, hb⟩
    refine ⟨_, rfl, k _ _ hb fun I => ?_⟩
    clear k K
    refine zg I (fun Al W I => (HF W).out) fun Al V Iv hz hB K k => ?_
    rintro _ W ⟨rfl, hb⟩
    refine ⟨_, rfl, k _ _ hb fun I => ?_⟩
    clear k K
    refine zb I 34 (er == 0) (false) (beq_eq_false_iff_ne.2 h0) fun Al W I => ?_
    refine zb I 53 (er == 0) (false) (beq_eq_false_iff_ne.2 h0) fun Al W I => ?_
    refine zg I (fun Al W I => codecBegun_any W I.fa.1) fun Al V Iv hz hB K k => ?_
    rintro _ W ⟨rfl, hb⟩
    refine ⟨_, rfl, k _ _ hb fun I => ?_⟩
    clear k K
    refine zb I 92 (er == er) (true) (beq_self_eq_true _) fun Al W I => ?_
    refine zbin I 97 _ (fun _ _ _ _ _ => bin_seq (strOf [])) fun Al W I => ?_
    exact zret I fun Al W I => ⟨rfl, I.below⟩
end Go.Proofs.YtcipdimogodndaaDoor
