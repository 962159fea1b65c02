/- The reference's EncodeOf. -/
import Derived.Test.YtmacohmclpnphaaGreatDoorZc1
import Derived.Test.YtmacohmclpnphaaGreatDoorZc2
import Derived.Test.YtmacohmclpnphaaGreatDoorZc3
import Derived.Test.YtmacohmclpnphaaGreatDoorZc4
import Derived.Test.YtmacohmclpnphaaGreatDoorZc5
import Derived.Test.YtmacohmclpnphaaGreatDoorZc6
set_option maxHeartbeats 8000000
set_option maxRecDepth 100000
namespace Go.Slip
structure NumR (f : Fm) (d : Dv) (A B K : Int) (X : Nat) : Prop where
 hA : A = (d.e + ((blen d.m : Nat) : Int) - 1 + 80000).tdiv ((wid f.g : Nat) : Int)
 hB : B = (80000 : Int).tdiv ((wid f.g : Nat) : Int)
 a1 : -200000 ≤ A
 a2 : A ≤ 200000
 b1 : 0 ≤ B
 b2 : B ≤ 80000
 mx : max f.g.lo (A - B - f.g.digs + 1) = K
 k1 : f.g.lo ≤ K
 k2 : K ≤ f.g.hi
 m1 : -80000 ≤ wid f.g * K
 m2 : wid f.g * K ≤ 80000
 bl : blen d.m ≤ 40000
 e1 : -20000 ≤ d.e
 e2 : d.e ≤ 20000
 fl : l0g ⟨false, d.m, d.e - wid f.g * K⟩ = X
 xl : (dig B16 X).length ≤ 40
 np : f.numP d = if f.fam = 2 then ⟨d.neg, (K - f.g.lo).toNat, X⟩ else if (blen X : Int) = f.g.digs then ⟨d.neg, (K - f.g.lo).toNat + 1, if f.ext then X else X - 2 ^ f.F⟩ else ⟨d.neg, (K - f.g.lo).toNat, X⟩
end Go.Slip
namespace Go.Proofs.YtmacohmclpnphaaGreatDoor
open Go.RowKit Go.Slip
theorem e0w {x k n : Nat} (h : x < 2 ^ k) (hk : k ≤ 16 * n) : (dig B16 x).length ≤ n := by
 rw [a0g a0e]
 unfold B16
 rw [show (65536 : Nat) = 2 ^ 16 from rfl, ← Nat.pow_mul]
 exact Nat.lt_of_lt_of_le h (Nat.pow_le_pow_right (by omega) hk)
theorem i1l {f : Fm} (G : c0e f) {d : Dv} (hin : b0n d f.g = true) (h0 : d.m ≠ 0) (hB : Bare d) (hl : (dig B32 d.m).length ≤ 1200) : ∃ A B K X, NumR f d A B K X := by
 have N := p0w G hin h0
 have he := v0y G.g hB hin
 have hg := b0r G.g
 have hbl := e0x d.m
 have hpos := (c0u d.m).2 (by omega)
 have wp := b0c f.g
 have w2 : wid f.g = 1 ∨ wid f.g = 4 := by rw [G.w]; split <;> simp
 have hx : -80000 ≤ d.e + (blen d.m : Int) - 1 := by omega
 have h8 := e1u w2 hx
 have hmul := k0d (wd := wid f.g) (k := stepK d f.g) (B := 17000) wp.2 (by have := N.k1; have := N.k2; have := hg.l1; have := hg.h2; omega)
 have hd := d0u (d.e + (blen d.m : Int) - 1) (wid f.g) (by omega)
 have hab := i0h (x := d.e + (blen d.m : Int) - 1 + 80000) (B := 150000) (wd := wid f.g) wp.1 (by omega)
 have hab2 := i0h (x := 80000) (B := 80000) (wd := wid f.g) wp.1 (by omega)
 have hab3 : (0 : Int) ≤ 80000 / (wid f.g : Int) := Int.ediv_nonneg (by omega) (by omega)
 refine ⟨_, _, stepK d f.g, f.fr d, ⟨rfl, rfl, by rw [h8.1]; omega, by rw [h8.1]; omega, by rw [h8.2.1]; omega, by rw [h8.2.1]; omega, ?_, N.k1, N.k2, by omega, by omega, by omega, by omega, by omega, ?_, ?_, rfl⟩⟩
 · rw [h8.1, h8.2.1, h8.2.2]
   have hd1 := hg.d1
   show _ = max f.g.lo (upK d (wid f.g) f.g.digs.toNat)
   unfold upK topD
   congr 1
   omega
 · unfold l0g Fm.fr
   simp only
   rw [if_pos N.e0]
 · have h1 := N.lt
   have hd2 := hg.d2
   exact e0w h1 (by have := Nat.mul_le_mul wp.2 (show f.g.digs.toNat ≤ 120 by omega); omega)
end Go.Proofs.YtmacohmclpnphaaGreatDoor
namespace Go.Slip
theorem u0z {f : Fm} (G : c0e f) {g : Bool} {e x : Nat} (he : e < 2 ^ f.E) (hx : x < 2 ^ f.F) {L : List Nat} (hl : L.length = f.size) (h : ∀ i, i < f.size → dg L (plc f.ord f.size i) = vb (((f.bits g e x).drop (8 * i)).take 8)) : L = f.str g e x := by
 refine j1r G hl fun i hi => ?_
 rw [h i hi, x0m (f.bits g e x) f.size i (by rw [p0u, G.bits]) hi, p0v he hx]
end Go.Slip
namespace Go.Proofs.YtmacohmclpnphaaGreatDoor
open Go.RowKit Go.Slip
theorem l1e (p : Option Addr) (n c : Nat) (e : Int) (m x : Nat) (w : World) (hp : Rd w .i64 p (dig B16 m)) (hn : n = (dig B16 m).length) (hl : (dig B16 m).length ≤ 1000000) (he : -1000000 ≤ e ∧ e ≤ 1000000) (h : l0g ⟨false, m, e⟩ = x) :
 Calls Tryz.prog 27 #[.agg #[.bool false, .slice p n c, .int .i64 e]] w (GRf w (dig B16 x)) := by
 subst h
 exact (n0z false p n c e m w hp hn hl he).mono fun _ _ => e0j.grf
theorem t0b (a many : Nat) (p : Option Addr) (n c b0 : Nat) (w : World) (hn : n = (dig B16 a).length) (hp : Rf w b0 p c (dig B16 a)) (hl : (dig B16 a).length ≤ 1000) (hm : many ≤ 1000) :
 Calls Tryz.prog 125 #[.slice p n c, .int .i64 (many : Int)] w (GBs w (f0y a many)) := by
 subst hn
 exact e0g a many p c b0 w hp hl hm
theorem n0k (n : Int) (v : Vr) (p : Option Addr) (c b0 : Nat) (w : World) (hn : IsFm n) (hp : Rf w b0 p c (dig B16 v.x.m)) (hl : (dig B16 v.x.m).length ≤ 2400)
 (N : v.cls = 2 → b0n v.x (fmt n).g = true ∧ v.x.m ≠ 0 ∧ Bare v.x ∧ v.x.neg = v.neg ∧ (dig B32 v.x.m).length ≤ 1200) :
 Calls Tryz.prog 54 #[.int .i64 n, .agg #[.int .i64 (v.cls : Int), .bool v.neg, .bool v.x.neg, .slice p (dig B16 v.x.m).length c, .int .i64 v.x.e]] w fun en w' => en = .returned (.string (b0k ((fmt n).strP ((fmt n).encP v.cls v.neg v.x)))) ∧ Below w.heap.size w w' := by
 have G := b0s hn
 have hext := c1h hn
 have HF := fun W => hi0 (e0n n hn W)
 have HPT := fun (bs : List Bool) m p c W h1 h2 h3 => hi0 (l0p n bs m p c W hn h1 h2 h3)
 generalize fmt n = f at *
 have z1 := G.sz
 have z2 := G.e2
 have z3 := G.f2
 have z4 := G.bits
 have z5 := G.lo
 have z6 := G.f1
 have z7 := G.hi
 have hlt := a1g G (cls := v.cls) (g := v.neg) (d := v.x) (fun h => p0w G (N h).1 (N h).2.1)
 have hN : v.cls = 2 → ∃ A B K X, NumR f v.x A B K X := fun h => i1l G (N h).1 (N h).2.1 (N h).2.2.1 (N h).2.2.2.2
 have hsn : v.cls = 2 → v.x.neg = v.neg := fun h => (N h).2.2.2.1
 have hF := G.hi1
 have h15 : 2 ^ f.E ≤ 32768 := by rw [show (32768 : Nat) = 2 ^ 15 from rfl]; exact Nat.pow_le_pow_right (by omega) (by omega)
 have h0E : 0 < 2 ^ f.E := Nat.pow_pos (by omega)
 have hpi : ∀ i, i ≤ f.E → 2 ^ i ≤ 32768 := fun i hi => Nat.le_trans (Nat.pow_le_pow_right (by omega) hi) h15
 have hp2 : ∀ i, 2 * 2 ^ i = 2 ^ (i + 1) := fun i => by rw [Nat.pow_succ]; omega
 have hg := b0r G.g
 have hd1 := hg.d1
 have hd2 := hg.d2
 obtain ⟨dN, hdN⟩ : ∃ dN : Nat, f.g.digs - 1 = (dN : Int) := ⟨(f.g.digs - 1).toNat, by omega⟩
 have hdl : (dig B16 (2 ^ dN)).length ≤ 8 := b0v (n := 121) (Nat.pow_lt_pow_right (by omega) (by omega)) (by omega)
 have h63 : (dig B16 (2 ^ 63)).length ≤ 4 := b0v (n := 64) (by omega) (by omega)
 have h62 : (dig B16 (2 ^ 62)).length ≤ 4 := b0v (n := 64) (by omega) (by omega)
 have hFl : (dig B16 (2 ^ (f.F - 1))).length ≤ 4 := b0v (n := 64) (Nat.pow_lt_pow_right (by omega) (by omega)) (by omega)
 have hge : ∀ X : Nat, (blen X : Int) = f.g.digs → 2 ^ dN ≤ X := fun X h => by
  have h1 := f0l X ((c0u X).1 (by omega))
  rw [show blen X - 1 = dN by omega] at h1
  exact h1
 have e3 : v.cls = 3 → f.encP v.cls v.neg v.x = ⟨v.neg, 2 ^ f.E - 1, if f.ext then 2 ^ 63 else 0⟩ := fun h => by rw [h]; rfl
 have e4 : v.cls = 4 → f.encP v.cls v.neg v.x = ⟨v.neg, 2 ^ f.E - 1, if f.ext then 2 ^ 63 + 2 ^ 62 else 2 ^ (f.F - 1)⟩ := fun h => by rw [h]; rfl
 have e5 : v.cls = 5 → f.encP v.cls v.neg v.x = ⟨true, 0, 0⟩ := fun h => by rw [h]; rfl
 have e2 : v.cls = 2 → f.encP v.cls v.neg v.x = f.numP v.x := fun h => by rw [h]; rfl
 have e1 : v.cls ≠ 2 → v.cls ≠ 3 → v.cls ≠ 4 → v.cls ≠ 5 → f.encP v.cls v.neg v.x = ⟨v.neg, 0, 0⟩ := fun h2 h3 h4 h5 => by unfold Fm.encP; rw [if_neg h2, if_neg h3, if_neg h4, if_neg h5]
 have hwd : ((wid f.g : Nat) : Int) ≠ 0 := by have := b0c f.g; omega
 have hd1F := G.d1
 have hln : ∀ (x y : List Bool), (x.map Value.bool ++ y.map Value.bool) = (x ++ y).map Value.bool := fun x y => by rw [List.map_append]
 obtain ⟨en, hen⟩ : ∃ en, f.encP v.cls v.neg v.x = en := ⟨_, rfl⟩
 rw [hen] at hlt e1 e2 e3 e4 e5 ⊢
 have hel : ∀ (g : Bool) (e x : Nat), en = ⟨g, e, x⟩ → (dig B16 e).length ≤ 4 ∧ (dig B16 x).length ≤ 40 := fun g e x h => by subst h; exact ⟨e0w hlt.1 (by omega), e0w hlt.2 (by omega)⟩
 have hstr := fun (L : List Nat) h1 h2 => u0z G (g := en.neg) hlt.1 hlt.2 (L := L) h1 h2
 have hbl := p0u f
 unfold Fm.strP
 clear N hen
 have hT3 : d0o Tryz.prog 3 := c0l (by kernel_rfl) (by kernel_rfl)
 have hT4 : d0o Tryz.prog 4 := c0l (by kernel_rfl) (by kernel_rfl)
 have hT28 : d0o Tryz.prog 28 := c0l (by kernel_rfl) (by kernel_rfl)
 have hT54 : d0v Tryz.prog 54 5 := c0k (by kernel_rfl) (by kernel_rfl)
 have hT62 : d0v Tryz.prog 62 9 := c0k (by kernel_rfl) (by kernel_rfl)
 refine calls_of_wp Tryz.func54 rfl ?_
 refine a0s (a' := ⟨((.int .i64 n) :: (.agg #[.int .i64 (v.cls : Int), .bool v.neg, .bool v.x.neg, .slice p (dig B16 v.x.m).length c, .int .i64 v.x.e]) :: us 134 []).toArray, []⟩) (by kernel_rfl) ?_
 refine ye ?_
 refine yw 0 rfl 3 #[.int .i64 (v.cls : Int), .bool v.neg, .bool v.x.neg, .slice p (dig B16 v.x.m).length c, .int .i64 v.x.e] 32 (fun V1 hbV1 hzV1 b3 => ?_)
 refine yzt 1 ?_
 refine ye ?_
 have lhp := fun h => hp.lt h
 refine yc 1 rfl 17 ((HF V1).out) (fun Gx hGx => ?_)
 rintro eV2 V2 ⟨rfl, hbV2⟩
 have hzV2 := hbV2.size
 refine ⟨_, rfl, hGx _ _ ?_⟩
 clear hGx Gx
 refine yw 3 rfl 5 #[.int .i64 0, .int .i64 0, .int .i64 0, .int .i64 0, .int .i64 0, .int .i64 0, .int .i64 0, .bool false, .int .i64 0] 62 (fun V3 hbV3 hzV3 b5 => ?_)
 have boV4 := b5
 refine ysw 0 rfl b5 hT62 #[.int .i64 (f.size : Int), .int .i64 (f.E : Int), .int .i64 (f.F : Int), .int .i64 f.g.rad, .int .i64 f.g.digs, .int .i64 f.g.lo, .int .i64 f.g.hi, .bool f.g.grad, .int .i64 (f.fam : Int)] ?_
 clear b5
 intro V4 hOV4 b5
 have hzV4 := hOV4.size
 refine yzt 1 ?_
 refine yq ?_
 refine ye ?_
 have b3_w4 := b3.past ((a0a hbV2 hbV3).trans (hOV4.below (by omega)))
 refine yl 1 rfl 21 b3_w4 hT4 1 ?_
 refine yzt 1 ?_
 refine yq ?_
 refine wp_seq ?_
 refine yq ?_
 refine wp_block ?_
 refine a0s (a' := ⟨((.int .i64 n) :: (.agg #[.int .i64 (v.cls : Int), .bool v.neg, .bool v.x.neg, .slice p (dig B16 v.x.m).length c, .int .i64 v.x.e]) :: undef :: (.pointer (some ⟨w.heap.size, 0, none⟩)) :: (Go.Value.string (ByteArray.mk #[])) :: (.pointer (some ⟨V2.heap.size, 0, none⟩)) :: (.bool true) :: (.int .i64 0) :: (.slice none 0 0) :: (.bool v.neg) :: (.int .i64 1) :: (.int .i64 0) :: us 3 ((.tuple #[.agg #[.int .i64 (f.size : Int), .int .i64 (f.E : Int), .int .i64 (f.F : Int), .int .i64 f.g.rad, .int .i64 f.g.digs, .int .i64 f.g.lo, .int .i64 f.g.hi, .bool f.g.grad, .int .i64 (f.fam : Int)], .bool true]) :: (.int .i64 n) :: (.tuple #[.agg #[.int .i64 (f.size : Int), .int .i64 (f.E : Int), .int .i64 (f.F : Int), .int .i64 f.g.rad, .int .i64 f.g.digs, .int .i64 f.g.lo, .int .i64 f.g.hi, .bool f.g.grad, .int .i64 (f.fam : Int)], .bool true]) :: (.agg #[.int .i64 (f.size : Int), .int .i64 (f.E : Int), .int .i64 (f.F : Int), .int .i64 f.g.rad, .int .i64 f.g.digs, .int .i64 f.g.lo, .int .i64 f.g.hi, .bool f.g.grad, .int .i64 (f.fam : Int)]) :: (.bool true) :: (.pointer (some ⟨w.heap.size, 1, none⟩)) :: (.bool v.neg) :: us 114 [])).toArray, []⟩) (by kernel_rfl) ?_
 refine e0e (fun (gk : Nat) U0 a' w' => ∃ (i : Nat) (t : Nat), a' = ⟨((.int .i64 n) :: (.agg #[.int .i64 (v.cls : Int), .bool v.neg, .bool v.x.neg, .slice p (dig B16 v.x.m).length c, .int .i64 v.x.e]) :: undef :: (.pointer (some ⟨w.heap.size, 0, none⟩)) :: (Go.Value.string (ByteArray.mk #[])) :: (.pointer (some ⟨V2.heap.size, 0, none⟩)) :: (.bool true) :: (.int .i64 0) :: (.slice none 0 0) :: (.bool v.neg) :: (.int .i64 (t : Int)) :: (.int .i64 (i : Int)) :: us 3 ((.tuple #[.agg #[.int .i64 (f.size : Int), .int .i64 (f.E : Int), .int .i64 (f.F : Int), .int .i64 f.g.rad, .int .i64 f.g.digs, .int .i64 f.g.lo, .int .i64 f.g.hi, .bool f.g.grad, .int .i64 (f.fam : Int)], .bool true]) :: (.int .i64 n) :: (.tuple #[.agg #[.int .i64 (f.size : Int), .int .i64 (f.E : Int), .int .i64 (f.F : Int), .int .i64 f.g.rad, .int .i64 f.g.digs, .int .i64 f.g.lo, .int .i64 f.g.hi, .bool f.g.grad, .int .i64 (f.fam : Int)], .bool true]) :: (.agg #[.int .i64 (f.size : Int), .int .i64 (f.E : Int), .int .i64 (f.F : Int), .int .i64 f.g.rad, .int .i64 f.g.digs, .int .i64 f.g.lo, .int .i64 f.g.hi, .bool f.g.grad, .int .i64 (f.fam : Int)]) :: (.bool true) :: (.pointer (some ⟨w.heap.size, 1, none⟩)) :: (.bool v.neg) :: uvs U0 22 8 (us 106 []))).toArray, []⟩ ∧ Below V4.heap.size V4 w' ∧ (t = 2 ^ i) ∧ (gk + i = f.E)) f.E ?_ (fun Gx hGx => ?_)
 · exact ⟨0, 1, by kernel_rfl, Below.refl _ _, rfl, (by omega)⟩
 rintro gk0 U0 _ V5 ⟨i, t, rfl, hbV5, ht, hgk⟩
 refine hGx _ _ _ ?_
 clear hGx Gx
 have hzV5 := hbV5.size
 refine wp_seq ?_
 have ht15 : t ≤ 32768 := by rw [ht]; exact hpi i (by omega)
 refine ye ?_
 have b5_w5 := b5.past hbV5
 refine yl 2 rfl 24 b5_w5 hT3 1 ?_
 rcases Bool.eq_false_or_eq_true (decide ((i : Int) < (f.E : Int))) with f25 | f25
 · refine yb 0 rfl 25 (decide ((i : Int) < (f.E : Int))) (true) (f25) ?_
   refine yzt 0 ?_
   refine yT ?_
   refine wp_skip ?_
   refine a0h ?_
   refine wp_seq ?_
   refine wp_block ?_
   refine a0n ?_
   refine ya 1 rfl 29 .i64 ((2 : Int) * (t : Int)) (((2 * t : Nat) : Int)) ((by rw [show ((2 : Int) * (t : Int)) = ((2 * t : Nat) : Int) by omega]; exact iwo)) ?_
   refine yz 1 ?_
   refine a0p ?_
   refine a0h ?_
   refine a0n ?_
   refine ya 1 rfl 27 .i64 ((i : Int) + 1) (((i + 1 : Nat) : Int)) ((by rw [show ((i : Int) + 1) = ((i + 1 : Nat) : Int) by omega]; exact IntWalk.i64_in _ (by have := oTr f25; omega))) ?_
   refine yz 1 ?_
   refine a0h ?_
   refine ⟨gk0 - 1, (by have := oTr f25; omega), ?_⟩
   exact ⟨i + 1, 2 * t, by kernel_rfl, hbV5, (by rw [ht, hp2]), (by have := oTr f25; omega)⟩
 refine yb 0 rfl 25 (decide ((i : Int) < (f.E : Int))) (false) (f25) ?_
 refine yzt 0 ?_
 refine yF ?_
 refine wp_exit ?_
 repeat (with_reducible refine c0c ?_)
 refine f0z (id := 0) ?_
 refine a0h ?_
 have hiE : i = f.E := by have := oFa f25; omega
 have htP : t = 2 ^ f.E := by rw [ht, hiE]
 refine ye ?_
 refine ya 1 rfl 31 .i64 ((t : Int) - 1) (((t - 1 : Nat) : Int)) ((by rw [show ((t : Int) - 1) = ((t - 1 : Nat) : Int) by omega]; exact iwo)) ?_
 refine yzt 1 ?_
 refine wp_seq ?_
 refine ye ?_
 have b3_w5 := b3.past (a0a ((a0a hbV2 hbV3).trans (hOV4.below (by omega))) hbV5)
 refine yl 1 rfl 33 b3_w5 hT3 0 ?_
 refine yzt 0 ?_
 refine b1d (R := fun T2 a' w' => ∃ (e : Nat) (x : Nat) (g : Bool) (p8 : Option Addr) (c8 : Nat) (n8 : Nat), a' = ⟨((.int .i64 n) :: (.agg #[.int .i64 (v.cls : Int), .bool v.neg, .bool v.x.neg, .slice p (dig B16 v.x.m).length c, .int .i64 v.x.e]) :: undef :: (.pointer (some ⟨w.heap.size, 0, none⟩)) :: (Go.Value.string (ByteArray.mk #[])) :: (.pointer (some ⟨V2.heap.size, 0, none⟩)) :: (.bool true) :: (.int .i64 (e : Int)) :: (.slice p8 n8 c8) :: (.bool g) :: (.int .i64 ((t - 1 : Nat) : Int)) :: (.int .i64 (i : Int)) :: uvs T2 12 2 (undef :: (.tuple #[.agg #[.int .i64 (f.size : Int), .int .i64 (f.E : Int), .int .i64 (f.F : Int), .int .i64 f.g.rad, .int .i64 f.g.digs, .int .i64 f.g.lo, .int .i64 f.g.hi, .bool f.g.grad, .int .i64 (f.fam : Int)], .bool true]) :: (.int .i64 n) :: (.tuple #[.agg #[.int .i64 (f.size : Int), .int .i64 (f.E : Int), .int .i64 (f.F : Int), .int .i64 f.g.rad, .int .i64 f.g.digs, .int .i64 f.g.lo, .int .i64 f.g.hi, .bool f.g.grad, .int .i64 (f.fam : Int)], .bool true]) :: (.agg #[.int .i64 (f.size : Int), .int .i64 (f.E : Int), .int .i64 (f.F : Int), .int .i64 f.g.rad, .int .i64 f.g.digs, .int .i64 f.g.lo, .int .i64 f.g.hi, .bool f.g.grad, .int .i64 (f.fam : Int)]) :: (.bool true) :: (.pointer (some ⟨w.heap.size, 1, none⟩)) :: (.bool v.neg) :: (.int .i64 (i : Int)) :: (.pointer (some ⟨V2.heap.size, 1, none⟩)) :: (.int .i64 (f.E : Int)) :: (.bool false) :: uvs U0 26 4 ((.int .i64 (t : Int)) :: (.int .i64 ((t - 1 : Nat) : Int)) :: (.pointer (some ⟨w.heap.size, 0, none⟩)) :: (.int .i64 (v.cls : Int)) :: uvs T2 34 86 (us 16 [])))).toArray, []⟩ ∧ (Rf w' V5.heap.size p8 c8 (dig B16 x)) ∧ Below V5.heap.size V5 w' ∧ (n8 = (dig B16 x).length) ∧ (en = ⟨g, e, x⟩)) ?_ (fun Gx hGx => ?_)
 · refine wp_block ?_
   refine ye ?_
   rcases Bool.eq_false_or_eq_true ((v.cls : Int) == 2) with f35 | f35
   · refine yb 0 rfl 35 ((v.cls : Int) == 2) (true) (f35) ?_
     refine yzt 1 ?_
     refine yT ?_
     have c2 : v.cls = 2 := by have := beq_iff_eq.1 f35; omega
     obtain ⟨A, B, K, X, R⟩ := hN c2
     obtain ⟨hA, hB, ra1, ra2, rb1, rb2, rmx, rk1, rk2, rm1, rm2, rbl, re1, re2, rfl0, rxl, rnp⟩ := R
     rw [← e2 c2] at rnp
     generalize hmw : ((wid f.g : Nat) : Int) * K = mw at *
     refine ye ?_
     refine yla 1 rfl 37 b5_w5 hT54 3 ?_
     refine yc 0 rfl 38 (c0i f.g V5) (fun Gx hGx => ?_)
     rintro eV6 V6 ⟨rfl, hbV6⟩
     have hzV6 := hbV6.size
     refine ⟨_, rfl, hGx _ _ ?_⟩
     clear hGx Gx
     refine yzt 1 ?_
     refine wp_seq ?_
     have b5_w6 := b5.past (a0a hbV5 hbV6)
     have b3_w6 := b3.past (a0a (a0a ((a0a hbV2 hbV3).trans (hOV4.below (by omega))) hbV5) hbV6)
     obtain ⟨V7, hVV7, hbV7, hzV7⟩ := h0q V6
     have b5_w7 := b5.past (a0a (a0a hbV5 hbV6) hbV7)
     have b3_w7 := b3.past (a0a (a0a (a0a ((a0a hbV2 hbV3).trans (hOV4.below (by omega))) hbV5) hbV6) hbV7)
     refine yd2 hVV7 ⟨b5_w7, b3_w7⟩ ?_
     clear hVV7
     refine yt 23 [0, 1] rfl ⟨b5_w7, b3_w7⟩ ?_
     refine ytl 2 rfl 41 (fun _ h => h.1) hT3 5 ⟨b5_w7, b3_w7⟩ ?_
     refine yt 20 [3, 4] rfl ⟨b5_w7, b3_w7⟩ ?_
     refine ytl 5 rfl 44 (fun _ h => h.2) hT3 4 ⟨b5_w7, b3_w7⟩ ?_
     refine yt 17 [6, 7] rfl ⟨b5_w7, b3_w7⟩ ?_
     refine ytl 8 rfl 47 (fun _ h => h.2) hT28 3 ⟨b5_w7, b3_w7⟩ ?_
     refine yt 14 [13, 15] rfl ⟨b5_w7, b3_w7⟩ ?_
     refine tk 16 55 (.int .i64 B) ⟨b5_w7, b3_w7⟩ ?_ (hy := fun w' _ => (j0y (X := (80000)) (Y := ((wid f.g : Nat) : Int)) B (by kernel_rfl) (by kernel_rfl) (hwd) ((by rw [← hB]; exact iwo))))
     refine yt 11 [18, 19] rfl ⟨b5_w7, b3_w7⟩ ?_
     refine ytl 20 rfl 59 (fun _ h => h.1) hT3 4 ⟨b5_w7, b3_w7⟩ ?_
     refine sxr [9] ?_
     refine rd1 (fun Kx hKx => ?_)
     replace hp := (hp.past (a0a (a0a (a0a ((a0a (a0a hbV1 hbV2) hbV3).trans (hOV4.below (by omega))) hbV5) hbV6) hbV7))
     refine yck 48 (stay (d0x p _ c v.x.m V7 hp.rd rfl (by omega))) ?_
     rintro eV8 V8 ⟨rfl, hbV8⟩
     have hzV8 := hbV8.size
     refine ⟨_, rfl, ?_⟩
     have b5_w8 := b5.past (a0a (a0a (a0a hbV5 hbV6) hbV7) hbV8)
     have b3_w8 := b3.past (a0a (a0a (a0a (a0a ((a0a hbV2 hbV3).trans (hOV4.below (by omega))) hbV5) hbV6) hbV7) hbV8)
     refine hKx.out _ _ ⟨b5_w8, b3_w8⟩ ?_
     clear hKx Kx
     refine tk 10 49 (.int .i64 (v.x.e + ((blen v.x.m : Nat) : Int))) ⟨b5_w8, b3_w8⟩ ?_ (hy := fun w' _ => ((show _ = Result.ok (Next.value (.int .i64 (IntKind.wrap .i64 (v.x.e + ((blen v.x.m : Nat) : Int))))) _ by kernel_rfl).trans (congrArg (fun z => Result.ok (Next.value (.int .i64 z)) _) (iwo))))
     refine tk 11 50 (.int .i64 ((v.x.e + ((blen v.x.m : Nat) : Int)) - 1)) ⟨b5_w8, b3_w8⟩ ?_ (hy := fun w' _ => ((show _ = Result.ok (Next.value (.int .i64 (IntKind.wrap .i64 ((v.x.e + ((blen v.x.m : Nat) : Int)) - 1)))) _ by kernel_rfl).trans (congrArg (fun z => Result.ok (Next.value (.int .i64 z)) _) (iwo))))
     refine tk 12 51 (.int .i64 (((v.x.e + ((blen v.x.m : Nat) : Int)) - 1) + 80000)) ⟨b5_w8, b3_w8⟩ ?_ (hy := fun w' _ => ((show _ = Result.ok (Next.value (.int .i64 (IntKind.wrap .i64 (((v.x.e + ((blen v.x.m : Nat) : Int)) - 1) + 80000)))) _ by kernel_rfl).trans (congrArg (fun z => Result.ok (Next.value (.int .i64 z)) _) (iwo))))
     refine tk 14 53 (.int .i64 A) ⟨b5_w8, b3_w8⟩ ?_ (hy := fun w' _ => (j0y (X := (((v.x.e + ((blen v.x.m : Nat) : Int)) - 1) + 80000)) (Y := ((wid f.g : Nat) : Int)) A (by kernel_rfl) (by kernel_rfl) (hwd) ((by rw [← hA]; exact iwo))))
     refine tk 17 56 (.int .i64 (A - B)) ⟨b5_w8, b3_w8⟩ ?_ (hy := fun w' _ => ((show _ = Result.ok (Next.value (.int .i64 (IntKind.wrap .i64 (A - B)))) _ by kernel_rfl).trans (congrArg (fun z => Result.ok (Next.value (.int .i64 z)) _) (iwo))))
     refine tk 21 60 (.int .i64 ((A - B) - f.g.digs)) ⟨b5_w8, b3_w8⟩ ?_ (hy := fun w' _ => ((show _ = Result.ok (Next.value (.int .i64 (IntKind.wrap .i64 ((A - B) - f.g.digs)))) _ by kernel_rfl).trans (congrArg (fun z => Result.ok (Next.value (.int .i64 z)) _) (iwo))))
     refine tk 22 61 (.int .i64 (((A - B) - f.g.digs) + 1)) ⟨b5_w8, b3_w8⟩ ?_ (hy := fun w' _ => ((show _ = Result.ok (Next.value (.int .i64 (IntKind.wrap .i64 (((A - B) - f.g.digs) + 1)))) _ by kernel_rfl).trans (congrArg (fun z => Result.ok (Next.value (.int .i64 z)) _) (iwo))))
     refine tk 23 62 (.int .i64 K) ⟨b5_w8, b3_w8⟩ ?_ (hy := fun w' _ => ((show _ = Result.ok (Next.value (.int .i64 (if (((((A - B) - f.g.digs) + 1)) : Int) > (f.g.lo) then (((A - B) - f.g.digs) + 1) else f.g.lo))) _ by kernel_rfl).trans (congrArg (fun z => Result.ok (Next.value (.int .i64 z)) _) (((c1c _ _).trans rmx)))))
     refine yt 0 [24] rfl ⟨b5_w8, b3_w8⟩ ?_
     refine f0f (by kernel_rfl) ?_
     refine a0h ?_
     refine ye ?_
     refine yl 2 rfl 65 b3_w8 hT28 3 ?_
     refine yl 2 rfl 68 b3_w8 hT3 4 ?_
     refine ya 2 rfl 71 .i64 (((wid f.g : Nat) : Int) * K) (mw) ((by rw [hmw]; exact iwo)) ?_
     refine yi 0 rfl 72 (v.x.e - mw) ?_
     replace hp := (hp.past hbV8)
     refine yc 1 rfl 74 (l1e p _ c (v.x.e - mw) v.x.m X V8 hp.rd rfl (by omega) (by omega) rfl0) (fun Gx hGx => ?_)
     rintro eV9 V9 ⟨p74, c74, rfl, o74, hbV9⟩
     have hzV9 := hbV9.size
     have lo74 := fun h => o74.lt h
     refine ⟨_, rfl, hGx _ _ ?_⟩
     clear hGx Gx
     refine yzt 1 ?_
     refine ye ?_
     have b5_w9 := b5.past (a0a (a0a (a0a (a0a hbV5 hbV6) hbV7) hbV8) hbV9)
     refine yl 3 rfl 78 b5_w9 hT3 5 ?_
     refine ya 0 rfl 79 .i64 (K - f.g.lo) ((((K - f.g.lo).toNat : Nat) : Int)) ((by rw [show (((K - f.g.lo).toNat : Nat) : Int) = K - f.g.lo by omega]; exact iwo)) ?_
     refine yzt 1 ?_
     refine ye ?_
     refine yl 1 rfl 81 b5_w9 hT3 8 ?_
     rcases Bool.eq_false_or_eq_true ((f.fam : Int) != 2) with f82 | f82
     · refine yb 0 rfl 82 ((f.fam : Int) != 2) (true) (f82) ?_
       refine yzt 0 ?_
       refine yT ?_
       refine wp_seq ?_
       by_cases h88 : ((blen X : Nat) : Int) = f.g.digs
       · obtain ⟨V10, hVV10, hbV10, hzV10⟩ := h0q V9
         have b5_w10 := b5.past (a0a (a0a (a0a (a0a (a0a hbV5 hbV6) hbV7) hbV8) hbV9) hbV10)
         refine yd1 hVV10 b5_w10 ?_
         clear hVV10
         refine yt 3 [0, 2, 3] rfl b5_w10 ?_
         refine ytl 4 rfl 87 (fun _ h => h) hT3 4 b5_w10 ?_
         refine sxr [1] ?_
         refine rd1 (fun Kx hKx => ?_)
         replace o74 := (o74.past hbV10)
         refine yck 84 (stay (d0x p74 _ c74 X V10 o74.rd rfl (by omega))) ?_
         rintro eV11 V11 ⟨rfl, hbV11⟩
         have hzV11 := hbV11.size
         refine ⟨_, rfl, ?_⟩
         have b5_w11 := b5.past (a0a (a0a (a0a (a0a (a0a (a0a hbV5 hbV6) hbV7) hbV8) hbV9) hbV10) hbV11)
         refine hKx.out _ _ b5_w11 ?_
         clear hKx Kx
         refine tk 5 88 (.bool true) b5_w11 ?_ (hy := fun w' _ => ((show _ = Result.ok (Next.value (.bool (((blen X : Nat) : Int) == f.g.digs))) _ from (by kernel_rfl)).trans (congrArg (fun z => Result.ok (Next.value (.bool z)) _) (show (((blen X : Nat) : Int) == f.g.digs) = true from beq_iff_eq.2 h88))))
         refine f0f (by kernel_rfl) ?_
         refine a0h ?_
         refine yT ?_
         refine ye ?_
         refine ya 1 rfl 90 .i64 ((((K - f.g.lo).toNat : Nat) : Int) + 1) ((((K - f.g.lo).toNat + 1 : Nat) : Int)) ((by rw [show ((((K - f.g.lo).toNat : Nat) : Int) + 1) = (((K - f.g.lo).toNat + 1 : Nat) : Int) by omega]; exact iwo)) ?_
         refine yzt 1 ?_
         refine ye ?_
         rcases Bool.eq_false_or_eq_true (n != 3) with f92 | f92
         · refine yb 1 rfl 92 (n != 3) (true) (f92) ?_
           refine yzt 0 ?_
           refine yT ?_
           refine a0n ?_
           refine yl 3 rfl 96 b5_w11 hT3 4 ?_
           refine ya 0 rfl 97 .i64 (f.g.digs - 1) ((dN : Int)) ((by rw [hdN]; exact iwo)) ?_
           refine yc 0 rfl 98 (s0x (dN : Int) dN rfl (by omega) V11) (fun Gx hGx => ?_)
           rintro eV12 V12 ⟨p98, c98, rfl, o98, hbV12⟩
           have hzV12 := hbV12.size
           have lo98 := fun h => o98.lt h
           refine ⟨_, rfl, hGx _ _ ?_⟩
           clear hGx Gx
           replace o74 := (o74.past (a0a hbV11 hbV12))
           refine yc 0 rfl 99 (i1h p74 p98 _ _ c74 c98 X (2 ^ dN) (X - 2 ^ dN) V12 o74.rd o98.rd rfl rfl (by omega) (hge X h88) rfl) (fun Gx hGx => ?_)
           rintro eV13 V13 ⟨p99, c99, rfl, o99, hbV13⟩
           have hzV13 := hbV13.size
           have lo99 := fun h => o99.lt h
           refine ⟨_, rfl, hGx _ _ ?_⟩
           clear hGx Gx
           refine yz 1 ?_
           refine a0p ?_
           exact ⟨rfl, (K - f.g.lo).toNat + 1, X - 2 ^ dN, v.neg, p99, c99, (dig B16 (X - 2 ^ dN)).length, by kernel_rfl, o99.mono (by omega), (a0a (a0a (a0a (a0a (a0a (a0a (a0a hbV6 hbV7) hbV8) hbV9) hbV10) hbV11) hbV12) hbV13), rfl, (by have c3 : n ≠ 3 := bne_iff_ne.1 f92; have cx : f.ext = false := (by rw [hext]; exact dFa c3); have cf : f.fam ≠ 2 := (by have := bne_iff_ne.1 f82; omega); have cF := hd1F cf cx; rw [rnp, if_neg cf, if_pos h88, hsn c2, if_neg (by rw [cx]; simp), show dN = f.F by omega])⟩
         refine yb 1 rfl 92 (n != 3) (false) (f92) ?_
         refine yzt 0 ?_
         refine yF ?_
         refine wp_skip ?_
         refine a0p ?_
         replace o74 := (o74.past hbV11)
         exact ⟨rfl, (K - f.g.lo).toNat + 1, X, v.neg, p74, c74, (dig B16 X).length, by kernel_rfl, o74.mono (by omega), (a0a (a0a (a0a (a0a (a0a hbV6 hbV7) hbV8) hbV9) hbV10) hbV11), rfl, (by have c3 : n = 3 := (by simpa using f92); have cx : f.ext = true := (by rw [hext]; exact dTr c3); have cf : f.fam ≠ 2 := (by have := bne_iff_ne.1 f82; omega); rw [rnp, if_neg cf, if_pos h88, hsn c2, if_pos cx])⟩
       obtain ⟨V10, hVV10, hbV10, hzV10⟩ := h0q V9
       have b5_w10 := b5.past (a0a (a0a (a0a (a0a (a0a hbV5 hbV6) hbV7) hbV8) hbV9) hbV10)
       refine yd1 hVV10 b5_w10 ?_
       clear hVV10
       refine yt 3 [0, 2, 3] rfl b5_w10 ?_
       refine ytl 4 rfl 87 (fun _ h => h) hT3 4 b5_w10 ?_
       refine sxr [1] ?_
       refine rd1 (fun Kx hKx => ?_)
       replace o74 := (o74.past hbV10)
       refine yck 84 (stay (d0x p74 _ c74 X V10 o74.rd rfl (by omega))) ?_
       rintro eV11 V11 ⟨rfl, hbV11⟩
       have hzV11 := hbV11.size
       refine ⟨_, rfl, ?_⟩
       have b5_w11 := b5.past (a0a (a0a (a0a (a0a (a0a (a0a hbV5 hbV6) hbV7) hbV8) hbV9) hbV10) hbV11)
       refine hKx.out _ _ b5_w11 ?_
       clear hKx Kx
       refine tk 5 88 (.bool false) b5_w11 ?_ (hy := fun w' _ => ((show _ = Result.ok (Next.value (.bool (((blen X : Nat) : Int) == f.g.digs))) _ from (by kernel_rfl)).trans (congrArg (fun z => Result.ok (Next.value (.bool z)) _) (show (((blen X : Nat) : Int) == f.g.digs) = false from bFn h88))))
       refine f0f (by kernel_rfl) ?_
       refine a0h ?_
       refine yF ?_
       refine wp_skip ?_
       refine a0p ?_
       replace o74 := (o74.past hbV11)
       exact ⟨rfl, (K - f.g.lo).toNat, X, v.neg, p74, c74, (dig B16 X).length, by kernel_rfl, o74.mono (by omega), (a0a (a0a (a0a (a0a (a0a hbV6 hbV7) hbV8) hbV9) hbV10) hbV11), rfl, (by have cf : f.fam ≠ 2 := (by have := bne_iff_ne.1 f82; omega); rw [rnp, if_neg cf, if_neg h88, hsn c2])⟩
     refine yb 0 rfl 82 ((f.fam : Int) != 2) (false) (f82) ?_
     refine yzt 0 ?_
     refine yF ?_
     refine wp_skip ?_
     refine a0p ?_
     exact ⟨rfl, (K - f.g.lo).toNat, X, v.neg, p74, c74, (dig B16 X).length, by kernel_rfl, o74.mono (by omega), (a0a (a0a (a0a hbV6 hbV7) hbV8) hbV9), rfl, (by have cf : f.fam = 2 := (by have h82 : (f.fam : Int) = 2 := (by simpa using f82); omega); rw [rnp, if_pos cf, hsn c2])⟩
   refine yb 0 rfl 35 ((v.cls : Int) == 2) (false) (f35) ?_
   refine yzt 1 ?_
   refine yF ?_
   refine ye ?_
   rcases Bool.eq_false_or_eq_true ((v.cls : Int) == 3) with f101 | f101
   · refine yb 0 rfl 101 ((v.cls : Int) == 3) (true) (f101) ?_
     refine yzt 1 ?_
     refine yT ?_
     refine yq ?_
     refine ye ?_
     rcases Bool.eq_false_or_eq_true (n == 3) with f104 | f104
     · refine yb 1 rfl 104 (n == 3) (true) (f104) ?_
       refine yzt 0 ?_
       refine yT ?_
       refine a0n ?_
       refine yc 0 rfl 105 (s0x 63 63 rfl (by omega) V5) (fun Gx hGx => ?_)
       rintro eV6 V6 ⟨p105, c105, rfl, o105, hbV6⟩
       have hzV6 := hbV6.size
       have lo105 := fun h => o105.lt h
       refine ⟨_, rfl, hGx _ _ ?_⟩
       clear hGx Gx
       refine yz 1 ?_
       refine a0p ?_
       exact ⟨rfl, t - 1, 2 ^ 63, v.neg, p105, c105, (dig B16 (2 ^ 63)).length, by kernel_rfl, o105.mono (by omega), hbV6, rfl, (by have c3 : n = 3 := beq_iff_eq.1 f104; have cx : f.ext = true := (by rw [hext]; exact dTr c3); rw [e3 (by have := beq_iff_eq.1 f101; omega), if_pos cx, htP])⟩
     refine yb 1 rfl 104 (n == 3) (false) (f104) ?_
     refine yzt 0 ?_
     refine yF ?_
     refine wp_skip ?_
     refine a0p ?_
     exact ⟨rfl, t - 1, 0, v.neg, none, 0, 0, by kernel_rfl, (by rw [a0c]; exact m0p _ _ _), (Below.refl _ _), (by rw [a0c]; rfl), (by have c3 : n ≠ 3 := bnF f104; have cx : f.ext = false := (by rw [hext]; exact dFa c3); rw [e3 (by have := beq_iff_eq.1 f101; omega), if_neg (by rw [cx]; simp), htP])⟩
   refine yb 0 rfl 101 ((v.cls : Int) == 3) (false) (f101) ?_
   refine yzt 1 ?_
   refine yF ?_
   refine ye ?_
   rcases Bool.eq_false_or_eq_true ((v.cls : Int) == 4) with f107 | f107
   · refine yb 0 rfl 107 ((v.cls : Int) == 4) (true) (f107) ?_
     refine yzt 1 ?_
     refine yT ?_
     refine ye ?_
     refine yl 2 rfl 110 b5_w5 hT3 2 ?_
     refine ya 0 rfl 111 .i64 ((f.F : Int) - 1) (((f.F - 1 : Nat) : Int)) ((by rw [show ((f.F : Int) - 1) = ((f.F - 1 : Nat) : Int) by omega]; exact iwo)) ?_
     refine yc 0 rfl 112 (s0x ((f.F - 1 : Nat) : Int) (f.F - 1) rfl (by omega) V5) (fun Gx hGx => ?_)
     rintro eV6 V6 ⟨p112, c112, rfl, o112, hbV6⟩
     have hzV6 := hbV6.size
     have lo112 := fun h => o112.lt h
     refine ⟨_, rfl, hGx _ _ ?_⟩
     clear hGx Gx
     refine yzt 2 ?_
     refine ye ?_
     rcases Bool.eq_false_or_eq_true (n == 3) with f114 | f114
     · refine yb 1 rfl 114 (n == 3) (true) (f114) ?_
       refine yzt 0 ?_
       refine yT ?_
       refine a0n ?_
       refine yc 0 rfl 115 (s0x 63 63 rfl (by omega) V6) (fun Gx hGx => ?_)
       rintro eV7 V7 ⟨p115, c115, rfl, o115, hbV7⟩
       have hzV7 := hbV7.size
       have lo115 := fun h => o115.lt h
       refine ⟨_, rfl, hGx _ _ ?_⟩
       clear hGx Gx
       refine yc 0 rfl 116 (s0x 62 62 rfl (by omega) V7) (fun Gx hGx => ?_)
       rintro eV8 V8 ⟨p116, c116, rfl, o116, hbV8⟩
       have hzV8 := hbV8.size
       have lo116 := fun h => o116.lt h
       refine ⟨_, rfl, hGx _ _ ?_⟩
       clear hGx Gx
       replace o115 := (o115.past hbV8)
       refine yc 0 rfl 117 (f1b p115 p116 _ _ c115 c116 (2 ^ 63) (2 ^ 62) (2 ^ 63 + 2 ^ 62) V8 o115.rd o116.rd rfl rfl (by omega) (by omega) rfl) (fun Gx hGx => ?_)
       rintro eV9 V9 ⟨p117, c117, rfl, o117, hbV9⟩
       have hzV9 := hbV9.size
       have lo117 := fun h => o117.lt h
       refine ⟨_, rfl, hGx _ _ ?_⟩
       clear hGx Gx
       refine yz 1 ?_
       refine a0p ?_
       exact ⟨rfl, t - 1, 2 ^ 63 + 2 ^ 62, v.neg, p117, c117, (dig B16 (2 ^ 63 + 2 ^ 62)).length, by kernel_rfl, o117.mono (by omega), (a0a (a0a (a0a hbV6 hbV7) hbV8) hbV9), rfl, (by have c3 : n = 3 := beq_iff_eq.1 f114; have cx : f.ext = true := (by rw [hext]; exact dTr c3); rw [e4 (by have := beq_iff_eq.1 f107; omega), if_pos cx, htP])⟩
     refine yb 1 rfl 114 (n == 3) (false) (f114) ?_
     refine yzt 0 ?_
     refine yF ?_
     refine wp_skip ?_
     refine a0p ?_
     exact ⟨rfl, t - 1, 2 ^ (f.F - 1), v.neg, p112, c112, (dig B16 (2 ^ (f.F - 1))).length, by kernel_rfl, o112.mono (by omega), hbV6, rfl, (by have c3 : n ≠ 3 := bnF f114; have cx : f.ext = false := (by rw [hext]; exact dFa c3); rw [e4 (by have := beq_iff_eq.1 f107; omega), if_neg (by rw [cx]; simp), htP])⟩
   refine yb 0 rfl 107 ((v.cls : Int) == 4) (false) (f107) ?_
   refine yzt 1 ?_
   refine yF ?_
   refine ye ?_
   rcases Bool.eq_false_or_eq_true ((v.cls : Int) == 5) with f119 | f119
   · refine yb 0 rfl 119 ((v.cls : Int) == 5) (true) (f119) ?_
     refine yzt 1 ?_
     refine yT ?_
     refine yr ?_
     refine a0p ?_
     exact ⟨rfl, 0, 0, true, none, 0, 0, by kernel_rfl, (by rw [a0c]; exact m0p _ _ _), (Below.refl _ _), (by rw [a0c]; rfl), (by rw [e5 (by have := beq_iff_eq.1 f119; omega)])⟩
   refine yb 0 rfl 119 ((v.cls : Int) == 5) (false) (f119) ?_
   refine yzt 1 ?_
   refine yF ?_
   refine wp_skip ?_
   refine a0p ?_
   exact ⟨rfl, 0, 0, v.neg, none, 0, 0, by kernel_rfl, (by rw [a0c]; exact m0p _ _ _), (Below.refl _ _), (by rw [a0c]; rfl), (by rw [e1 (by have := bnF f35; omega) (by have := bnF f101; omega) (by have := bnF f107; omega) (by have := bnF f119; omega)])⟩
 rintro T2 _ V6 ⟨e, x, g, p8, c8, n8, rfl, o8, hbV6, hn8, hP⟩
 refine hGx _ _ ?_
 clear hGx Gx
 have hzV6 := hbV6.size
 have lo8 := fun h => o8.lt h
 refine a0h ?_
 refine wp_seq ?_
 refine b1d (R := fun T7 a' w' => ∃ (p123 : Option Addr) (c123 : Nat) (p126 : Option Addr) (c126 : Nat) (p127 : Option Addr) (c127 : Nat), a' = ⟨((.int .i64 n) :: (.agg #[.int .i64 (v.cls : Int), .bool v.neg, .bool v.x.neg, .slice p (dig B16 v.x.m).length c, .int .i64 v.x.e]) :: undef :: (.pointer (some ⟨w.heap.size, 0, none⟩)) :: (Go.Value.string (ByteArray.mk #[])) :: (.pointer (some ⟨V2.heap.size, 0, none⟩)) :: (.bool true) :: (.int .i64 (e : Int)) :: (.slice p8 n8 c8) :: (.bool g) :: (.int .i64 ((t - 1 : Nat) : Int)) :: (.int .i64 (i : Int)) :: uvs T2 12 2 ((.slice p127 (1 + f.E) c127) :: (.tuple #[.agg #[.int .i64 (f.size : Int), .int .i64 (f.E : Int), .int .i64 (f.F : Int), .int .i64 f.g.rad, .int .i64 f.g.digs, .int .i64 f.g.lo, .int .i64 f.g.hi, .bool f.g.grad, .int .i64 (f.fam : Int)], .bool true]) :: (.int .i64 n) :: (.tuple #[.agg #[.int .i64 (f.size : Int), .int .i64 (f.E : Int), .int .i64 (f.F : Int), .int .i64 f.g.rad, .int .i64 f.g.digs, .int .i64 f.g.lo, .int .i64 f.g.hi, .bool f.g.grad, .int .i64 (f.fam : Int)], .bool true]) :: (.agg #[.int .i64 (f.size : Int), .int .i64 (f.E : Int), .int .i64 (f.F : Int), .int .i64 f.g.rad, .int .i64 f.g.digs, .int .i64 f.g.lo, .int .i64 f.g.hi, .bool f.g.grad, .int .i64 (f.fam : Int)]) :: (.bool true) :: (.pointer (some ⟨w.heap.size, 1, none⟩)) :: (.bool v.neg) :: (.int .i64 (i : Int)) :: (.pointer (some ⟨V2.heap.size, 1, none⟩)) :: (.int .i64 (f.E : Int)) :: (.bool false) :: uvs U0 26 4 ((.int .i64 (t : Int)) :: (.int .i64 ((t - 1 : Nat) : Int)) :: (.pointer (some ⟨w.heap.size, 0, none⟩)) :: (.int .i64 (v.cls : Int)) :: uvs T2 34 86 ((.bool g) :: (T7 121) :: (.int .i64 (e : Int)) :: (.slice p123 (dig B16 e).length c123) :: (.pointer (some ⟨V2.heap.size, 1, none⟩)) :: (.int .i64 (f.E : Int)) :: (.slice p126 (f0y e f.E).length c126) :: (.slice p127 (1 + f.E) c127) :: us 8 [])))).toArray, []⟩ ∧ OwnV w' V6.heap.size 4 p127 c127 ([Value.bool g] ++ (f0y e f.E).map Value.bool) ∧ Below V6.heap.size V6 w') ?_ (fun Gx hGx => ?_)
 · have b5_w6 := b5.past (a0a hbV5 hbV6)
   obtain ⟨V7, hVV7, hbV7, hzV7⟩ := h0q V6
   have b5_w7 := b5.past (a0a (a0a hbV5 hbV6) hbV7)
   refine yd1 hVV7 b5_w7 ?_
   clear hVV7
   refine yt 6 [0, 2, 4] rfl b5_w7 ?_
   refine ytl 5 rfl 125 (fun _ h => h) hT3 1 b5_w7 ?_
   refine sxr [1, 3] ?_
   refine rd2 (fun Kx hKx => ?_) ?_
   · refine snvk 121 (.slice (some ⟨V7.heap.size, 0, none⟩) 1 1) #[.bool g] 4 (fun V8 hbV8 hzV8 b121 => ?_)
     have b5_w8 := b5.past (a0a (a0a (a0a hbV5 hbV6) hbV7) hbV8)
     refine hKx.out _ _ b5_w8 ?_
     clear hKx Kx
     refine sxr [3] ?_
     refine rd1 (fun Kx hKx => ?_)
     refine yck 123 (f1a (e : Int) e rfl (by rw [hP] at hlt; have := hlt.1; simp only at this; omega) V8) ?_
     rintro eV9 V9 ⟨p123, c123, rfl, o123, hbV9⟩
     have hzV9 := hbV9.size
     have lo123 := fun h => o123.lt h
     refine ⟨_, rfl, ?_⟩
     have b5_w9 := b5.past (a0a (a0a (a0a (a0a hbV5 hbV6) hbV7) hbV8) hbV9)
     refine hKx.out _ _ b5_w9 ?_
     clear hKx Kx
     refine sxr [6] ?_
     refine rd1 (fun Kx hKx => ?_)
     refine yck 126 (e0g e f.E p123 c123 _ V9 o123 (by have := (hel _ _ _ hP).1; omega) (by omega)) ?_
     rintro eV10 V10 ⟨p126, c126, rfl, o126, hbV10⟩
     have hzV10 := hbV10.size
     refine ⟨_, rfl, ?_⟩
     have b5_w10 := b5.past (a0a (a0a (a0a (a0a (a0a hbV5 hbV6) hbV7) hbV8) hbV9) hbV10)
     refine hKx.out _ _ b5_w10 ?_
     clear hKx Kx
     refine sxr [7] ?_
     refine rd1 (fun Kx hKx => ?_)
     replace b121 := (b121.past (a0a hbV9 hbV10))
     refine i1i 127 d0d V6.heap.size (some ⟨V7.heap.size, 0, none⟩) 1 1 [Value.bool g] (k0z b121 (by omega) (by show 1 ≤ maxLen; decide)) rfl p126 _ c126 _ (OwnV.rd o126) (by rw [List.length_map]) (l0y _) (by simp [b0d] <;> omega) (by omega) (1 + f.E) (by simp [b0d] <;> omega) (fun p127 c127 V11 o127 hjV11 => ?_)
     have hbV11 : Below V6.heap.size V6 V11 := (a0a (a0a (a0a hbV7 hbV8) hbV9) hbV10).trans (hjV11.mono (by omega))
     have hzV11 := hbV11.size
     have b5_w11 := b5.past (a0a (a0a hbV5 hbV6) hbV11)
     refine hKx.out _ _ b5_w11 ?_
     clear hKx Kx
     refine yt 0 [8] rfl b5_w11 ?_
     refine f0f (by kernel_rfl) ?_
     exact ⟨rfl, p123, c123, p126, c126, p127, c127, by kernel_rfl, (o127.mono (by omega)), hbV11⟩
   refine rd1 (fun Kx hKx => ?_)
   refine yck 123 (f1a (e : Int) e rfl (by rw [hP] at hlt; have := hlt.1; simp only at this; omega) V7) ?_
   rintro eV8 V8 ⟨p123, c123, rfl, o123, hbV8⟩
   have hzV8 := hbV8.size
   have lo123 := fun h => o123.lt h
   refine ⟨_, rfl, ?_⟩
   have b5_w8 := b5.past (a0a (a0a (a0a hbV5 hbV6) hbV7) hbV8)
   refine hKx.out _ _ b5_w8 ?_
   clear hKx Kx
   refine sxr [1, 6] ?_
   refine rd2 (fun Kx hKx => ?_) ?_
   · refine snvk 121 (.slice (some ⟨V8.heap.size, 0, none⟩) 1 1) #[.bool g] 4 (fun V9 hbV9 hzV9 b121 => ?_)
     have b5_w9 := b5.past (a0a (a0a (a0a (a0a hbV5 hbV6) hbV7) hbV8) hbV9)
     refine hKx.out _ _ b5_w9 ?_
     clear hKx Kx
     refine sxr [6] ?_
     refine rd1 (fun Kx hKx => ?_)
     replace o123 := (o123.past hbV9)
     refine yck 126 (e0g e f.E p123 c123 _ V9 o123 (by have := (hel _ _ _ hP).1; omega) (by omega)) ?_
     rintro eV10 V10 ⟨p126, c126, rfl, o126, hbV10⟩
     have hzV10 := hbV10.size
     refine ⟨_, rfl, ?_⟩
     have b5_w10 := b5.past (a0a (a0a (a0a (a0a (a0a hbV5 hbV6) hbV7) hbV8) hbV9) hbV10)
     refine hKx.out _ _ b5_w10 ?_
     clear hKx Kx
     refine sxr [7] ?_
     refine rd1 (fun Kx hKx => ?_)
     replace b121 := (b121.past hbV10)
     refine i1i 127 d0d V6.heap.size (some ⟨V8.heap.size, 0, none⟩) 1 1 [Value.bool g] (k0z b121 (by omega) (by show 1 ≤ maxLen; decide)) rfl p126 _ c126 _ (OwnV.rd o126) (by rw [List.length_map]) (l0y _) (by simp [b0d] <;> omega) (by omega) (1 + f.E) (by simp [b0d] <;> omega) (fun p127 c127 V11 o127 hjV11 => ?_)
     have hbV11 : Below V6.heap.size V6 V11 := (a0a (a0a (a0a hbV7 hbV8) hbV9) hbV10).trans (hjV11.mono (by omega))
     have hzV11 := hbV11.size
     have b5_w11 := b5.past (a0a (a0a hbV5 hbV6) hbV11)
     refine hKx.out _ _ b5_w11 ?_
     clear hKx Kx
     refine yt 0 [8] rfl b5_w11 ?_
     refine f0f (by kernel_rfl) ?_
     exact ⟨rfl, p123, c123, p126, c126, p127, c127, by kernel_rfl, (o127.mono (by omega)), hbV11⟩
   refine rd1 (fun Kx hKx => ?_)
   refine yck 126 (e0g e f.E p123 c123 _ V8 o123 (by have := (hel _ _ _ hP).1; omega) (by omega)) ?_
   rintro eV9 V9 ⟨p126, c126, rfl, o126, hbV9⟩
   have hzV9 := hbV9.size
   refine ⟨_, rfl, ?_⟩
   have b5_w9 := b5.past (a0a (a0a (a0a (a0a hbV5 hbV6) hbV7) hbV8) hbV9)
   refine hKx.out _ _ b5_w9 ?_
   clear hKx Kx
   refine sxr [1] ?_
   refine rd1 (fun Kx hKx => ?_)
   refine snvk 121 (.slice (some ⟨V9.heap.size, 0, none⟩) 1 1) #[.bool g] 4 (fun V10 hbV10 hzV10 b121 => ?_)
   have b5_w10 := b5.past (a0a (a0a (a0a (a0a (a0a hbV5 hbV6) hbV7) hbV8) hbV9) hbV10)
   refine hKx.out _ _ b5_w10 ?_
   clear hKx Kx
   refine sxr [7] ?_
   refine rd1 (fun Kx hKx => ?_)
   replace o126 := (o126.past hbV10)
   refine i1i 127 d0d V6.heap.size (some ⟨V9.heap.size, 0, none⟩) 1 1 [Value.bool g] (k0z b121 (by omega) (by show 1 ≤ maxLen; decide)) rfl p126 _ c126 _ (OwnV.rd o126) (by rw [List.length_map]) (l0y _) (by simp [b0d] <;> omega) (by omega) (1 + f.E) (by simp [b0d] <;> omega) (fun p127 c127 V11 o127 hjV11 => ?_)
   have hbV11 : Below V6.heap.size V6 V11 := (a0a (a0a (a0a hbV7 hbV8) hbV9) hbV10).trans (hjV11.mono (by omega))
   have hzV11 := hbV11.size
   have b5_w11 := b5.past (a0a (a0a hbV5 hbV6) hbV11)
   refine hKx.out _ _ b5_w11 ?_
   clear hKx Kx
   refine yt 0 [8] rfl b5_w11 ?_
   refine f0f (by kernel_rfl) ?_
   exact ⟨rfl, p123, c123, p126, c126, p127, c127, by kernel_rfl, (o127.mono (by omega)), hbV11⟩
 rintro T7 _ V7 ⟨p123, c123, p126, c126, p127, c127, rfl, o127, hbV7⟩
 refine hGx _ _ ?_
 clear hGx Gx
 have hzV7 := hbV7.size
 refine a0h ?_
 refine ye ?_
 have b5_w7 := b5.past (a0a (a0a hbV5 hbV6) hbV7)
 refine yl 4 rfl 132 b5_w7 hT3 2 ?_
 replace o8 := (o8.past hbV7)
 refine yc 0 rfl 133 (t0b x f.F p8 n8 c8 _ V7 hn8 o8 (by have := (hel _ _ _ hP).2; omega) (by omega)) (fun Gx hGx => ?_)
 rintro eV8 V8 ⟨p133, c133, rfl, o133, hbV8⟩
 have hzV8 := hbV8.size
 refine ⟨_, rfl, hGx _ _ ?_⟩
 clear hGx Gx
 replace o127 := (o127.past hbV8)
 refine sapv 134 d0d V6.heap.size p127 (1 + f.E) c127 _ o127 (by simp [b0d] <;> omega) p133 _ c133 _ (OwnV.rd o133) (by rw [List.length_map]) (l0y _) (by simp [b0d] <;> omega) (by omega) (1 + f.E + f.F) (by simp [b0d] <;> omega) (fun p134 c134 V9 o134 hjV9 => ?_)
 have hbV9 : Below V6.heap.size V6 V9 := (a0a hbV7 hbV8).trans (hjV9.mono (by omega))
 have hzV9 := hbV9.size
 refine yc 0 rfl 135 ((HPT (f.bits g e x) (1 + f.E + f.F) p134 c134 V9 (by have h := OwnV.rd o134; simpa [Fm.bits] using h) (by rw [hbl]) (by rw [hbl]; omega)).out) (fun Gx hGx => ?_)
 rintro eV10 V10 ⟨L, rfl, hL, hD, hbV10⟩
 have hzV10 := hbV10.size
 refine ⟨_, rfl, hGx _ _ ?_⟩
 clear hGx Gx
 refine yzt 1 ?_
 refine wp_ret ?_
 repeat (first | with_reducible refine a0r ?_ | with_reducible refine a0o ?_)
 refine yret (.string (b0k L)) (res1 Tryz.results54 rvt) ?_
 rw [hP] at hstr ⊢
 exact ⟨by rw [hstr L hL hD], (a0a (a0a (a0a (a0a ((a0a (a0a hbV1 hbV2) hbV3).trans (hOV4.below (by omega))) hbV5) hbV6) hbV9) hbV10)⟩
end Go.Proofs.YtmacohmclpnphaaGreatDoor
namespace Go.Slip
theorem w0s (g : Bool) (x : Int) : bare ⟨g, 0, x⟩ = ⟨false, 0, 0⟩ := by unfold bare; simp
def rv (neg : Bool) (num den : Nat) (e : Int) (g : Gd) (way : Int) : Dv := bare ⟨(a0l neg num den e g way).neg, (a0l neg num den e g way).d, wid g * (a0l neg num den e g way).pow⟩
theorem c1l (neg : Bool) (den : Nat) (e : Int) (g : Gd) (way : Int) : rv neg 0 den e g way = ⟨false, 0, 0⟩ := by
 unfold rv a0l
 rw [if_pos rfl]
 exact w0s _ _
def okP (p : Pl) (g : Gd) : Bool := !p.over && (!p.under || g.grad)
theorem m1i {neg : Bool} {num den : Nat} {e : Int} {g : Gd} {way : Int} (hd : 0 < den) (G : h0g g) (hok : okP (a0l neg num den e g way) g = true) : b0n (rv neg num den e g way) g = true := by
 by_cases h0 : num = 0
 · subst h0; rw [c1l]; rfl
 · have hK := m0k (num := num) (by omega) hd e (w := wid g) (D := g.digs.toNat) (b0c g).1 (by have := G.d1; omega)
   have hD : 1 ≤ g.digs.toNat := by have := G.d1; omega
   unfold rv a0l at *
   rw [if_neg h0] at *
   generalize theK num den e (wid g) g.digs.toNat = K at *
   have hq := q_lt hd hD (a1a hd hK (z0z g K))
   have hover : powP neg num den e (wid g) g.digs.toNat way (powK g K) ≤ g.hi := by
    unfold okP at hok
    have : (fitK neg num den e g way K).over = decide (g.hi < powP neg num den e (wid g) g.digs.toNat way (powK g K)) := rfl
    rw [this] at hok
    simp only [Bool.and_eq_true, Bool.not_eq_true', decide_eq_false_iff_not] at hok
    omega
   have hunder : g.lo ≤ K ∨ g.grad = true := by
    unfold okP at hok
    have : (fitK neg num den e g way K).under = decide (K < g.lo) := rfl
    rw [this] at hok
    simp only [Bool.and_eq_true, Bool.or_eq_true, Bool.not_eq_true', decide_eq_false_iff_not] at hok
    rcases hok.2 with h | h
    · left; omega
    · right; exact h
   show b0n (bare ⟨neg, digP neg num den e (wid g) g.digs.toNat way (powK g K), wid g * (if digP neg num den e (wid g) g.digs.toNat way (powK g K) = 0 then 0 else powP neg num den e (wid g) g.digs.toNat way (powK g K))⟩) g = true
   by_cases hd0 : digP neg num den e (wid g) g.digs.toNat way (powK g K) = 0
   · rw [hd0, w0s]; rfl
   · rw [if_neg hd0, ← h0m]
     have hDD : g.digs = (g.digs.toNat : Int) := by have := G.d1; omega
     have habs : (sg neg (digP neg num den e (wid g) g.digs.toNat way (powK g K))).natAbs = digP neg num den e (wid g) g.digs.toNat way (powK g K) := by unfold sg; cases neg <;> simp
     have hlow : g.lo ≤ powK g K ∧ (2 ^ (wid g * (g.digs.toNat - 1)) ≤ qP num den (e - wid g * powK g K) ∨ (g.grad = true ∧ powK g K = g.lo)) := by
      by_cases hu : K < g.lo
      · have hg : g.grad = true := by rcases hunder with h | h; omega; exact h
        have : powK g K = g.lo := by unfold powK; rw [if_pos ⟨hu, hg⟩]
        exact ⟨by omega, .inr ⟨hg, this⟩⟩
      · have : powK g K = K := by unfold powK; rw [if_neg (fun h => hu h.1)]
        rw [this]
        exact ⟨by omega, .inl hK.yes⟩
     have hww : wid g * (g.digs.toNat - 1) < wid g * g.digs.toNat := Nat.mul_lt_mul_of_pos_left (by omega) (b0c g).1
     refine i0w G hDD ?_ ?_ ?_ hover
     · rw [habs]
       unfold digP
       by_cases hl : j0s neg num den e (wid g) g.digs.toNat way (powK g K)
       · rw [if_pos hl]; exact Nat.pow_lt_pow_right (by omega) hww
       · rw [if_neg hl]
         unfold j0s at hl
         by_cases hu : upP neg num den e (wid g) way (powK g K) = true
         · exact (b0i _ _).1 (by have : ¬ wid g * g.digs.toNat < blen (dUp neg num den e (wid g) way (powK g K)) := fun h => hl ⟨hu, h⟩; omega)
         · have : upP neg num den e (wid g) way (powK g K) = false := by simpa using hu
           unfold dUp; rw [this]; simpa using hq
     · rw [habs]
       unfold digP powP
       by_cases hl : j0s neg num den e (wid g) g.digs.toNat way (powK g K)
       · rw [if_pos hl, if_pos hl]; exact .inr (.inl (Nat.le_refl _))
       · rw [if_neg hl, if_neg hl]
         rcases hlow.2 with h | h
         · exact .inr (.inl (by unfold dUp; omega))
         · exact .inr (.inr h)
     · unfold powP; split <;> omega
theorem f1d {w D : Nat} (hD : 1 ≤ D) : w * D = w * (D - 1) + w := by
 obtain ⟨c, rfl⟩ : ∃ c, D = c + 1 := ⟨D - 1, by omega⟩
 simp only [Nat.add_sub_cancel]; grind
theorem f1e {g : Gd} (G : h0g g) {z : Int} {k : Int} (hz : z ≠ 0) (hlt : z.natAbs < 2 ^ (wid g * g.digs.toNat)) (hk : g.lo ≤ k) (hfull : 2 ^ (wid g * (g.digs.toNat - 1)) ≤ z.natAbs ∨ k = g.lo) : stepK (norm z (wid g * k)) g = k := by
 have wp := b0c g
 have hD : 1 ≤ g.digs.toNat := by have := G.d1; omega
 have ht := v0w hz (wid g * k)
 have hb1 : blen z.natAbs ≤ wid g * g.digs.toNat := (b0i _ _).2 hlt
 have hb0 := (c0u z.natAbs).2 (by omega)
 unfold stepK upK
 rw [ht]
 generalize g.digs.toNat = D at *
 have hb := d0u ((wid g : Int) * k + (blen z.natAbs : Nat) - 1) (wid g) (by omega)
 generalize ((wid g : Int) * k + (blen z.natAbs : Nat) - 1) / (wid g : Int) = f at *
 have e1 := f1d (w := wid g) hD
 have e3 : ((wid g * (D - 1) : Nat) : Int) = wid g * D - wid g := by
  have : ((wid g * D : Nat) : Int) = (wid g * (D - 1) : Nat) + (wid g : Nat) := by rw [e1]; simp
  rw [Int.natCast_mul] at this
  omega
 have e4 : ((wid g * D : Nat) : Int) = wid g * D := Int.natCast_mul _ _
 have eK : ∀ j : Int, (wid g : Int) * (j - D + 1) = wid g * j - wid g * D + wid g := fun j => by grind
 have w0 : (0 : Int) ≤ wid g := by omega
 have step : ∀ j l : Int, wid g * j < (wid g : Int) * l + wid g → j ≤ l := fun j l h => by
  rcases Int.lt_or_le l j with h1 | h1
  · have h2 : (wid g : Int) * (l + 1) ≤ wid g * j := Int.mul_le_mul_of_nonneg_left (by omega) w0
    rw [Int.mul_add] at h2
    omega
  · exact h1
 have hupper : f - D + 1 ≤ k := step _ _ (by rw [eK]; omega)
 rcases hfull with h | h
 · have h3 : wid g * (D - 1) < blen z.natAbs := by
    rcases Nat.lt_or_ge (wid g * (D - 1)) (blen z.natAbs) with h' | h'
    · exact h'
    · have := (b0i _ _).1 h'; omega
   have hlower : k ≤ f - D + 1 := step _ _ (by rw [eK]; omega)
   omega
 · omega
theorem r0a (z : Int) (e : Int) : zOf (norm z e) e = z := by
 have := v0u z (Int.le_refl e)
 simpa using this
theorem v0a {neg : Bool} {num den : Nat} {e : Int} {g : Gd} {way : Int} (hd : 0 < den) (G : h0g g) : (dig B32 (a0l neg num den e g way).d).length ≤ 16 := by
 unfold a0l
 by_cases h0 : num = 0
 · rw [if_pos h0]; simp [a0c]
 · rw [if_neg h0]
   have hK := m0k (num := num) (by omega) hd e (w := wid g) (D := g.digs.toNat) (b0c g).1 (by have := G.d1; omega)
   have h1 := v0x (neg := neg) (way := way) hd G hK
   have h2 : wid g * g.digs.toNat ≤ 480 := by
    have := Nat.mul_le_mul (b0c g).2 (show g.digs.toNat ≤ 120 by have := G.d2; omega)
    omega
   exact Nat.le_trans (a0k a0b (Nat.le_of_lt h1)) (g0w h2)
theorem l1f {neg : Bool} {num den : Nat} {e : Int} {g : Gd} {way : Int} (_ : 0 < den) (G : h0g g) (hok : okP (a0l neg num den e g way) g = true) : -17000 ≤ (a0l neg num den e g way).pow ∧ (a0l neg num den e g way).pow ≤ 17000 := by
 unfold a0l at *
 by_cases h0 : num = 0
 · rw [if_pos h0]; simp
 · rw [if_neg h0] at *
   generalize theK num den e (wid g) g.digs.toNat = K at *
   have hover : powP neg num den e (wid g) g.digs.toNat way (powK g K) ≤ g.hi := by
    unfold okP at hok
    have : (fitK neg num den e g way K).over = decide (g.hi < powP neg num den e (wid g) g.digs.toNat way (powK g K)) := rfl
    rw [this] at hok
    simp only [Bool.and_eq_true, Bool.not_eq_true', decide_eq_false_iff_not] at hok
    omega
   have hlow : g.lo ≤ powK g K := by
    unfold okP at hok
    have : (fitK neg num den e g way K).under = decide (K < g.lo) := rfl
    rw [this] at hok
    simp only [Bool.and_eq_true, Bool.or_eq_true, Bool.not_eq_true', decide_eq_false_iff_not] at hok
    unfold powK
    rcases hok.2 with h | h
    · rw [if_neg (fun k => h k.1)]; omega
    · by_cases hu : K < g.lo
      · rw [if_pos ⟨hu, h⟩]; omega
      · rw [if_neg (fun k => hu k.1)]; omega
   have h1 := G.l1
   have h2 := G.h2
   have hp : (fitK neg num den e g way K).pow = if digP neg num den e (wid g) g.digs.toNat way (powK g K) = 0 then 0 else powP neg num den e (wid g) g.digs.toNat way (powK g K) := rfl
   rw [hp]
   have h3 : powK g K ≤ powP neg num den e (wid g) g.digs.toNat way (powK g K) := by unfold powP; split <;> omega
   split
   · omega
   · omega
end Go.Slip
namespace Go.Proofs.YtmacohmclpnphaaGreatDoor
open Go.RowKit Go.Slip
theorem w0t (a N n : Nat) (h : (dig B16 a).length ≤ n) : (dig B16 (a * 2 ^ N)).length ≤ n + (N / 16 + 1) := by
 refine Nat.le_trans (d0r a0e a (2 ^ N)) ?_
 rw [l0i]; omega
theorem l0a {a : Nat} {n : Int} (h : (dig B16 a).length ≤ 2000000) (hn : -10000000 ≤ n ∧ n ≤ 10000000) : (dig B16 (numP a n)).length ≤ 2700000 := by
 have := w0t a n.toNat _ h; unfold numP; omega
theorem p0a {a : Nat} {n : Int} (h : (dig B16 a).length ≤ 2000000) (hn : -10000000 ≤ n ∧ n ≤ 10000000) : (dig B16 (denP a n)).length ≤ 2700000 := by
 have := w0t a (-n).toNat _ h; unfold denP; omega
def i1m (w : World) (q0 : Option Addr) (x y z : Nat) (en : Ending) (w' : World) : Prop :=
 ∃ p c q d r f, en = .returned (.tuple #[.slice p (dig B16 x).length c, .slice q (dig B16 y).length d, .slice r (dig B16 z).length f]) ∧ Rd w' .i64 p (dig B16 x) ∧ (0 < (dig B16 x).length → w.heap.size ≤ blk p) ∧
  Rd w' .i64 q (dig B16 y) ∧ (0 < (dig B16 y).length → w.heap.size ≤ blk q) ∧ Rd w' .i64 r (dig B16 z) ∧ (r = q0 ∨ (0 < (dig B16 z).length → w.heap.size ≤ blk r)) ∧ Below w.heap.size w w'
theorem h0w (g : Bool) (p q : Option Addr) (c d : Nat) (a b : Nat) (x n : Int) (w : World) (hp : Rd w .i64 p (dig B16 a)) (hq : Rd w .i64 q (dig B16 b))
 (hl : (dig B16 a).length ≤ 2000000) (hl2 : (dig B16 b).length ≤ 2000000) (hb : 0 < b) (hn : -10000000 ≤ x - n ∧ x - n ≤ 10000000) (_ : -1000000000 ≤ x ∧ x ≤ 1000000000) :
 Calls Tryz.prog 76 #[.agg #[.bool g, .slice p (dig B16 a).length c, .slice q (dig B16 b).length d, .int .i64 x], .int .i64 n] w (i1m w q (qP a b (x - n)) (rP a b (x - n)) (denP b (x - n))) := by
 have l1 := l0a hl hn
 have l2 := p0a hl2 hn
 have h0 := i0d hb (x - n)
 unfold qP rP
 by_cases h : n ≤ x
 · obtain ⟨N, hN⟩ : ∃ N : Nat, x - n = N := ⟨(x - n).toNat, by omega⟩
   have hNb : N ≤ 10000000 := by omega
   have e1 : denP b (x - n) = b := by rw [hN]; unfold denP; rw [show (-(N : Int)).toNat = 0 by omega, Nat.pow_zero, Nat.mul_one]
   have HN := hi0 (show numP a (x - n) = a * 2 ^ N by rw [hN]; unfold numP; rw [Int.toNat_natCast])
   rw [e1] at l2 h0 ⊢
   generalize numP a (x - n) = X at *
   have HNN := hi0 hN
   clear e1 hN
   go_enter Tryz.func76, Tryz.ntmps76
   go_wp2_with fail
   refine u0b (fun W1 hb1 hz1 Q => ?_)
   replace hp := hp.past hb1
   replace hq := hq.past hb1
   have hs1 := hb1
   obtain ⟨Q_0, Q_1, Q_2, Q_3⟩ := Q.e4
   go_quiet (fail)
   clear Q_0 Q_1 Q_2 Q_3
   have hb2 := below_drewN (Below.refl (W1).heap.size (W1)) nq
   replace Q := Q.past hb2
   replace hp := hp.past hb2
   replace hq := hq.past hb2
   have hs2 := hs1.trans (hb2.mono hs1.size)
   generalize (W1).drewN nq = w2 at *
   have hN := HNN.out
   obtain ⟨Q_0, Q_1, Q_2, Q_3⟩ := Q.e4
   go_wp2_with fail
   clear Q_0 Q_1 Q_2 Q_3
   clear hN
   ((with_reducible refine (h0u p _ c a N _ hp rfl (by omega) (by omega)).mono ?_))
   rintro e3 w3 ⟨p1, c1, rfl, ho1, hc1, hf1, hb3⟩
   replace Q := Q.past hb3
   replace hp := hp.past hb3
   replace hq := hq.past hb3
   have hs3 := hs2.trans (hb3.mono hs2.size)
   rw [← HN.out] at ho1 hf1 ⊢
   obtain ⟨Q_0, Q_1, Q_2, Q_3⟩ := Q.e4
   go_wp2_with fail
   clear Q_0 Q_1 Q_2 Q_3
   ((with_reducible refine (j0c p1 q _ _ c1 d X b _ ho1 hq rfl rfl (by omega) (by omega) h0).mono ?_))
   rintro e4 w4 ⟨p2, c2, q2, d2, rfl, hr2, hc2, hf2, hr3, hc3, hf3, hb4⟩
   replace Q := Q.past hb4
   replace hp := hp.past hb4
   replace hq := hq.past hb4
   replace ho1 := ho1.past hb4
   have hs4 := hs3.trans (hb4.mono hs3.size)
   go_wp2_with fail
   refine bodyPost_ret (v := .tuple #[.slice p2 (dig B16 (X / b)).length c2, .slice q2 (dig B16 (X % b)).length d2, .slice q (dig B16 b).length d]) (by simp [results, Tryz.results76, go_sem]) rfl ?_
   have hz := hs3.size
   exact ⟨p2, c2, q2, d2, q, d, rfl, hr2, fun h => Nat.le_trans hz (hf2 h), hr3, fun h => Nat.le_trans hz (hf3 h), hq, .inl rfl, hs4⟩
 · obtain ⟨N, hN⟩ : ∃ N : Nat, n - x = N := ⟨(n - x).toNat, by omega⟩
   have hNb : N ≤ 10000000 := by omega
   have e1 : numP a (x - n) = a := by unfold numP; rw [show (x - n).toNat = 0 by omega, Nat.pow_zero, Nat.mul_one]
   have HN := hi0 (show denP b (x - n) = b * 2 ^ N by unfold denP; rw [show (-(x - n)).toNat = N by omega])
   rw [e1] at l1 ⊢
   generalize denP b (x - n) = X at *
   have HNN := hi0 hN
   clear e1 hN
   go_enter Tryz.func76, Tryz.ntmps76
   go_wp2_with fail
   refine u0b (fun W1 hb1 hz1 Q => ?_)
   replace hp := hp.past hb1
   replace hq := hq.past hb1
   have hs1 := hb1
   obtain ⟨Q_0, Q_1, Q_2, Q_3⟩ := Q.e4
   go_quiet (fail)
   clear Q_0 Q_1 Q_2 Q_3
   have hb2 := below_drewN (Below.refl (W1).heap.size (W1)) nq
   replace Q := Q.past hb2
   replace hp := hp.past hb2
   replace hq := hq.past hb2
   have hs2 := hs1.trans (hb2.mono hs1.size)
   generalize (W1).drewN nq = w2 at *
   have hN := HNN.out
   obtain ⟨Q_0, Q_1, Q_2, Q_3⟩ := Q.e4
   go_wp2_with fail
   clear Q_0 Q_1 Q_2 Q_3
   clear hN
   ((with_reducible refine (h0u q _ d b N _ hq rfl (by omega) (by omega)).mono ?_))
   rintro e3 w3 ⟨p1, c1, rfl, ho1, hc1, hf1, hb3⟩
   replace Q := Q.past hb3
   replace hp := hp.past hb3
   replace hq := hq.past hb3
   have hs3 := hs2.trans (hb3.mono hs2.size)
   rw [← HN.out] at ho1 hf1 ⊢
   obtain ⟨Q_0, Q_1, Q_2, Q_3⟩ := Q.e4
   go_wp2_with fail
   clear Q_0 Q_1 Q_2 Q_3
   ((with_reducible refine (j0c p p1 _ _ c c1 a X _ hp ho1 rfl rfl (by omega) (by omega) h0).mono ?_))
   rintro e4 w4 ⟨p2, c2, q2, d2, rfl, hr2, hc2, hf2, hr3, hc3, hf3, hb4⟩
   replace Q := Q.past hb4
   replace hp := hp.past hb4
   replace hq := hq.past hb4
   replace ho1 := ho1.past hb4
   have hs4 := hs3.trans (hb4.mono hs3.size)
   go_wp2_with fail
   refine bodyPost_ret (v := .tuple #[.slice p2 (dig B16 (a / X)).length c2, .slice q2 (dig B16 (a % X)).length d2, .slice p1 (dig B16 X).length c1]) (by simp [results, Tryz.results76, go_sem]) rfl ?_
   have hz := hs3.size
   have hz2 := hs2.size
   exact ⟨p2, c2, q2, d2, p1, c1, rfl, hr2, fun h => Nat.le_trans hz (hf2 h), hr3, fun h => Nat.le_trans hz (hf3 h), ho1, .inr fun h => Nat.le_trans hz2 (hf1 h), hs4⟩
def v0b (w : World) (d : Pl) (en : Ending) (w' : World) : Prop :=
 ∃ p c, en = .returned (.agg #[.bool d.neg, .slice p (dig B16 d.d).length c, .int .i64 d.pow, .bool d.exact, .bool d.over, .bool d.under]) ∧ Rd w' .i64 p (dig B16 d.d) ∧ (0 < (dig B16 d.d).length → w.heap.size ≤ blk p) ∧ Below w.heap.size w w'
theorem c1m (g : Gd) : wid g = 1 ∨ wid g = 4 := by unfold wid; split <;> simp
theorem i1n {x : Int} {wd : Nat} (h : wd = 1 ∨ wd = 4) (hx : -800000 ≤ x) : (x + 800000).tdiv wd = (x + 800000) / wd ∧ (800000 : Int).tdiv wd = 800000 / wd ∧ (x + 800000) / wd - 800000 / wd = x / wd := by
 refine ⟨Int.tdiv_eq_ediv_of_nonneg (by omega), Int.tdiv_eq_ediv_of_nonneg (by omega), ?_⟩
 rcases h with rfl | rfl <;> omega
theorem n0l (ng : Bool) (p q : Option Addr) (c d m : Nat) (e : Int) (g : Gd) (way : Int) (w : World) :
 Calls Tryz.prog 21 #[.agg #[.bool ng, .slice p 0 c, .slice q m d, .int .i64 e], .agg #[.int .i64 g.rad, .int .i64 g.digs, .int .i64 g.lo, .int .i64 g.hi, .bool g.grad], .int .i64 way] w (v0b w ⟨false, 0, 0, true, false, false⟩) := by
 go_enter Tryz.func21, Tryz.ntmps21
 go_upto_region 2 with (fail)
 refine h1h (fun W1 hb1 hz1 Q G R => ?_)
 have hs1 := hb1
 obtain ⟨R_0, R_1, R_2, R_3, R_4, R_5⟩ := R.e6
 have R_f0 := R.f 0
 have R_f1 := R.f 1
 have R_f2 := R.f 2
 have R_f3 := R.f 3
 have R_f4 := R.f 4
 have R_f5 := R.f 5
 go_wp2_with fail
 clear R_0 R_1 R_2 R_3 R_4 R_5 R_f0 R_f1 R_f2 R_f3 R_f4 R_f5
 obtain ⟨R_0, R_1, R_2, R_3, R_4, R_5⟩ := R.e6
 refine bodyPost_ret (v := .agg #[.bool false, .slice none 0 0, .int .i64 0, .bool true, .bool false, .bool false]) (by simp [results, Tryz.results21, go_sem, R_0, R_1, R_2, R_3, R_4, R_5]) rfl ?_
 exact ⟨none, 0, by simp [a0c], by simp only [a0c]; exact Rd.nil _ _ _, by simp [a0c], hs1.trans ((p0y W1 (w.heap.size + 1 + 1) _ _ _ _ _ _).below (by omega))⟩
theorem c1n {w : World} {b : Nat} (h : Bx w b #[.int .i64 1]) : Rd w .i64 (some ⟨b, 0, none⟩) (dig B16 1) := by
 rw [f0i a0e (by omega) (by unfold B16; omega)]
 refine ⟨fun _ => ⟨rfl, rfl⟩, fun j hj => ?_⟩
 obtain rfl : j = 0 := by simp at hj; omega
 exact h.e1
theorem f1f (w : World) (T : TypeId) : Rd (w.alloc (.cells #[.int .i64 2] T)) .i64 (some ⟨w.heap.size, 0, none⟩) (dig B16 2) := by
 rw [f0i a0e (by omega) (by unfold B16; omega)]
 exact (g1r w .i64 T 2 (by omega)).rd
theorem n0m : (dig B16 2).length = 1 := by rw [f0i a0e (by omega) (by unfold B16; omega)]; rfl
theorem n0n : (dig B16 1).length = 1 := by rw [f0i a0e (by omega) (by unfold B16; omega)]; rfl
theorem o0a (ng : Bool) (p q : Option Addr) (c d : Nat) (num den : Nat) (e : Int) (g : Gd) (way K : Int) (w : World) (hp : Rd w .i64 p (dig B16 num)) (hq : Rd w .i64 q (dig B16 den))
 (hl : (dig B16 num).length ≤ 20000) (hl2 : (dig B16 den).length ≤ 20000) (hn : 0 < num) (hd : 0 < den) (he : -200000 ≤ e ∧ e ≤ 200000) (G : h0g g) (hw1 : 1 ≤ way) (hw2 : way ≤ 5) (hK : IsK num den e (wid g) g.digs.toNat K) :
 Calls Tryz.prog 21 #[.agg #[.bool ng, .slice p (dig B16 num).length c, .slice q (dig B16 den).length d, .int .i64 e], .agg #[.int .i64 g.rad, .int .i64 g.digs, .int .i64 g.lo, .int .i64 g.hi, .bool g.grad], .int .i64 way] w (v0b w (fitK ng num den e g way K)) := by
 obtain ⟨_, gd1, gd2, gl1, gl2, gh1, gh2, gle⟩ := G
 obtain ⟨pf, hpf⟩ : ∃ pf, fitK ng num den e g way K = pf := ⟨_, rfl⟩
 rw [hpf]
 have HPF := hi0 hpf
 have HWD := fun W => hi0 (c0i g W)
 have wp := b0c g
 have wc0 := c1m g
 obtain ⟨wd, hwd⟩ : ∃ wd, wid g = wd := ⟨_, rfl⟩
 rw [hwd] at wp HWD hK wc0
 have HW := hi0 hwd
 have HWC := hi0 wc0
 obtain ⟨rad, digs, lo, hi, grad⟩ := g
 simp only at *
 obtain ⟨D, rfl⟩ : ∃ D : Nat, digs = D := ⟨digs.toNat, by omega⟩
 rw [Int.toNat_natCast] at hK
 have hD : 1 ≤ D := by omega
 have hnum0 : 0 < (dig B16 num).length := by have := a0f a0e num; omega
 have hden0 : 0 < (dig B16 den).length := by have := a0f a0e den; omega
 have bn := g0n num
 have bd := g0n den
 obtain ⟨F1, F2⟩ := p0q hn hd e (w := wd) (D := D) (by omega) hD _ rfl
 obtain ⟨x, hx⟩ : ∃ x : Int, (blen num : Int) - blen den + e = x := ⟨_, rfl⟩
 have hxb : -600000 ≤ x ∧ x ≤ 600000 := by omega
 have hxw := i0h (wd := wd) wp.1 hxb
 have e0 : IntKind.i64.wrap ((blen num : Int) - blen den) = (blen num : Int) - blen den := iwo
 have e1 : IntKind.i64.wrap ((blen num : Int) - blen den + e) = x := by rw [iwo, hx]
 rw [hx] at F1 F2
 have HX := hi0 hx
 have hK1 := hK.le hd F1
 have hK2 : K ≤ x / wd - D + 2 := by
  rcases Int.lt_or_le (x / wd - D + 2) K with h | h
  · exact absurd (k0q hd hK.yes (by omega)) F2
  · exact h
 have HK := hi0 hK
 have t0 : (((dig B16 num).length : Int) == 0) = false := bFn (by omega)
 have HPP := hi0 (show 0 < (dig B16 num).length → blk p < w.heap.size from fun h => hp.lt h)
 clear hpf hwd hx F1 F2 hK wc0
 go_enter Tryz.func21, Tryz.ntmps21
 go_wp2_with fail
 refine x0o (fun W1 hb1 hz1 Q G R => ?_)
 replace hp := hp.past hb1
 replace hq := hq.past hb1
 have hs1 := hb1
 ((with_reducible refine ((HWD _).out).mono ?_))
 rintro e2 w2 ⟨rfl, hb2⟩
 replace Q := Q.past hb2
 replace G := G.past hb2
 replace R := R.past hb2
 replace hp := hp.past hb2
 replace hq := hq.past hb2
 have hs2 := hs1.trans (hb2.mono hs1.size)
 obtain ⟨Q_0, Q_1, Q_2, Q_3⟩ := Q.e4
 obtain ⟨G_0, G_1, G_2, G_3, G_4⟩ := G.e5
 obtain ⟨R_0, R_1, R_2, R_3, R_4, R_5⟩ := R.e6
 go_wp2_with fail
 clear Q_0 Q_1 Q_2 Q_3 G_0 G_1 G_2 G_3 G_4 R_0 R_1 R_2 R_3 R_4 R_5
 obtain ⟨Q_0, Q_1, Q_2, Q_3⟩ := Q.e4
 go_quiet ((first | (go_at_call_of 75 (Value.slice p (dig B16 num).length c); exact Calls.quiet_of_same ((d0x p _ c num _ (hp.drewN _) rfl (by omega)).mono fun _ _ h => ⟨h.1, h.2.symm⟩)) | (go_at_call_of 75 (Value.slice q (dig B16 den).length d); exact Calls.quiet_of_same ((d0x q _ d den _ (hq.drewN _) rfl (by omega)).mono fun _ _ h => ⟨h.1, h.2.symm⟩))))
 clear Q_0 Q_1 Q_2 Q_3
 have hb3 := below_drewN (Below.refl (w2).heap.size (w2)) nq
 replace Q := Q.past hb3
 replace G := G.past hb3
 replace R := R.past hb3
 replace hp := hp.past hb3
 replace hq := hq.past hb3
 have hs3 := hs2.trans (hb3.mono hs2.size)
 generalize (w2).drewN nq = w3 at *
 clear e0 e1 t0
 obtain ⟨Q_0, Q_1, Q_2, Q_3⟩ := Q.e4
 obtain ⟨G_0, G_1, G_2, G_3, G_4⟩ := G.e5
 obtain ⟨R_0, R_1, R_2, R_3, R_4, R_5⟩ := R.e6
 go_wp2_with fail
 clear Q_0 Q_1 Q_2 Q_3 G_0 G_1 G_2 G_3 G_4 R_0 R_1 R_2 R_3 R_4 R_5
 obtain ⟨f1, f2, f3⟩ := i1n HWC.out (show -800000 ≤ x by omega)
 have e0 : IntKind.i64.wrap (x + 800000) = x + 800000 := iwo
 have hq1 := i0h (wd := wd) (x := x + 800000) (B := 1400000) wp.1 (by omega)
 have hq2 := i0h (wd := wd) (x := 800000) (B := 800000) wp.1 (by omega)
 have e1 : IntKind.i64.wrap ((x + 800000).tdiv (wd : Int)) = (x + 800000) / (wd : Int) := by rw [f1, iwo]
 have e2 : IntKind.i64.wrap ((800000 : Int).tdiv (wd : Int)) = 800000 / (wd : Int) := by rw [f2, iwo]
 have e3 : IntKind.i64.wrap ((x + 800000) / (wd : Int) - 800000 / (wd : Int)) = x / (wd : Int) := by rw [f3, iwo]
 have e4 : IntKind.i64.wrap (x / (wd : Int) - (D : Int)) = x / wd - D := iwo
 have e5 : IntKind.i64.wrap (x / (wd : Int) - (D : Int) + 2) = x / wd - D + 2 := iwo
 have t0 : ((wd : Int) == 0) = false := bFn (by omega)
 clear f1 f2 f3
 obtain ⟨G_0, G_1, G_2, G_3, G_4⟩ := G.e5
 go_quiet (fail)
 clear G_0 G_1 G_2 G_3 G_4
 have hb4 := below_drewN (Below.refl (w3).heap.size (w3)) nq
 replace Q := Q.past hb4
 replace G := G.past hb4
 replace R := R.past hb4
 replace hp := hp.past hb4
 replace hq := hq.past hb4
 have hs4 := hs3.trans (hb4.mono hs3.size)
 generalize (w3).drewN nq = w4 at *
 clear e0 e1 e2 e3 e4 e5 t0
 obtain ⟨k0, hk0⟩ : ∃ k0, x / (wd : Int) - D + 2 = k0 := ⟨_, rfl⟩
 have hk0b : -700000 ≤ k0 ∧ k0 ≤ 700000 := by omega
 rw [hk0] at hK2 ⊢
 have hK1 : k0 - 2 ≤ K := by omega
 have hm0 : -601000 ≤ (wd : Int) * k0 ∧ (wd : Int) * k0 ≤ 601000 := by
  have h1 := d0u x wd wp.1
  have h2 : (wd : Int) * k0 = wd * (x / wd) - wd * D + wd * 2 := by rw [← hk0]; grind
  have h3 : (wd : Int) * D ≤ 4 * 120 := Int.mul_le_mul (by omega) (by omega) (by omega) (by omega)
  have h4 : 0 ≤ (wd : Int) * D := Int.mul_nonneg (by omega) (by omega)
  omega
 clear hk0 hxw hq1 hq2
 obtain ⟨Q_0, Q_1, Q_2, Q_3⟩ := Q.e4
 go_wp2_with fail
 clear Q_0 Q_1 Q_2 Q_3
 ((with_reducible refine (h0w ng p q c d num den e ((wd : Int) * k0) _ hp hq (by omega) (by omega) hd (by omega) (by omega)).mono ?_))
 rintro e5 w5 ⟨p1, c1, q1, d1, r1, f1, rfl, hr1, hf1, hr2, hf2, hr3, hf3, hb5⟩
 replace Q := Q.past hb5
 replace G := G.past hb5
 replace R := R.past hb5
 replace hp := hp.past hb5
 replace hq := hq.past hb5
 have hs5 := hs4.trans (hb5.mono hs4.size)
 go_wp2_with fail
 obtain ⟨N1, hN1⟩ : ∃ N1 : Nat, N1 = wd * (D - 1) := ⟨_, rfl⟩
 have hN1b : N1 ≤ 480 := by rw [hN1]; exact Nat.le_trans (Nat.mul_le_mul wp.2 (show D - 1 ≤ 120 by omega)) (by omega)
 have HN1 := hi0 hN1
 clear hN1
 have hpp : 0 < (dig B16 num).length → blk p < w.heap.size := fun h => HPP.out h
 have hsw : W1.heap.size ≤ w4.heap.size := by have := hb2.size; have := hb3.size; have := hb4.size; omega
 go_loopg [9, 10, 11, 12] (k0 - K).toNat (fun gk kv av bv cv wr => ∃ (k : Int) (p2 q2 r2 : Option Addr) (c2 d2 f2 : Nat), kv = .int .i64 k ∧ (gk : Int) = k - K ∧ k ≤ k0 ∧ K ≤ k ∧
   av = .slice p2 (dig B16 (qP num den (e - wd * k))).length c2 ∧ bv = .slice q2 (dig B16 (rP num den (e - wd * k))).length d2 ∧ cv = .slice r2 (dig B16 (denP den (e - wd * k))).length f2 ∧
   Rd wr .i64 p2 (dig B16 (qP num den (e - wd * k))) ∧ (0 < (dig B16 (qP num den (e - wd * k))).length → W1.heap.size ≤ blk p2) ∧ Rd wr .i64 q2 (dig B16 (rP num den (e - wd * k))) ∧ Rd wr .i64 r2 (dig B16 (denP den (e - wd * k))) ∧ Below w5.heap.size w5 wr)
 case atStart => exact ⟨k0, p1, q1, r1, c1, d1, f1, rfl, by omega, by omega, by omega, rfl, rfl, rfl, hr1, fun h => Nat.le_trans hsw (hf1 h), hr2, hr3, Below.refl _ _⟩
 case round =>
  obtain ⟨k, p2, q2, r2, c2, d2, f2, rfl, hgk, hkk, hKk, rfl, rfl, rfl, hr4, hf4, hr5, hr6, hb7⟩ := hrel
  have hs7 := hs5.trans (hb7.mono hs5.size)
  replace Q := Q.past hb7
  replace G := G.past hb7
  replace R := R.past hb7
  replace hp := hp.past hb7
  replace hq := hq.past hb7
  have hmk : -610000 ≤ (wd : Int) * k ∧ (wd : Int) * k ≤ 610000 := by
   have hkd : k = k0 ∨ k = k0 - 1 ∨ k = k0 - 2 := by omega
   rcases hkd with rfl | rfl | rfl
   · omega
   · rw [Int.mul_sub]; omega
   · rw [Int.mul_sub]; omega
  have lq : (dig B16 (qP num den (e - wd * k))).length ≤ 2700000 := Nat.le_trans (a0k a0e (Nat.div_le_self _ _)) (l0a (by omega) (by omega))
  have hbq := g0n (qP num den (e - wd * k))
  have e0 : IntKind.i64.wrap ((D : Int) - 1) = ((D - 1 : Nat) : Int) := by rw [iwo]; omega
  have e1 : IntKind.i64.wrap ((wd : Int) * ((D - 1 : Nat) : Int)) = (N1 : Int) := by rw [IntWalk.i64_in _ (by rw [← Int.natCast_mul, ← HN1.out]; omega), ← Int.natCast_mul, ← HN1.out]
  have e2 : IntKind.i64.wrap ((N1 : Int) + 1) = (N1 : Int) + 1 := iwo
  go_wp2_with fail
  obtain ⟨G_0, G_1, G_2, G_3, G_4⟩ := G.e5
  go_quiet ((go_at_call 75; exact Calls.quiet_of_same ((d0x p2 _ c2 _ _ (hr4.drewN _) rfl (by clear e0 e1 e2; omega)).mono fun _ _ h => ⟨h.1, h.2.symm⟩)))
  clear G_0 G_1 G_2 G_3 G_4
  have hb8 := below_drewN (Below.refl (wr).heap.size (wr)) nq
  replace Q := Q.past hb8
  replace G := G.past hb8
  replace R := R.past hb8
  replace hp := hp.past hb8
  replace hq := hq.past hb8
  replace hr4 := hr4.past hb8
  replace hr5 := hr5.past hb8
  replace hr6 := hr6.past hb8
  have hs8 := hs7.trans (hb8.mono hs7.size)
  generalize (wr).drewN nq = w8 at *
  clear e0 e1 e2
  by_cases hfull : e0t num den e wd D k
  · have hkK : k = K := by have := HK.out.le hd hfull; omega
    subst hkK
    have hC : ¬ ((blen (qP num den (e - wd * k)) : Nat) : Int) < (N1 : Int) + 1 := by
     unfold e0t at hfull
     rw [← HN1.out] at hfull
     have := (b0i (qP num den (e - wd * k)) N1)
     omega
    clear hfull
    obtain ⟨k1, hk1⟩ : ∃ k1, powK ⟨rad, D, lo, hi, grad⟩ k = k1 := ⟨_, rfl⟩
    have HK1 := hi0 hk1
    have hmk1 : -620000 ≤ (wd : Int) * k1 ∧ (wd : Int) * k1 ≤ 620000 := by
     have hlo := k0d (k := lo) wp.2 (B := 17000) ⟨by omega, by omega⟩
     rw [← hk1]; unfold powK; split
     · simp only; omega
     · omega
    have hk1b : -800000 ≤ k1 ∧ k1 ≤ 800000 := by
     rw [← hk1]; unfold powK; split
     · simp only; omega
     · omega
    clear hk1
    obtain ⟨un, hun⟩ : ∃ un, decide (k < lo) = un := ⟨_, rfl⟩
    have hz8 := R.lt
    have hsw8 : W1.heap.size ≤ w8.heap.size := by have := hb5.size; have := hb7.size; have := hb8.size; omega
    obtain ⟨Q_0, Q_1, Q_2, Q_3⟩ := Q.e4
    obtain ⟨G_0, G_1, G_2, G_3, G_4⟩ := G.e5
    go_upto_region 11 with (fail)
    clear Q_0 Q_1 Q_2 Q_3 G_0 G_1 G_2 G_3 G_4
    have HUN := hi0 hun
    clear hun
    have hr4o := hr4
    have hr5o := hr5
    have hr6o := hr6
    have hqo := hq
    refine u0b (fun W9 hb9 hz9 P => ?_)
    replace Q := Q.past hb9
    replace G := G.past hb9
    replace R := R.past hb9
    replace hp := hp.past hb9
    replace hq := hq.past hb9
    replace hr4 := hr4.past hb9
    replace hr5 := hr5.past hb9
    replace hr6 := hr6.past hb9
    have hs9 := hs8.trans (hb9.mono hs8.size)
    obtain ⟨b1, hb1⟩ : ∃ b1, (un && grad) = b1 := ⟨_, rfl⟩
    have HB1 := hi0 hb1
    clear hb1
    have hp4 : 0 < (dig B16 (qP num den (e - wd * k))).length → blk p2 ≠ w8.heap.size := fun h => by have := hr4o.lt h; omega
    have hp5 : 0 < (dig B16 (rP num den (e - wd * k))).length → blk q2 ≠ w8.heap.size := fun h => by have := hr5o.lt h; omega
    have hp6 : 0 < (dig B16 (denP den (e - wd * k))).length → blk r2 ≠ w8.heap.size := fun h => by have := hr6o.lt h; omega
    have hpq : 0 < (dig B16 den).length → blk q ≠ w8.heap.size := fun h => by have := hqo.lt h; omega
    clear hr4o hr5o hr6o hqo
    have hzP := P.lt
    go_cut [85] (fun s85 wx => s85 = .bool b1 ∧ wx = W9)
    case first =>
     obtain ⟨P_0, P_1, P_2, P_3, P_4, P_5⟩ := P.e6
     obtain ⟨G_0, G_1, G_2, G_3, G_4⟩ := G.e5
     cases un <;> cases grad <;> (go_wp2_with fail; go_meet; exact ⟨by rw [← HB1.out]; rfl, rfl⟩)
    case rest =>
     obtain ⟨rfl, rfl⟩ := hcut
     go_upto_if 85 with (fail)
     go_cut [10, 11, 12] (fun s11 s12 s13 wx => ∃ (p3 q3 r3 : Option Addr) (c3 d3 f3 : Nat), s11 = .slice p3 (dig B16 (qP num den (e - wd * k1))).length c3 ∧ s12 = .slice q3 (dig B16 (rP num den (e - wd * k1))).length d3 ∧ s13 = .slice r3 (dig B16 (denP den (e - wd * k1))).length f3 ∧
       Bx wx w8.heap.size #[.bool ng, .slice none 0 0, .int .i64 k1, .bool false, .bool false, .bool un] ∧
       Rd wx .i64 p3 (dig B16 (qP num den (e - wd * k1))) ∧ (0 < (dig B16 (qP num den (e - wd * k1))).length → W1.heap.size ≤ blk p3) ∧ Rd wx .i64 q3 (dig B16 (rP num den (e - wd * k1))) ∧ Rd wx .i64 r3 (dig B16 (denP den (e - wd * k1))) ∧
       (0 < (dig B16 (qP num den (e - wd * k1))).length → blk p3 ≠ w8.heap.size) ∧ (0 < (dig B16 (rP num den (e - wd * k1))).length → blk q3 ≠ w8.heap.size) ∧ (0 < (dig B16 (denP den (e - wd * k1))).length → blk r3 ≠ w8.heap.size) ∧ Keep w8.heap.size wc wx)
     case first =>
      cases b1
      · obtain rfl : k = k1 := by
         have h1 := HK1.out; have h2 := HB1.out; have h3 := HUN.out
         unfold powK at h1
         rw [if_neg (by rintro ⟨a1, a2⟩; simp only at a1 a2; subst a2; rw [← h3, decide_eq_true a1] at h2; simp at h2)] at h1
         exact h1
        go_wp2_with fail
        go_meet
        exact ⟨p2, q2, r2, c2, d2, f2, rfl, rfl, rfl, P, hr4, hf4, hr5, hr6, hp4, hp5, hp6, Below.keep (Below.refl _ _) _⟩
      · obtain rfl : lo = k1 := by
         have h1 := HK1.out; have h2 := HB1.out; have h3 := HUN.out
         unfold powK at h1
         rw [if_pos ⟨by cases un; (simp at h2); simpa using h3, by cases un; (simp at h2); simpa using h2⟩] at h1
         exact h1
        obtain ⟨G_0, G_1, G_2, G_3, G_4⟩ := G.e5
        obtain ⟨P_0, P_1, P_2, P_3, P_4, P_5⟩ := P.e6
        have P_f0 := P.f 0
        have P_f1 := P.f 1
        have P_f2 := P.f 2
        have P_f3 := P.f 3
        have P_f4 := P.f 4
        have P_f5 := P.f 5
        go_upto_region 13 with (fail)
        clear G_0 G_1 G_2 G_3 G_4 P_0 P_1 P_2 P_3 P_4 P_5 P_f0 P_f1 P_f2 P_f3 P_f4 P_f5
        refine a1i P (fun W10 hO10 P => ?_)
        replace P : Bx W10 w8.heap.size #[.bool ng, .slice none 0 0, .int .i64 lo, .bool false, .bool false, .bool un] := P
        replace Q := Q.only hO10 (by omega)
        replace G := G.only hO10 (by omega)
        have hqb : 0 < (dig B16 den).length → blk q < wc.heap.size := fun h => hq.lt h
        replace hp := hp.only hO10 (fun h => by have := hpp h; omega)
        replace hq := hq.only hO10 hpq
        have hz10 := hO10.size
        have HZ10 := hi0 hz10
        clear hz10
        obtain ⟨Q_0, Q_1, Q_2, Q_3⟩ := Q.e4
        obtain ⟨G_0, G_1, G_2, G_3, G_4⟩ := G.e5
        go_wp2_with fail
        clear Q_0 Q_1 Q_2 Q_3 G_0 G_1 G_2 G_3 G_4
        ((with_reducible refine (h0w ng p q c d num den e ((wd : Int) * lo) _ hp hq (by omega) (by omega) hd (by omega) (by omega)).mono ?_))
        rintro e11 w11 ⟨p3, c3, q3, d3, r3, f3, rfl, hr7, hf7, hr8, hf8, hr9, hrq, hb11⟩
        have hz10 := HZ10.out
        go_wp2_with fail
        go_meet
        refine ⟨p3, q3, r3, c3, d3, f3, rfl, rfl, rfl, P.past hb11, hr7, fun h => ?_, hr8, hr9, fun h => ?_, fun h => ?_, fun h => ?_, hO10.keep.trans (Below.keep hb11 _)⟩
        · have := hf7 h; omega
        · have := hf7 h; omega
        · have := hf8 h; omega
        · rcases hrq with rfl | hrq
          · exact hpq hden0
          · have := hrq h; omega
     case rest =>
      obtain ⟨p3, q3, r3, c3, d3, f3, rfl, rfl, rfl, P, hr7, hf7, hr8, hr9, hn7, hn8, hn9, hkb⟩ := hcut
      have hs9z := hs9.size
      have hs10 := hs9.trans (hkb.below (B := w.heap.size) (by omega) hs9z)
      have hzz : w8.heap.size < wc.heap.size := P.lt
      replace Q := Q.keep hkb (by omega)
      replace G := G.keep hkb (by omega)
      replace R := R.keep hkb (by omega)
      clear hkb hr4 hr5 hr6 hp hq
      have lX : (dig B16 (qP num den (e - wd * k1))).length ≤ 2700000 := Nat.le_trans (a0k a0e (Nat.div_le_self _ _)) (l0a (by omega) (by omega))
      have lZ : (dig B16 (denP den (e - wd * k1))).length ≤ 2700000 := p0a (by omega) (by omega)
      have lY : (dig B16 (rP num den (e - wd * k1))).length ≤ 2700000 := Nat.le_trans (a0k a0e (Nat.le_of_lt (Nat.mod_lt _ (i0d hd _)))) lZ
      obtain ⟨X, hX⟩ : ∃ X, qP num den (e - wd * k1) = X := ⟨_, rfl⟩
      obtain ⟨Y, hY⟩ : ∃ Y, rP num den (e - wd * k1) = Y := ⟨_, rfl⟩
      obtain ⟨Z, hZ⟩ : ∃ Z, denP den (e - wd * k1) = Z := ⟨_, rfl⟩
      rw [hX] at hr7 hf7 hn7 lX ⊢
      rw [hY] at hr8 hn8 lY ⊢
      rw [hZ] at hr9 hn9 lZ ⊢
      have HXX := hi0 hX
      have HYY := hi0 hY
      have HZZ := hi0 hZ
      obtain ⟨xb, hxb⟩ : ∃ xb, (((dig B16 Y).length : Int) == 0) = xb := ⟨_, rfl⟩
      clear hX hY hZ
      obtain ⟨P_0, P_1, P_2, P_3, P_4, P_5⟩ := P.e6
      have P_f0 := P.f 0
      have P_f1 := P.f 1
      have P_f2 := P.f 2
      have P_f3 := P.f 3
      have P_f4 := P.f 4
      have P_f5 := P.f 5
      go_upto_region 15 with (fail)
      clear P_0 P_1 P_2 P_3 P_4 P_5 P_f0 P_f1 P_f2 P_f3 P_f4 P_f5
      refine a1i P (fun W11 hO11 P => ?_)
      replace P : Bx W11 w8.heap.size #[.bool ng, .slice none 0 0, .int .i64 k1, .bool xb, .bool false, .bool un] := P
      replace Q := Q.only hO11 (by omega)
      replace G := G.only hO11 (by omega)
      replace R := R.only hO11 (by omega)
      replace hr7 := hr7.only hO11 hn7
      replace hr8 := hr8.only hO11 hn8
      replace hr9 := hr9.only hO11 hn9
      have hs11 := hs10.trans (hO11.below (B := w.heap.size) (by omega))
      clear hO11
      obtain ⟨od, hod⟩ : ∃ od, decide (X % 2 = 1) = od := ⟨_, rfl⟩
      have HOD := hi0 hod
      have HXB := hi0 hxb
      clear hod hxb
      go_cut [14] (fun s15 wx => s15 = .bool od ∧ wx = W11)
      case first =>
       by_cases hX0 : 0 < (dig B16 X).length
       · have hx0 : 0 < X := by have := a0f a0e X; omega
         have hcell := hr7.cells 0 hX0
         have hsol := hr7.solid
         have hd0 : dg (dig B16 X) 0 = X % B16 := by rw [d0m a0e hx0]; rfl
         rw [hd0] at hcell
         have hlt0 : X % B16 < 65536 := Nat.mod_lt _ e0p
         have hbit : (((X % B16 : Nat) : Int) % 2 == 1) = od := by
          rw [← HOD.out]
          by_cases h : X % 2 = 1
          · rw [decide_eq_true h]; exact beq_iff_eq.2 (by unfold B16; omega)
          · rw [decide_eq_false h]; exact bFn (by unfold B16; omega)
         generalize X % B16 = x0 at *
         clear hd0
         go_wp2_with fail
         go_meet
         exact ⟨rfl, rfl⟩
       · have hx0 : X = 0 := by have := a0f a0e X; omega
         have hod0 : od = false := by rw [← HOD.out, hx0]; rfl
         subst hod0
         have hX1 : ¬ (0 : Int) < ((dig B16 X).length : Int) := by omega
         clear hx0
         go_wp2_with fail
         go_meet
         exact ⟨rfl, rfl⟩
      case rest =>
       obtain ⟨rfl, rfl⟩ := hcut
       obtain ⟨ub, hub⟩ : ∃ ub, upP ng num den e wd way k1 = ub := ⟨_, rfl⟩
       have HUB := hi0 hub
       clear hub
       go_upto_region 16 with (fail)
       go_cut [127] (fun s wx => s = .bool ub ∧ Below wc.heap.size wc wx)
       case first =>
        have hYY := HYY.out
        have hXX := HXX.out
        have hZZ := HZZ.out
        have hUB := HUB.out
        unfold upP at hUB
        rw [hYY, hXX, hZZ, HOD.out] at hUB
        have HUB2 := hi0 hUB
        clear hYY hXX hZZ hUB
        cases xb
        · have hY0 : Y ≠ 0 := by
           have := HXB.out
           intro h0
           rw [h0, a0c] at this
           simp at this
          have HU3 : Hid (f0j way ng od (cmpN (Y * 2) Z) = ub) := by
           have := HUB2.out
           rw [decide_eq_true hY0, Bool.true_and] at this
           exact this
          have lY2 : (dig B16 (Y * 2)).length ≤ 3000000 := by have := d0r a0e Y 2; have := n0m; omega
          have l2 := Nat.le_of_eq n0m
          have HL2 := hi0 n0m.symm
          clear hY0
          go_region_held3 (fun w' => w'.cell? ⟨w8.heap.size, 3, none⟩ = some (.bool false) ∧ w'.cell? ⟨w.heap.size, 0, none⟩ = some (.bool ng))
           (first | exact ⟨P.e6.2.2.2.1, Q.e4.1⟩ | exact ⟨(P.drew).e6.2.2.2.1, (Q.drew).e4.1⟩ | exact ⟨((P.drew).laid _).e6.2.2.2.1, ((Q.drew).laid _).e4.1⟩ | exact ⟨(((P.drew).laid _).past hbs).e6.2.2.2.1, (((Q.drew).laid _).past hbs).e4.1⟩ | exact ⟨((((P.drew).laid _).past hbs).past hbk).e6.2.2.2.1, ((((Q.drew).laid _).past hbs).past hbk).e4.1⟩)
           (first
             | (go_at_call 59; refine (f0p q3 (some ⟨wc.heap.size, 0, none⟩) _ _ d3 1 Y 2 _ (hr8.drew.laid _) (f1f wc.drew _) rfl HL2.out (by omega)).mono ?_; rintro es ws ⟨ps, cs, rfl, hos, hcs, hfs, hbs⟩)
             | (go_at_call 60; refine (d0w ps r3 _ _ cs f3 _ _ _ hos ((hr9.drew.laid _).past hbs) rfl rfl (by omega) (by omega)).mono ?_; rintro ek wk ⟨rfl, hbk⟩)
             | (go_at_call 77; refine (u0u way ng od _ _ hw1 hw2).mono ?_; rintro ef wf ⟨rfl, rfl⟩))
          all_goals (go_wp2_with fail)
          all_goals go_meet
          all_goals (refine ⟨by rw [HU3.out], ?_⟩)
          all_goals (exact (((Below.refl _ _).drew.trans (b0w wc.drew _)).trans (hbs.mono (by simp))).trans (hbk.mono (by have hzd : wc.drew.heap.size = wc.heap.size := rfl; have := hbs.size; simp at this; omega)))
        · have hub0 : ub = false := by
           have h0 : Y = 0 := by
            have := HXB.out
            have h1 := a0f a0e Y
            have h2 : ((dig B16 Y).length : Int) = 0 := by simpa using this
            omega
           have := HUB2.out
           rw [h0] at this
           simpa using this.symm
          subst hub0
          obtain ⟨P_0, P_1, P_2, P_3, P_4, P_5⟩ := P.e6
          go_quiet (fail)
          go_wp2_with fail
          go_meet
          exact ⟨rfl, below_drewN (Below.refl _ _) _⟩
       case rest =>
        obtain ⟨rfl, hbc⟩ := hcut
        have hs12 := hs11.trans (hbc.mono hs11.size)
        replace Q := Q.past hbc
        replace G := G.past hbc
        replace R := R.past hbc
        replace P := P.past hbc
        replace hr7 := hr7.past hbc
        have hzc := hbc.size
        clear hbc hr9 hr8
        obtain ⟨dd, hdd⟩ : ∃ dd, digP ng num den e wd D way k1 = dd := ⟨_, rfl⟩
        obtain ⟨k2, hk2⟩ : ∃ k2, powP ng num den e wd D way k1 = k2 := ⟨_, rfl⟩
        have HDD : Hid (dd = (if ub = true ∧ wd * D < blen (X + if ub then 1 else 0) then 2 ^ N1 else X + if ub then 1 else 0) ∧ k2 = if ub = true ∧ wd * D < blen (X + if ub then 1 else 0) then k1 + 1 else k1) := by
         rw [← hdd, ← hk2]
         exact i0v (D := D) HUB.out HXX.out HN1.out
        have HDD0 := hi0 hdd
        have HKK0 := hi0 hk2
        clear hdd hk2
        have hzz2 : w8.heap.size < wc.heap.size := P.lt
        go_upto_if 127 with (fail)
        go_cut [10] (fun s11 wx => ∃ (p4 : Option Addr) (c4 : Nat), s11 = .slice p4 (dig B16 dd).length c4 ∧ Rd wx .i64 p4 (dig B16 dd) ∧ (0 < (dig B16 dd).length → W1.heap.size ≤ blk p4) ∧ (0 < (dig B16 dd).length → blk p4 ≠ w8.heap.size) ∧
          Bx wx w8.heap.size #[.bool ng, .slice none 0 0, .int .i64 k2, .bool xb, .bool false, .bool un] ∧ Keep w8.heap.size wc wx)
        case first =>
         cases ub
         · obtain ⟨rfl, rfl⟩ : dd = X ∧ k2 = k1 := by simpa using HDD.out
           go_wp2_with fail
           go_meet
           exact ⟨p3, c3, rfl, hr7, hf7, hn7, P, Below.keep (Below.refl _ _) _⟩
         · have lX1 : (dig B16 (X + 1)).length ≤ 2800000 := by have := f0b a0e X 1; have := n0n; omega
           have hbl := g0n (X + 1)
           have l1 := Nat.le_of_eq n0n
           have HL1 := hi0 n0n.symm
           go_wp2_with fail
           refine o0o (fun W13 hb13 hz13 L1 => ?_)
           replace G := G.past hb13
           replace P := P.past hb13
           replace hr7 := hr7.past hb13
           have hs13 := hb13
           ((with_reducible refine (j0a p3 (some ⟨wc.heap.size, 0, none⟩) _ _ c3 1 X 1 _ hr7 (c1n L1) rfl HL1.out (by omega)).mono ?_))
           rintro e14 w14 ⟨p6, c6, rfl, hr10, hc10, hf10, hb14⟩
           replace G := G.past hb14
           replace P := P.past hb14
           replace L1 := L1.past hb14
           replace hr7 := hr7.past hb14
           have hs14 := hs13.trans (hb14.mono hs13.size)
           obtain ⟨G_0, G_1, G_2, G_3, G_4⟩ := G.e5
           obtain ⟨P_0, P_1, P_2, P_3, P_4, P_5⟩ := P.e6
           have L1_0 := L1.e1
           go_wp2_with fail
           clear G_0 G_1 G_2 G_3 G_4 P_0 P_1 P_2 P_3 P_4 P_5 L1_0
           have hwD : wd * D ≤ 480 := Nat.le_trans (Nat.mul_le_mul wp.2 (show D ≤ 120 by omega)) (by omega)
           have e0 : IntKind.i64.wrap ((wd : Int) * (D : Int)) = ((wd * D : Nat) : Int) := by rw [IntWalk.i64_in _ (by rw [← Int.natCast_mul]; omega), Int.natCast_mul]
           obtain ⟨G_0, G_1, G_2, G_3, G_4⟩ := G.e5
           go_quiet ((go_at_call 75; exact Calls.quiet_of_same ((d0x p6 _ c6 (X + 1) _ (hr10.drewN _) rfl (by clear e0; omega)).mono fun _ _ h => ⟨h.1, h.2.symm⟩)))
           clear G_0 G_1 G_2 G_3 G_4
           have hb15 := below_drewN (Below.refl (w14).heap.size (w14)) nq
           replace G := G.past hb15
           replace P := P.past hb15
           replace L1 := L1.past hb15
           replace hr7 := hr7.past hb15
           replace hr10 := hr10.past hb15
           have hs15 := hs14.trans (hb15.mono hs14.size)
           generalize (w14).drewN nq = w15 at *
           clear e0
           have hz13 := hb13.size
           have hz14 := hb14.size
           by_cases hlong : wd * D < blen (X + 1)
           · obtain ⟨rfl, rfl⟩ : dd = 2 ^ N1 ∧ k2 = k1 + 1 := by simpa [hlong] using HDD.out
             go_wp2_with fail
             have e0 : IntKind.i64.wrap ((D : Int) - 1) = ((D - 1 : Nat) : Int) := by rw [iwo]; omega
             have e1 : IntKind.i64.wrap ((wd : Int) * ((D - 1 : Nat) : Int)) = (N1 : Int) := by rw [IntWalk.i64_in _ (by rw [← Int.natCast_mul, ← HN1.out]; omega), ← Int.natCast_mul, ← HN1.out]
             have e2 : IntKind.i64.wrap (k1 + 1) = k1 + 1 := iwo
             obtain ⟨P_0, P_1, P_2, P_3, P_4, P_5⟩ := P.e6
             have P_f0 := P.f 0
             have P_f1 := P.f 1
             have P_f2 := P.f 2
             have P_f3 := P.f 3
             have P_f4 := P.f 4
             have P_f5 := P.f 5
             obtain ⟨G_0, G_1, G_2, G_3, G_4⟩ := G.e5
             go_region_with (go_at_call 25; refine (j0b N1 _ (by clear e0 e1 e2; omega)).mono ?_; rintro ep wq ⟨pp, cp, rfl, hrp, hcp, hfp, hbp⟩; have PP := P.drew.past hbp; obtain ⟨PP_0, PP_1, PP_2, PP_3, PP_4, PP_5⟩ := PP.e6; have PP_f2 := PP.f 2; have GG := G.drew.past hbp; obtain ⟨GG_0, GG_1, GG_2, GG_3, GG_4⟩ := GG.e5)
             all_goals (clear e0 e1 e2)
             all_goals (have hzd : w15.drew.heap.size = w15.heap.size := rfl; have hz15 := hb15.size)
             all_goals (go_wp2_with fail)
             all_goals go_meet
             all_goals (have hO := e0u wq w8.heap.size 2 (.int .i64 (k1 + 1)))
             all_goals (exact ⟨pp, cp, rfl, hrp.only hO (fun h => by have := hfp h; omega), fun h => by have := hfp h; omega, fun h => by have := hfp h; omega, PP.set 2 _, (Below.keep (hs15.drew.trans (hbp.mono (by omega))) _).trans hO.keep⟩)
           · obtain ⟨rfl, rfl⟩ : dd = X + 1 ∧ k2 = k1 := by simpa [hlong] using HDD.out
             go_wp2_with fail
             go_meet
             exact ⟨p6, c6, rfl, hr10, fun h => by have := hf10 h; omega, fun h => by have := hf10 h; omega, P, Below.keep hs15 _⟩
        case rest =>
         obtain ⟨p4, c4, rfl, hr11, hf11, hn11, P, hkb⟩ := hcut
         have hs12z := hs12.size
         have hs15 := hs12.trans (hkb.below (B := w.heap.size) (by omega) hs12z)
         replace G := G.keep hkb (by omega)
         replace R := R.keep hkb (by omega)
         clear hkb
         obtain ⟨ov, hov⟩ : ∃ ov, decide (hi < k2) = ov := ⟨_, rfl⟩
         have HPF2 : Hid (pf = ⟨ng, dd, if dd = 0 then 0 else k2, xb, ov, un⟩) := by
          have h1 := HPF.out
          rw [z0s HW.out (Int.toNat_natCast D) HK1.out HDD0.out HKK0.out HYY.out] at h1
          have h6 := HXB.out; have h7 := HUN.out
          simp only at h1
          rw [hov, h7] at h1
          rw [← h1]
          have h9 : decide (Y = 0) = xb := by
           rw [← h6]
           have := a0f a0e Y
           by_cases h0 : Y = 0
           · rw [decide_eq_true h0, h0, a0c]; rfl
           · rw [decide_eq_false h0]; exact (bFn (by omega)).symm
          rw [h9]
          rfl
         go_wp2_with fail
         obtain ⟨P_0, P_1, P_2, P_3, P_4, P_5⟩ := P.e6
         have P_f0 := P.f 0
         have P_f1 := P.f 1
         have P_f2 := P.f 2
         have P_f3 := P.f 3
         have P_f4 := P.f 4
         have P_f5 := P.f 5
         obtain ⟨G_0, G_1, G_2, G_3, G_4⟩ := G.e5
         go_region
         have HOV := hi0 hov
         clear hov
         clear P_0 P_1 P_2 P_3 P_4 P_5 P_f0 P_f1 P_f2 P_f3 P_f4 P_f5 G_0 G_1 G_2 G_3 G_4
         have hK20 : Keep w8.heap.size wc ((wc.setCell ⟨w8.heap.size, 1, none⟩ (.slice p4 (dig B16 dd).length c4)).setCell ⟨w8.heap.size, 4, none⟩ (.bool ov)).drew :=
          ((e0u wc w8.heap.size 1 (.slice p4 (dig B16 dd).length c4)).trans (e0u _ w8.heap.size 4 (.bool ov))).keep.trans (Below.keep (Below.refl _ _).drew _)
         replace P : Bx ((wc.setCell ⟨w8.heap.size, 1, none⟩ (.slice p4 (dig B16 dd).length c4)).setCell ⟨w8.heap.size, 4, none⟩ (.bool ov)).drew w8.heap.size #[.bool ng, .slice p4 (dig B16 dd).length c4, .int .i64 k2, .bool xb, .bool ov, .bool un] := ((P.set 1 (.slice p4 (dig B16 dd).length c4)).set 4 (.bool ov)).drew
         replace R := R.keep hK20 (by omega)
         replace hr11 := hr11.keep hK20 hn11
         have hs15z := hs15.size
         have hs20 := hs15.trans (hK20.below (B := w.heap.size) (by omega) hs15z)
         clear hK20
         generalize ((wc.setCell ⟨w8.heap.size, 1, none⟩ (.slice p4 (dig B16 dd).length c4)).setCell ⟨w8.heap.size, 4, none⟩ (.bool ov)).drew = W20 at *
         by_cases hd0 : dd = 0
         · have hdl : (((dig B16 dd).length : Int) == 0) = true := by rw [hd0, a0c]; rfl
           have HD0 := hi0 hd0
           clear hd0
           obtain ⟨P_0, P_1, P_2, P_3, P_4, P_5⟩ := P.e6
           have P_f0 := P.f 0
           have P_f1 := P.f 1
           have P_f2 := P.f 2
           have P_f3 := P.f 3
           have P_f4 := P.f 4
           have P_f5 := P.f 5
           go_upto_region 23 with (fail)
           clear P_0 P_1 P_2 P_3 P_4 P_5 P_f0 P_f1 P_f2 P_f3 P_f4 P_f5
           refine a1i P (fun W17 hO17 P => ?_)
           replace P : Bx W17 w8.heap.size #[.bool ng, .slice p4 (dig B16 dd).length c4, .int .i64 0, .bool xb, .bool ov, .bool un] := P
           replace R := R.only hO17 (by omega)
           replace hr11 := hr11.only hO17 hn11
           have hs17 := hs20.trans (hO17.below (B := w.heap.size) (by omega))
           clear hO17
           obtain ⟨P_0, P_1, P_2, P_3, P_4, P_5⟩ := P.e6
           obtain ⟨R_0, R_1, R_2, R_3, R_4, R_5⟩ := R.e6
           have R_f0 := R.f 0
           have R_f1 := R.f 1
           have R_f2 := R.f 2
           have R_f3 := R.f 3
           have R_f4 := R.f 4
           have R_f5 := R.f 5
           go_wp2_with fail
           clear P_0 P_1 P_2 P_3 P_4 P_5 R_0 R_1 R_2 R_3 R_4 R_5 R_f0 R_f1 R_f2 R_f3 R_f4 R_f5
           obtain ⟨R_0, R_1, R_2, R_3, R_4, R_5⟩ := R.e6
           refine bodyPost_ret (v := .agg #[.bool ng, .slice p4 (dig B16 dd).length c4, .int .i64 0, .bool xb, .bool ov, .bool un]) (by simp [results, Tryz.results21, go_sem, R_0, R_1, R_2, R_3, R_4, R_5]) rfl ?_
           rw [HPF2.out, if_pos HD0.out]
           have hO := p0y W17 (w.heap.size + 1 + 1) (.bool ng) (.slice p4 (dig B16 dd).length c4) (.int .i64 0) (.bool xb) (.bool ov) (.bool un)
           exact ⟨p4, c4, rfl, hr11.only hO (fun h => by have := hf11 h; omega), fun h => by have := hf11 h; omega, hs17.trans (hO.below (by omega))⟩
         · have hdl : (((dig B16 dd).length : Int) == 0) = false := bFn (by have := a0f a0e dd; omega)
           have HD0 := hi0 hd0
           clear hd0
           obtain ⟨P_0, P_1, P_2, P_3, P_4, P_5⟩ := P.e6
           obtain ⟨R_0, R_1, R_2, R_3, R_4, R_5⟩ := R.e6
           have R_f0 := R.f 0
           have R_f1 := R.f 1
           have R_f2 := R.f 2
           have R_f3 := R.f 3
           have R_f4 := R.f 4
           have R_f5 := R.f 5
           go_wp2_with fail
           clear P_0 P_1 P_2 P_3 P_4 P_5 R_0 R_1 R_2 R_3 R_4 R_5 R_f0 R_f1 R_f2 R_f3 R_f4 R_f5
           obtain ⟨R_0, R_1, R_2, R_3, R_4, R_5⟩ := R.e6
           refine bodyPost_ret (v := .agg #[.bool ng, .slice p4 (dig B16 dd).length c4, .int .i64 k2, .bool xb, .bool ov, .bool un]) (by simp [results, Tryz.results21, go_sem, R_0, R_1, R_2, R_3, R_4, R_5]) rfl ?_
           rw [HPF2.out, if_neg HD0.out]
           have hO := p0y W20 (w.heap.size + 1 + 1) (.bool ng) (.slice p4 (dig B16 dd).length c4) (.int .i64 k2) (.bool xb) (.bool ov) (.bool un)
           exact ⟨p4, c4, rfl, hr11.only hO (fun h => by have := hf11 h; omega), fun h => by have := hf11 h; omega, hs20.trans (hO.below (by omega))⟩
  · have hC : ((blen (qP num den (e - wd * k)) : Nat) : Int) < (N1 : Int) + 1 := by
     unfold e0t at hfull
     rw [← HN1.out] at hfull
     have := (b0i (qP num den (e - wd * k)) N1)
     omega
    have hk1 : K ≤ k - 1 := by
     rcases Int.lt_or_le (k - 1) K with h | h
     · obtain rfl : k = K := by omega
       exact absurd HK.out.yes hfull
     · exact h
    clear hfull
    have hmk2 : -620000 ≤ (wd : Int) * (k - 1) ∧ (wd : Int) * (k - 1) ≤ 620000 := by rw [Int.mul_sub]; omega
    obtain ⟨Q_0, Q_1, Q_2, Q_3⟩ := Q.e4
    go_wp2_with fail
    clear Q_0 Q_1 Q_2 Q_3
    ((with_reducible refine (h0w ng p q c d num den e ((wd : Int) * (k - 1)) _ hp hq (by omega) (by omega) hd (by omega) (by omega)).mono ?_))
    rintro e9 w9 ⟨p3, c3, q3, d3, r3, f3, rfl, hr7, hf7, hr8, hf8, hr9, -, hb9⟩
    replace Q := Q.past hb9
    replace G := G.past hb9
    replace R := R.past hb9
    replace hp := hp.past hb9
    replace hq := hq.past hb9
    have hs9 := hs8.trans (hb9.mono hs8.size)
    go_wp2_with fail
    have hsw8 : W1.heap.size ≤ w8.heap.size := by have := hb5.size; have := hb7.size; have := hb8.size; omega
    go_roundg (gk - 1)
    case measure => omega
    case rel => exact ⟨k - 1, p3, q3, r3, c3, d3, f3, by go_num, by omega, by omega, hk1, rfl, rfl, rfl, hr7, fun h => Nat.le_trans hsw8 (hf7 h), hr8, hr9, (hb7.trans (hb8.mono hb7.size)).trans (hb9.mono (Nat.le_trans hb7.size hb8.size))⟩
theorem o0b (ng : Bool) (p q : Option Addr) (c d : Nat) (num den : Nat) (e : Int) (g : Gd) (way : Int) (w : World) (hp : Rd w .i64 p (dig B16 num)) (hq : Rd w .i64 q (dig B16 den))
 (hl : (dig B16 num).length ≤ 20000) (hl2 : (dig B16 den).length ≤ 20000) (hd : 0 < den) (he : -200000 ≤ e ∧ e ≤ 200000) (G : h0g g) (hw1 : 1 ≤ way) (hw2 : way ≤ 5) :
 Calls Tryz.prog 21 #[.agg #[.bool ng, .slice p (dig B16 num).length c, .slice q (dig B16 den).length d, .int .i64 e], .agg #[.int .i64 g.rad, .int .i64 g.digs, .int .i64 g.lo, .int .i64 g.hi, .bool g.grad], .int .i64 way] w (v0b w (a0l ng num den e g way)) := by
 by_cases hn : num = 0
 · subst hn
   have h := n0l ng p q c d (dig B16 den).length e g way w
   unfold a0l
   rw [if_pos rfl, a0c]
   exact h
 · unfold a0l
   rw [if_neg hn]
   have wp := b0c g
   have hd1 := G.d1
   exact o0a ng p q c d num den e g way _ w hp hq hl hl2 (by omega) hd he G hw1 hw2 (m0k (by omega) hd e (by omega) (by omega))
theorem g0c (n : Int) (w : World) (hn : IsFm n) : Calls Tryz.prog 86 #[.int .i64 n] w fun en w' => en = .returned (.agg #[.int .i64 (((fmt n).nothM.cls : Nat) : Int), .bool false, .bool false, .slice none 0 0, .int .i64 0]) ∧ Below w.heap.size w w' := by
 have HF := fun W => hi0 (b0e n W)
 rw [decide_eq_true hn] at HF
 have G := b0s hn
 generalize fmt n = f at *
 have hf := G.fam
 unfold Fm.nothM
 simp only
 rcases hf with h | h | h
 · rw [h] at HF ⊢
   clear h
   have I := Inv.start w [] True.intro
   refine a0d [.v (.int .i64 n)] I Tryz.func86 ?_
   refine zq I (fun Al W I => (HF W).out) fun Al W I => ?_
   exact zrb I
 · rw [h] at HF ⊢
   clear h
   have I := Inv.start w [] True.intro
   refine a0d [.v (.int .i64 n)] I Tryz.func86 ?_
   refine zq I (fun Al W I => (HF W).out) fun Al W I => ?_
   exact zrb I
 · rw [h] at HF ⊢
   clear h
   have I := Inv.start w [] True.intro
   refine a0d [.v (.int .i64 n)] I Tryz.func86 ?_
   refine zq I (fun Al W I => (HF W).out) fun Al W I => ?_
   exact zrb I
theorem h0x (n : Int) (g : Bool) (w : World) (hn : IsFm n) : Calls Tryz.prog 51 #[.int .i64 n, .bool g] w fun en w' => en = .returned (.agg #[.int .i64 1, .bool (g && decide ((fmt n).fam = 1)), .bool false, .slice none 0 0, .int .i64 0]) ∧ Below w.heap.size w w' := by
 have HF := fun W => hi0 (b0e n W)
 rw [decide_eq_true hn] at HF
 have G := b0s hn
 generalize fmt n = f at *
 have hb1 : ((f.fam : Int) == 1) = decide (f.fam = 1) := by rw [Bool.eq_iff_iff]; simp; omega
 generalize decide (f.fam = 1) = q at *
 cases g
 · have I := Inv.start w [] True.intro
   refine a0d [.v (.int .i64 n), .v (.bool false)] I Tryz.func51 ?_
   refine zq I (fun Al W I => (HF W).out) fun Al W I => ?_
   exact zrb I
 · have I := Inv.start w [] True.intro
   refine a0d [.v (.int .i64 n), .v (.bool true)] I Tryz.func51 ?_
   refine zq I (fun Al W I => (HF W).out) fun Al W I => ?_
   refine zb I 16 ((f.fam : Int) == 1) (q) (hb1) fun Al W I => ?_
   exact zrb I
def GVr (w : World) (r : Vr) (en : Ending) (w' : World) : Prop :=
 ∃ p c, en = .returned (.agg #[.int .i64 (r.cls : Int), .bool r.neg, .bool r.x.neg, .slice p (dig B16 r.x.m).length c, .int .i64 r.x.e]) ∧ Rf w' w.heap.size p c (dig B16 r.x.m) ∧ Below w.heap.size w w'
def GVf (w : World) (base : Nat) (r : Vr × Nat) (en : Ending) (w' : World) : Prop :=
 ∃ p c, en = .returned (.tuple #[.agg #[.int .i64 ((r.1.cls : Nat) : Int), .bool r.1.neg, .bool r.1.x.neg, .slice p (dig B16 r.1.x.m).length c, .int .i64 r.1.x.e], .int .i64 ((r.2 : Nat) : Int)]) ∧ Rf w' base p c (dig B16 r.1.x.m) ∧ Below w.heap.size w w'
theorem b0h {w w' : World} {base k fl : Nat} {g : Bool} {en : Ending} (h : en = .returned (.tuple #[.agg #[.int .i64 (k : Int), .bool g, .bool false, .slice none 0 0, .int .i64 0], .int .i64 (fl : Int)])) (hb : Below w.heap.size w w') : GVf w base (⟨k, g, vz⟩, fl) en w' := by
 refine ⟨none, 0, ?_, ?_, hb⟩
 · rw [h]; show _ = Ending.returned (.tuple #[.agg #[_, _, _, .slice none (dig B16 0).length 0, _], _]); rw [a0c]; rfl
 · show Rf _ _ _ _ (dig B16 0); rw [a0c]; exact m0p _ _ _
theorem h0y (n : Int) (g : Bool) (w : World) (hn : IsFm n) : Calls Tryz.prog 123 #[.int .i64 n, .bool g] w (GVr w ((fmt n).greatM g)) := by
 have HF := fun W => hi0 (b0e n W)
 rw [decide_eq_true hn] at HF
 have G := b0s hn
 have HW := fun W => hi0 (c0i (fmt n).g W)
 generalize fmt n = f at *
 have GG := b0r G.g
 have d1 := GG.d1
 have d2 := GG.d2
 have h1 := GG.h1
 have h2 := GG.h2
 have wp := b0c f.g
 have hmw : ((wid f.g * f.g.digs.toNat : Nat) : Int) = (wid f.g : Nat) * f.g.digs := by rw [Int.natCast_mul, Int.toNat_of_nonneg (by omega)]
 have hmb : wid f.g * f.g.digs.toNat ≤ 4 * 120 := Nat.mul_le_mul wp.2 (by omega)
 have hmu := k0d (wd := wid f.g) (k := f.g.hi) (B := 17000) wp.2 (by omega)
 have hx1 : (dig B16 (2 ^ (wid f.g * f.g.digs.toNat))).length ≤ 40 := e0w (k := wid f.g * f.g.digs.toNat + 1) (Nat.pow_lt_pow_right (by omega) (Nat.lt_succ_self _)) (by omega)
 have hx2 : (dig B16 (2 ^ (wid f.g * f.g.digs.toNat) - 1)).length ≤ 40 := Nat.le_trans (a0k a0e (Nat.sub_le _ _)) hx1
 have hp1 := Nat.one_le_two_pow (n := wid f.g * f.g.digs.toNat)
 obtain ⟨d, hd⟩ : ∃ d, bare ⟨g, 2 ^ (wid f.g * f.g.digs.toNat) - 1, wid f.g * f.g.hi⟩ = d := ⟨_, rfl⟩
 have hM : f.greatM g = ⟨2, g, d⟩ := by unfold Fm.greatM; rw [hd]
 rw [hM]
 generalize wid f.g * f.g.digs.toNat = N at *
 generalize hX : 2 ^ N = X at *
 have HX := hi0 hX
 generalize hhi : (wid f.g : Int) * f.g.hi = hi at *
 have HHI := hi0 hhi
 have HM := hi0 hmw
 have HB := fun W p c h => hi0 (i0p g p _ c hi (X - 1) d W h rfl (by omega) (by omega) hd)
 clear hmw hX hhi hd hM
 have I := Inv.start w [] True.intro
 refine a0d [.v (.int .i64 n), .v (.bool g)] I Tryz.func123 ?_
 refine zq I (fun Al W I => (HF W).out) fun Al W I => ?_
 refine zq I (fun Al W I => (HW W).out) fun Al W I => ?_
 refine zcut I none (fun fr bx gs => ∃ (U1 : Nat → Value) (p32 : Option Addr) (c32 : Nat), fr = (.v (.int .i64 n) :: .v (.bool g) :: su 2 (.p 0 0 :: .p 1 0 :: .v (U1 6) :: .v (.int .i64 ((wid f.g : Nat) : Int)) :: sw U1 8 26 []) : List SV) ∧ bx = [⟨32, [.v (.int .i64 2), .v (.bool g), .v (.bool d.neg), .v (.slice p32 (dig B16 d.m).length c32), .v (.int .i64 d.e)], false⟩, ⟨62, [.v (.int .i64 (f.size : Int)), .v (.int .i64 (f.E : Int)), .v (.int .i64 (f.F : Int)), .v (.int .i64 f.g.rad), .v (.int .i64 f.g.digs), .v (.int .i64 f.g.lo), .v (.int .i64 f.g.hi), .v (.bool f.g.grad), .v (.int .i64 (f.fam : Int))], false⟩, ⟨3, [.v (.int .i64 1)], false⟩] ∧ gs = [rfF w.heap.size p32 c32 (dig B16 d.m)]) ?_ ?_
 · intro J hJ Al W I
   refine zd [0] I fun Al W I => ?_
   refine zk [0, 1, 2, 3, 4, 5] I fun I => ?_
   refine zki 6 I .i64 (((wid f.g : Nat) : Int) * f.g.digs) ((N : Int)) ((by rw [HM.out]; exact IntWalk.i64_in _ (by rw [← HM.out]; omega))) fun I => ?_
   refine zk [10, 11, 12, 13] I fun I => ?_
   refine zki 14 I .i64 (((wid f.g : Nat) : Int) * f.g.hi) (hi) ((by rw [HHI.out]; exact iwo)) fun I => ?_
   refine zo2 7 8 I (fun I => ?_) (fun I => ?_)
   · refine zqr I (fun Al W I => have hzW := I.bel.size; (by have := s0x (N : Int) N rfl (by omega) W; rw [HX.out] at this; exact this)) fun Al W p23 c23 I => ?_
     refine zo 8 I fun I => ?_
     refine zn I fun Al W I => ?_
     refine zo 9 I fun I => ?_
     refine zqr I (fun Al W I => have hzW := I.bel.size; i1h p23 (some ⟨(lk 0 Al 2), 0, none⟩) _ 1 c23 1 X 1 (X - 1) W I.fa.1.rd (w0n (I.box 2 3 _)).rd rfl h0v (by omega) (by omega) rfl) fun Al W p25 c25 I => ?_
     refine zk [15] I fun I => ?_
     refine zo 16 I fun I => ?_
     refine zqr I (fun Al W I => (HB W p25 c25 I.fa.1.rd).out) fun Al W p32 c32 I => ?_
     refine zk [17] I fun I => ?_
     refine zo 18 I fun I => ?_
     refine zn I fun Al W I => ?_
     exact a0y I J fun Al W U I => hJ _ _ _ _ _ ⟨U, p32, c32, rfl, rfl, rfl⟩ (I.pick [0])
   refine zn I fun Al W I => ?_
   refine zo 7 I fun I => ?_
   refine zqr I (fun Al W I => have hzW := I.bel.size; (by have := s0x (N : Int) N rfl (by omega) W; rw [HX.out] at this; exact this)) fun Al W p23 c23 I => ?_
   refine zo 9 I fun I => ?_
   refine zqr I (fun Al W I => have hzW := I.bel.size; i1h p23 (some ⟨(lk 0 Al 2), 0, none⟩) _ 1 c23 1 X 1 (X - 1) W I.fa.1.rd (w0n (I.box 2 3 _)).rd rfl h0v (by omega) (by omega) rfl) fun Al W p25 c25 I => ?_
   refine zk [15] I fun I => ?_
   refine zo 16 I fun I => ?_
   refine zqr I (fun Al W I => (HB W p25 c25 I.fa.1.rd).out) fun Al W p32 c32 I => ?_
   refine zk [17] I fun I => ?_
   refine zo 18 I fun I => ?_
   refine zn I fun Al W I => ?_
   exact a0y I J fun Al W U I => hJ _ _ _ _ _ ⟨U, p32, c32, rfl, rfl, rfl⟩ (I.pick [0])
 rintro _ _ _ ⟨U1, p32, c32, rfl, rfl, rfl⟩ Al W I
 exact zret I fun Al W I => ⟨p32, c32, rfl, I.fa.1, I.below⟩
theorem _root_.Go.Slip.Bx.b3 {w : World} {b : Nat} {v0 v1 v2 : Value} (h : Bx w b #[v0, v1, v2]) : Box3 w b v0 v1 v2 :=
 ⟨h.e3.1, h.e3.2.1, h.e3.2.2, h.f 0, h.f 1, h.f 2, h.lt⟩
structure Pin where
 g : Bool
 p : Option Addr
 c : Nat
 xs : List Nat
 k : Int
 x : Bool
 o : Bool
 u : Bool
structure InP (w : World) (a : Pin) : Prop where
 rd : Rd w .u32 a.p a.xs
 cap : a.xs.length ≤ a.c
 len : a.xs.length ≤ 9223372036854775807
 lt : ∀ x ∈ a.xs, x < B32
theorem InP.past {w w' : World} {a : Pin} (h : InP w a) (hb : Below w.heap.size w w') : InP w' a := ⟨h.rd.past hb, h.cap, h.len, h.lt⟩
theorem y0c (g : Bool) (p : Option Addr) (n c : Nat) (e : Int) (w : World) :
 Calls Tryz.prog 157 #[.agg #[.bool g, .slice p n c, .int .i64 e]] w fun en w' => ∃ q d, en = .returned (.agg #[.bool g, .slice p n c, .slice q (dig B32 1).length d, .int .i64 e]) ∧ Own w' w.heap.size .u32 141 q d (dig B32 1) ∧ Below w.heap.size w w' := by
 go_enter Tryz.func157, Tryz.ntmps157
 go_wp2_with fail
 refine h1g (fun W1 hb1 hz1 A R => ?_)
 have hs1 := hb1
 have hzd : W1.drew.heap.size = W1.heap.size := rfl
 have HZD := hi0 hzd
 clear hzd
 go_region_held3 (fun w' => w'.cell? ⟨w.heap.size, 0, none⟩ = some (.bool g) ∧ w'.cell? ⟨w.heap.size, 1, none⟩ = some (.slice p n c) ∧ w'.cell? ⟨w.heap.size, 2, none⟩ = some (.int .i64 e))
  (first
    | with_reducible exact A.e3
    | with_reducible exact A.drew.e3
    | with_reducible exact (A.drew.past hbx).e3
    | with_reducible exact ((A.drew.past hbx).only (j1t _ _ _ _ _ _) (by omega)).e3)
  (first
    | (go_at_call 65; ((with_reducible refine (u0r _).mono ?_)); rintro ex wx ⟨px, cx, rfl, hox, hbx⟩; (have RR := R.drew.past hbx); obtain ⟨R_0, R_1, R_2, R_3⟩ := RR.e4; (have R_f0 := RR.f 0); (have R_f1 := RR.f 1); (have R_f2 := RR.f 2); (have R_f3 := RR.f 3)))
 all_goals (go_wp2_with fail)
 refine bodyPost_ret (v := .agg #[.bool g, .slice p n c, .slice px (dig B32 1).length cx, .int .i64 e]) (by simp [results, Tryz.results157, go_sem, R_0, R_1, R_2, R_3]) rfl ?_
 have hzd := HZD.out
 have hO := j1t wx (w.heap.size + 1) (.bool g) (.slice p n c) (.slice px (dig B32 1).length cx) (.int .i64 e)
 have hz := hs1.size
 exact ⟨px, cx, rfl, (hox.only hO (fun h => by have := (hox.blk_lt h).1; omega)).mono (by omega), (hs1.drew.trans (hbx.mono hz)).trans (hO.below (by omega))⟩
theorem p0b (s : Bool) (p : Option Addr) (c : Nat) (e : Int) (m : Nat) (g : Gd) (w : World) (hp : Rd w .u32 p (dig B32 m)) (hl : (dig B32 m).length ≤ 100000) (he : -1000000 ≤ e ∧ e ≤ 1000000) (G : h0g g) :
 Calls Tryz.prog 101 #[.agg #[.bool s, .slice p (dig B32 m).length c, .int .i64 e], .agg #[.int .i64 g.rad, .int .i64 g.digs, .int .i64 g.lo, .int .i64 g.hi, .bool g.grad]] w fun en w' => en = .returned (.bool (j0t ⟨s, m, e⟩ g)) ∧ Below w.heap.size w w' := by
 by_cases h0 : m = 0
 · have hk : j0t ⟨s, m, e⟩ g = true := by unfold j0t; rw [if_pos h0]
   have HS := hi0 (show g0g ⟨s, m, e⟩ = 0 by unfold g0g; rw [if_pos h0])
   rw [hk]
   clear hk h0
   go_enter Tryz.func101, Tryz.ntmps101
   go_wp2_with fail
   refine o0p (fun W1 hb1 hz1 A B => ?_)
   have hs1 := hb1
   ((with_reducible refine (e0i s p _ c e m _ rfl).mono ?_))
   rintro e2 w2 ⟨rfl, hb2⟩
   rw [HS.out]
   go_wp2
   go_ret
   exact ⟨rfl, hs1.trans (hb2.mono hs1.size)⟩
 · have hsg := j0q (g := s) (e := e) (show 0 < m by omega)
   have wp := b0c g
   have hd1 := G.d1
   have hK := z0t (show 0 < m by omega) e (w := wid g) (D := g.digs.toNat) wp.1 (by omega)
   have hl1 : (dig B32 1).length ≤ 1 := by rw [a0g a0b]; unfold B32; omega
   have HF := fun W q d (h1 : Rd W .u32 p (dig B32 m)) (h2 : Rd W .u32 q (dig B32 1)) => hi0 (u0t s p q c d m 1 e g 3 _ W h1 h2 hl (by omega) (by omega) (by omega) he G (by omega) (by omega) hK)
   have hkk : j0t ⟨s, m, e⟩ g = ((fitK s m 1 e g 3 ((e + blen m - 1) / wid g - g.digs.toNat + 1)).exact && !(fitK s m 1 e g 3 ((e + blen m - 1) / wid g - g.digs.toNat + 1)).over && (!(fitK s m 1 e g 3 ((e + blen m - 1) / wid g - g.digs.toNat + 1)).under || g.grad)) := by
    unfold j0t
    rw [if_neg h0]
    rfl
   rw [hkk]
   generalize fitK s m 1 e g 3 ((e + blen m - 1) / wid g - g.digs.toNat + 1) = pf at *
   clear hkk h0 hK hd1 wp
   generalize hds : g0g ⟨s, m, e⟩ = sg0 at *
   have HSG := hi0 hds
   clear hds
   go_enter Tryz.func101, Tryz.ntmps101
   go_wp2_with fail
   refine o0p (fun W1 hb1 hz1 A B => ?_)
   replace hp := hp.past hb1
   have hs1 := hb1
   ((with_reducible refine (e0i s p _ c e m _ rfl).mono ?_))
   rintro e2 w2 ⟨rfl, hb2⟩
   rw [HSG.out]
   replace A := A.past hb2
   replace B := B.past hb2
   replace hp := hp.past hb2
   have hs2 := hs1.trans (hb2.mono hs1.size)
   go_wp2_with fail
   have hAl := A.lt
   have hBl := B.lt
   have hzd : w2.drew.heap.size = w2.heap.size := rfl
   have HZD := hi0 hzd
   clear hzd
   go_cut [5] (fun s5 wx => ∃ (kx : Nat) (px : Option Addr) (cx : Nat), s5 = .pointer (some ⟨kx, 0, none⟩) ∧ Bx wx kx #[.bool pf.neg, .slice px (dig B32 pf.d).length cx, .int .i64 pf.pow, .bool pf.exact, .bool pf.over, .bool pf.under] ∧ w2.heap.size ≤ kx ∧ Below w2.heap.size w2 wx)
   case first =>
    go_region_held3 (fun w' => (w'.cell? ⟨w.heap.size, 0, none⟩ = some (.bool s) ∧ w'.cell? ⟨w.heap.size, 1, none⟩ = some (.slice p (dig B32 m).length c) ∧ w'.cell? ⟨w.heap.size, 2, none⟩ = some (.int .i64 e)) ∧
        (w'.cell? ⟨w.heap.size + 1, 0, none⟩ = some (.int .i64 g.rad) ∧ w'.cell? ⟨w.heap.size + 1, 1, none⟩ = some (.int .i64 g.digs) ∧ w'.cell? ⟨w.heap.size + 1, 2, none⟩ = some (.int .i64 g.lo) ∧ w'.cell? ⟨w.heap.size + 1, 3, none⟩ = some (.int .i64 g.hi) ∧ w'.cell? ⟨w.heap.size + 1, 4, none⟩ = some (.bool g.grad)))
     (first
     | with_reducible exact ⟨A.e3, B.e5⟩
     | with_reducible exact ⟨(A.drew).e3, (B.drew).e5⟩
     | with_reducible exact ⟨((A.laid _).drew).e3, ((B.laid _).drew).e5⟩
     | with_reducible exact ⟨(((A.laid _).drew).past hbx).e3, (((B.laid _).drew).past hbx).e5⟩
     | with_reducible exact ⟨((A.drew).past hbx).e3, ((B.drew).past hbx).e5⟩
     | with_reducible exact ⟨(((A.drew).past hbx).laid _).e3, (((B.drew).past hbx).laid _).e5⟩
     | with_reducible exact ⟨((((A.laid _).drew).past hbx).past hby).e3, ((((B.laid _).drew).past hbx).past hby).e5⟩
     | with_reducible exact ⟨((((A.drew).past hbx).laid _).past hby).e3, ((((B.drew).past hbx).laid _).past hby).e5⟩
     | with_reducible exact ⟨(((A.drew).past hbx).past hby).e3, (((B.drew).past hbx).past hby).e5⟩
     | with_reducible exact ⟨((((A.drew).past hbx).past hby).laid _).e3, ((((B.drew).past hbx).past hby).laid _).e5⟩
     | with_reducible exact ⟨(((((A.laid _).drew).past hbx).past hby).only (p0y _ _ _ _ _ _ _ _) (by omega)).e3, (((((B.laid _).drew).past hbx).past hby).only (p0y _ _ _ _ _ _ _ _) (by omega)).e5⟩
     | with_reducible exact ⟨(((((A.drew).past hbx).laid _).past hby).only (p0y _ _ _ _ _ _ _ _) (by omega)).e3, (((((B.drew).past hbx).laid _).past hby).only (p0y _ _ _ _ _ _ _ _) (by omega)).e5⟩)
     (first
       | (go_at_call 157; ((with_reducible refine (y0c s p _ c e _).mono ?_)); rintro ex wx ⟨qx, dx, rfl, hox, hbx⟩; (have hzx : w2.heap.size ≤ wx.heap.size := by have := hbx.size; simp at this; omega))
       | (go_at_call 72; (first
           | with_reducible refine (HF _ qx dx (hp.drew.past hbx) hox.rd).out.mono ?_
           | with_reducible refine (HF _ qx dx ((hp.laid _).drew.past hbx) hox.rd).out.mono ?_
           | with_reducible refine (HF _ qx dx ((hp.drew.past hbx).laid _) (hox.rd.laid _)).out.mono ?_); rintro ey wy ⟨py, cy, rfl, hoy, hby⟩; (first
           | (have XX := (j0w w2 #[.bool false, .slice none 0 0, .int .i64 0, .bool false, .bool false, .bool false] 87).drew.past hbx |>.past hby; obtain ⟨X_0, X_1, X_2, X_3, X_4, X_5⟩ := XX.e6; have X_f0 := XX.f 0; have X_f1 := XX.f 1; have X_f2 := XX.f 2; have X_f3 := XX.f 3; have X_f4 := XX.f 4; have X_f5 := XX.f 5)
           | (have XX := (j0w wx #[.bool false, .slice none 0 0, .int .i64 0, .bool false, .bool false, .bool false] 87).past hby; obtain ⟨X_0, X_1, X_2, X_3, X_4, X_5⟩ := XX.e6; have X_f0 := XX.f 0; have X_f1 := XX.f 1; have X_f2 := XX.f 2; have X_f3 := XX.f 3; have X_f4 := XX.f 4; have X_f5 := XX.f 5)
           | skip)))
    all_goals (go_wp2_with fail)
    all_goals go_meet
    · have hzy := hby.size
      exact ⟨wy.heap.size, py, cy, rfl, j0w wy _ _, by omega, (((Below.refl w2.heap.size w2).drew.trans hbx).trans (hby.mono hzx)).trans ((b0w wy _).mono (by omega))⟩
    · have hzy := hby.size
      rw [World.size_alloc] at hzy
      have hO := p0y wy wx.heap.size (.bool pf.neg) (.slice py (dig B32 pf.d).length cy) (.int .i64 pf.pow) (.bool pf.exact) (.bool pf.over) (.bool pf.under)
      exact ⟨wx.heap.size, py, cy, rfl, XX.put6 _ _ _ _ _ _, hzx, ((((Below.refl w2.heap.size w2).drew.trans hbx).trans ((b0w wx _).mono hzx)).trans (hby.mono (by rw [World.size_alloc]; omega))).trans (hO.below hzx)⟩
    · have hzy := hby.size
      have hO := p0y wy w2.heap.size (.bool pf.neg) (.slice py (dig B32 pf.d).length cy) (.int .i64 pf.pow) (.bool pf.exact) (.bool pf.over) (.bool pf.under)
      exact ⟨w2.heap.size, py, cy, rfl, XX.put6 _ _ _ _ _ _, Nat.le_refl _, ((((b0w w2 _).drew).trans (hbx.mono (by simp))).trans (hby.mono hzx)).trans (hO.below (Nat.le_refl _))⟩
   case rest =>
    obtain ⟨kx, px, cx, rfl, X, hkx, hbc⟩ := hcut
    have hs4 := hs2.trans (hbc.mono hs2.size)
    replace B := B.past hbc
    clear hbc
    obtain ⟨png, pd, ppw, pex, pov, pun⟩ := pf
    obtain ⟨X_0, X_1, X_2, X_3, X_4, X_5⟩ := X.e6
    obtain ⟨B_0, B_1, B_2, B_3, B_4⟩ := B.e5
    simp only at X_3 X_4 X_5 ⊢
    clear HF
    generalize hgr : g.grad = gr at *
    have HGR := hi0 hgr
    clear hgr
    cases pex <;> cases pov <;> cases pun <;> cases gr <;> (go_wp2; go_ret; exact ⟨by first | rfl | (rw [HGR.out]; rfl), hs4⟩)
end Go.Proofs.YtmacohmclpnphaaGreatDoor
namespace Go.Slip
theorem f1g {s : Bool} {m : Nat} {e : Int} {g : Gd} (G : h0g g) (hin : b0n ⟨s, m, e⟩ g = true) (h0 : m ≠ 0) :
 (fitK s m 1 e g 3 ((e + blen m - 1) / wid g - g.digs.toNat + 1)).d = qP m 1 (e - wid g * stepK ⟨s, m, e⟩ g) ∧
 ((fitK s m 1 e g 3 ((e + blen m - 1) / wid g - g.digs.toNat + 1)).d ≠ 0 → (fitK s m 1 e g 3 ((e + blen m - 1) / wid g - g.digs.toNat + 1)).pow = stepK ⟨s, m, e⟩ g) ∧
 (fitK s m 1 e g 3 ((e + blen m - 1) / wid g - g.digs.toNat + 1)).d ≠ 0 := by
 have hb := z0w G hin h0
 simp only at hb
 have hp : powK g ((e + blen m - 1) / wid g - g.digs.toNat + 1) = stepK ⟨s, m, e⟩ g := by
  have eK : stepK ⟨s, m, e⟩ g = max g.lo ((e + blen m - 1) / wid g - g.digs.toNat + 1) := rfl
  rw [eK]
  unfold powK
  by_cases h1 : (e + blen m - 1) / wid g - g.digs.toNat + 1 < g.lo
  · by_cases h2 : g.grad = true
    · rw [if_pos ⟨h1, h2⟩]; omega
    · exfalso
      unfold b0n at hin
      rw [if_neg h0] at hin
      have eU : upK ⟨s, m, e⟩ (wid g) g.digs.toNat = (e + blen m - 1) / wid g - g.digs.toNat + 1 := rfl
      rw [eU] at hin
      rw [if_pos h1, if_neg h2] at hin
      simp at hin
  · rw [if_neg (fun h => h1 h.1)]; omega
 unfold fitK
 simp only
 rw [hp, z0u, s0d]
 have hq : qP m 1 (e - wid g * stepK ⟨s, m, e⟩ g) ≠ 0 := by
  unfold qP numP denP
  rw [show (-(e - wid g * stepK ⟨s, m, e⟩ g)).toNat = 0 by omega, Nat.pow_zero, Nat.mul_one, Nat.div_one]
  have := Nat.mul_pos (show 0 < m by omega) (Nat.pow_pos (n := (e - wid g * stepK ⟨s, m, e⟩ g).toNat) (show 0 < 2 by omega))
  omega
 exact ⟨rfl, fun h => by rw [if_neg h], hq⟩
end Go.Slip
namespace Go.Proofs.YtmacohmclpnphaaGreatDoor
open Go.RowKit Go.Slip
theorem i0i (f : Fm) (w : World) : Calls Tryz.prog 158 #[.agg #[.int .i64 (f.size : Int), .int .i64 (f.E : Int), .int .i64 (f.F : Int), .int .i64 f.g.rad, .int .i64 f.g.digs, .int .i64 f.g.lo, .int .i64 f.g.hi, .bool f.g.grad, .bool f.hid, .bool f.inf, .bool f.res, .func (.func (ordF f)) #[] #[]]] w fun en w' => en = .returned (.int .i64 ((wid f.g : Nat) : Int)) ∧ Below w.heap.size w w' := by
 by_cases h : f.g.rad = 16
 · have hw : wid f.g = 4 := by unfold wid; rw [if_pos h]
   rw [hw]
   have I := Inv.start w [] True.intro
   refine a0d [.v (.agg #[.int .i64 (f.size : Int), .int .i64 (f.E : Int), .int .i64 (f.F : Int), .int .i64 f.g.rad, .int .i64 f.g.digs, .int .i64 f.g.lo, .int .i64 f.g.hi, .bool f.g.grad, .bool f.hid, .bool f.inf, .bool f.res, .func (.func (ordF f)) #[] #[]])] I Tryz.func158 ?_
   refine zb I 6 (f.g.rad == 16) (true) (beq_iff_eq.2 h) fun Al W I => ?_
   exact zrb I
 · have hw : wid f.g = 1 := by unfold wid; rw [if_neg h]
   rw [hw]
   have I := Inv.start w [] True.intro
   refine a0d [.v (.agg #[.int .i64 (f.size : Int), .int .i64 (f.E : Int), .int .i64 (f.F : Int), .int .i64 f.g.rad, .int .i64 f.g.digs, .int .i64 f.g.lo, .int .i64 f.g.hi, .bool f.g.grad, .bool f.hid, .bool f.inf, .bool f.res, .func (.func (ordF f)) #[] #[]])] I Tryz.func158 ?_
   refine zb I 6 (f.g.rad == 16) (false) (bFn h) fun Al W I => ?_
   exact zrb I
theorem i1o (f : Fm) (g : Bool) (m : Nat) (pw k : Int) (p : Option Addr) (c : Nat) (w : World) (hp : Rd w .u32 p (dig B32 m)) (hc : (dig B32 m).length ≤ c) (hl : (dig B32 m).length ≤ 1000000) (hpw : -100000 ≤ pw ∧ pw ≤ 100000) (hT : TabW w) :
 Calls Tryz.prog 102 #[.agg #[.int .i64 (f.size : Int), .int .i64 (f.E : Int), .int .i64 (f.F : Int), .int .i64 f.g.rad, .int .i64 f.g.digs, .int .i64 f.g.lo, .int .i64 f.g.hi, .bool f.g.grad, .bool f.hid, .bool f.inf, .bool f.res, .func (.func (ordF f)) #[] #[]], .agg #[.int .i64 k, .bool g, .slice p (dig B32 m).length c, .int .i64 pw]] w (g0i w w.heap.size (bare ⟨g, m, wid f.g * pw⟩)) := by
 have wp := b0c f.g
 have hmu := k0d (wd := wid f.g) (k := pw) (B := 100000) wp.2 hpw
 rw [← s0i]
 generalize hmw : (wid f.g : Int) * pw = mw at *
 have HMW := hi0 hmw
 have HW := fun W h1 h2 => hi0 (n0a p _ c mw m W h1 rfl hc (by omega) (by omega) h2)
 clear hmw
 generalize hd : bare ⟨false, m, mw⟩ = d at *
 clear hd
 cases g with
 | false =>
  rw [if_neg (by simp)]
  have I := Inv.start w [rdF .u32 p (dig B32 m), tabF] ⟨hp, hT, True.intro⟩
  refine a0d [.v (.agg #[.int .i64 (f.size : Int), .int .i64 (f.E : Int), .int .i64 (f.F : Int), .int .i64 f.g.rad, .int .i64 f.g.digs, .int .i64 f.g.lo, .int .i64 f.g.hi, .bool f.g.grad, .bool f.hid, .bool f.inf, .bool f.res, .func (.func (ordF f)) #[] #[]]), .v (.agg #[.int .i64 k, .bool false, .slice p (dig B32 m).length c, .int .i64 pw])] I Tryz.func102 ?_
  refine zcut I none (fun fr bx gs => ∃ (U1 : Nat → Value) (p13 : Option Addr) (c13 : Nat), fr = (.v (.agg #[.int .i64 (f.size : Int), .int .i64 (f.E : Int), .int .i64 (f.F : Int), .int .i64 f.g.rad, .int .i64 f.g.digs, .int .i64 f.g.lo, .int .i64 f.g.hi, .bool f.g.grad, .bool f.hid, .bool f.inf, .bool f.res, .func (.func (ordF f)) #[] #[]]) :: .v (.agg #[.int .i64 k, .bool false, .slice p (dig B32 m).length c, .int .i64 pw]) :: .p 0 0 :: .p 1 0 :: .p 2 0 :: .p 3 0 :: sw U1 6 9 (.v undef :: sw U1 16 3 []) : List SV) ∧ bx = [⟨146, [.v (.int .i64 (f.size : Int)), .v (.int .i64 (f.E : Int)), .v (.int .i64 (f.F : Int)), .v (.int .i64 f.g.rad), .v (.int .i64 f.g.digs), .v (.int .i64 f.g.lo), .v (.int .i64 f.g.hi), .v (.bool f.g.grad), .v (.bool f.hid), .v (.bool f.inf), .v (.bool f.res), .v (.func (.func (ordF f)) #[] #[])], false⟩, ⟨75, [.v (.int .i64 k), .v (.bool false), .v (.slice p (dig B32 m).length c), .v (.int .i64 pw)], false⟩, ⟨112, [.v (.bool false), .v (.slice none 0 0), .v (.int .i64 0)], false⟩, ⟨112, [.v (.bool d.neg), .v (.slice p13 (dig B32 d.m).length c13), .v (.int .i64 d.e)], false⟩] ∧ gs = [ownF w.heap.size .u32 141 p13 c13 (dig B32 d.m), rdF .u32 p (dig B32 m), tabF]) ?_ ?_
  · intro J hJ Al W I
    refine zd [] I fun Al W I => ?_
    refine zk [0, 1, 2, 4, 5] I fun I => ?_
    refine zo2 3 8 I (fun I => ?_) (fun I => ?_)
    · refine zq I (fun Al W I => i0i f W) fun Al W I => ?_
      refine zki 6 I .i64 (((wid f.g : Nat) : Int) * pw) (mw) ((by rw [HMW.out]; exact iwo)) fun I => ?_
      refine zo2 7 8 I (fun I => ?_) (fun I => ?_)
      · refine zqo I (fun Al W I => (HW W I.fa.1 I.fa.2.1).out) fun Al W p13 c13 I => ?_
        refine zo 8 I fun I => ?_
        refine zn I fun Al W I => ?_
        refine zo 9 I fun I => ?_
        refine zn I fun Al W I => ?_
        exact a0y I J fun Al W U I => hJ _ _ _ _ _ ⟨U, p13, c13, rfl, rfl, rfl⟩ (I.pick [0, 1, 2])
      refine zn I fun Al W I => ?_
      refine zo 7 I fun I => ?_
      refine zqo I (fun Al W I => (HW W I.fa.1 I.fa.2.1).out) fun Al W p13 c13 I => ?_
      refine zo 9 I fun I => ?_
      refine zn I fun Al W I => ?_
      exact a0y I J fun Al W U I => hJ _ _ _ _ _ ⟨U, p13, c13, rfl, rfl, rfl⟩ (I.pick [0, 1, 2])
    refine zn I fun Al W I => ?_
    refine zo 3 I fun I => ?_
    refine zq I (fun Al W I => i0i f W) fun Al W I => ?_
    refine zki 6 I .i64 (((wid f.g : Nat) : Int) * pw) (mw) ((by rw [HMW.out]; exact iwo)) fun I => ?_
    refine zo 7 I fun I => ?_
    refine zqo I (fun Al W I => (HW W I.fa.1 I.fa.2.1).out) fun Al W p13 c13 I => ?_
    refine zo 9 I fun I => ?_
    refine zn I fun Al W I => ?_
    exact a0y I J fun Al W U I => hJ _ _ _ _ _ ⟨U, p13, c13, rfl, rfl, rfl⟩ (I.pick [0, 1, 2])
  rintro _ _ _ ⟨U1, p13, c13, rfl, rfl, rfl⟩ Al W I
  exact zret I fun Al W I => ⟨p13, c13, rfl, I.fa.1.mono (by omega), I.below⟩
 | true =>
  rw [if_pos rfl]
  have I := Inv.start w [rdF .u32 p (dig B32 m), tabF] ⟨hp, hT, True.intro⟩
  refine a0d [.v (.agg #[.int .i64 (f.size : Int), .int .i64 (f.E : Int), .int .i64 (f.F : Int), .int .i64 f.g.rad, .int .i64 f.g.digs, .int .i64 f.g.lo, .int .i64 f.g.hi, .bool f.g.grad, .bool f.hid, .bool f.inf, .bool f.res, .func (.func (ordF f)) #[] #[]]), .v (.agg #[.int .i64 k, .bool true, .slice p (dig B32 m).length c, .int .i64 pw])] I Tryz.func102 ?_
  refine zcut I none (fun fr bx gs => ∃ (U1 : Nat → Value) (p13 : Option Addr) (c13 : Nat), fr = (.v (.agg #[.int .i64 (f.size : Int), .int .i64 (f.E : Int), .int .i64 (f.F : Int), .int .i64 f.g.rad, .int .i64 f.g.digs, .int .i64 f.g.lo, .int .i64 f.g.hi, .bool f.g.grad, .bool f.hid, .bool f.inf, .bool f.res, .func (.func (ordF f)) #[] #[]]) :: .v (.agg #[.int .i64 k, .bool true, .slice p (dig B32 m).length c, .int .i64 pw]) :: .p 0 0 :: .p 1 0 :: .p 2 0 :: .p 3 0 :: sw U1 6 9 (.v undef :: sw U1 16 3 []) : List SV) ∧ bx = [⟨146, [.v (.int .i64 (f.size : Int)), .v (.int .i64 (f.E : Int)), .v (.int .i64 (f.F : Int)), .v (.int .i64 f.g.rad), .v (.int .i64 f.g.digs), .v (.int .i64 f.g.lo), .v (.int .i64 f.g.hi), .v (.bool f.g.grad), .v (.bool f.hid), .v (.bool f.inf), .v (.bool f.res), .v (.func (.func (ordF f)) #[] #[])], false⟩, ⟨75, [.v (.int .i64 k), .v (.bool true), .v (.slice p (dig B32 m).length c), .v (.int .i64 pw)], false⟩, ⟨112, [.v (.bool false), .v (.slice none 0 0), .v (.int .i64 0)], false⟩, ⟨112, [.v (.bool d.neg), .v (.slice p13 (dig B32 d.m).length c13), .v (.int .i64 d.e)], false⟩] ∧ gs = [ownF w.heap.size .u32 141 p13 c13 (dig B32 d.m), rdF .u32 p (dig B32 m), tabF]) ?_ ?_
  · intro J hJ Al W I
    refine zd [] I fun Al W I => ?_
    refine zk [0, 1, 2, 4, 5] I fun I => ?_
    refine zo2 3 8 I (fun I => ?_) (fun I => ?_)
    · refine zq I (fun Al W I => i0i f W) fun Al W I => ?_
      refine zki 6 I .i64 (((wid f.g : Nat) : Int) * pw) (mw) ((by rw [HMW.out]; exact iwo)) fun I => ?_
      refine zo2 7 8 I (fun I => ?_) (fun I => ?_)
      · refine zqo I (fun Al W I => (HW W I.fa.1 I.fa.2.1).out) fun Al W p13 c13 I => ?_
        refine zo 8 I fun I => ?_
        refine zn I fun Al W I => ?_
        refine zo 9 I fun I => ?_
        refine zn I fun Al W I => ?_
        exact a0y I J fun Al W U I => hJ _ _ _ _ _ ⟨U, p13, c13, rfl, rfl, rfl⟩ (I.pick [0, 1, 2])
      refine zn I fun Al W I => ?_
      refine zo 7 I fun I => ?_
      refine zqo I (fun Al W I => (HW W I.fa.1 I.fa.2.1).out) fun Al W p13 c13 I => ?_
      refine zo 9 I fun I => ?_
      refine zn I fun Al W I => ?_
      exact a0y I J fun Al W U I => hJ _ _ _ _ _ ⟨U, p13, c13, rfl, rfl, rfl⟩ (I.pick [0, 1, 2])
    refine zn I fun Al W I => ?_
    refine zo 3 I fun I => ?_
    refine zq I (fun Al W I => i0i f W) fun Al W I => ?_
    refine zki 6 I .i64 (((wid f.g : Nat) : Int) * pw) (mw) ((by rw [HMW.out]; exact iwo)) fun I => ?_
    refine zo 7 I fun I => ?_
    refine zqo I (fun Al W I => (HW W I.fa.1 I.fa.2.1).out) fun Al W p13 c13 I => ?_
    refine zo 9 I fun I => ?_
    refine zn I fun Al W I => ?_
    exact a0y I J fun Al W U I => hJ _ _ _ _ _ ⟨U, p13, c13, rfl, rfl, rfl⟩ (I.pick [0, 1, 2])
  rintro _ _ _ ⟨U1, p13, c13, rfl, rfl, rfl⟩ Al W I
  refine zq I (fun Al W I => u0o d.neg p13 _ c13 d.e d.m W rfl) fun Al W I => ?_
  exact zret I fun Al W I => ⟨p13, c13, rfl, I.fa.1.mono (by omega), I.below⟩
theorem r0b (f : Fm) (g : Bool) (E : Int) (e x : Nat) (hE : E = e) (p : Option Addr) (c : Nat) (w : World) (G : c0e f) (hp : Rd w .u32 p (dig B32 x)) (he : e < 2 ^ f.E) (hx : x < 2 ^ f.F) :
 Calls Tryz.prog 106 #[.agg #[.int .i64 (f.size : Int), .int .i64 (f.E : Int), .int .i64 (f.F : Int), .int .i64 f.g.rad, .int .i64 f.g.digs, .int .i64 f.g.lo, .int .i64 f.g.hi, .bool f.g.grad, .bool f.hid, .bool f.inf, .bool f.res, .func (.func (ordF f)) #[] #[]], .agg #[.bool g, .int .i64 E, .slice p (dig B32 x).length c]] w fun en w' => en = .returned (.string (b0k (f.str g e x))) ∧ Below w.heap.size w w' := by
 subst hE
 exact w0r f g e x p c w G hp he hx
theorem i1p {F : Nat} (h : F ≤ 64) : (dig B32 (2 ^ F)).length ≤ 3 := a0u (n := F + 1) (Nat.pow_lt_pow_right (by omega) (by omega)) (by omega)
theorem y0d (f : Fm) (d : Dv) (p : Option Addr) (c : Nat) (w : World) (G : c0e f) (hp : Rd w .u32 p (dig B32 d.m)) (hl : (dig B32 d.m).length ≤ 1200) (he : -60000 ≤ d.e ∧ d.e ≤ 60000) (hin : b0n d f.g = true) (h0 : d.m ≠ 0) :
 Calls Tryz.prog 103 #[.agg #[.int .i64 (f.size : Int), .int .i64 (f.E : Int), .int .i64 (f.F : Int), .int .i64 f.g.rad, .int .i64 f.g.digs, .int .i64 f.g.lo, .int .i64 f.g.hi, .bool f.g.grad, .bool f.hid, .bool f.inf, .bool f.res, .func (.func (ordF f)) #[] #[]], .agg #[.bool d.neg, .slice p (dig B32 d.m).length c, .int .i64 d.e]] w fun en w' => en = .returned (.string (b0k (f.strP (f.numP d)))) ∧ Below w.heap.size w w' := by
 have hg := b0r G.g
 have N := p0w G hin h0
 have hlt := a1f G N
 obtain ⟨s, m, e⟩ := d
 simp only at h0 hl he hp
 have hd1 := hg.d1
 have hd2 := hg.d2
 have hl1 : (dig B32 1).length ≤ 1 := by rw [a0g a0b]; unfold B32; omega
 obtain ⟨f1, f2, f3⟩ := f1g hg hin h0
 have f4 := f2 f3
 have hq : qP m 1 (e - wid f.g * stepK ⟨s, m, e⟩ f.g) = f.fr ⟨s, m, e⟩ := by
  have := N.e0
  simp only at this
  unfold qP numP denP Fm.fr
  rw [show (-(e - wid f.g * stepK ⟨s, m, e⟩ f.g)).toNat = 0 by omega, Nat.pow_zero, Nat.mul_one, Nat.div_one]
 rw [hq] at f1
 have hK := z0t (show 0 < m by omega) e (w := wid f.g) (D := f.g.digs.toNat) (b0c f.g).1 (by omega)
 have HF := fun W q d (h1 : Rd W .u32 p (dig B32 m)) (h2 : Rd W .u32 q (dig B32 1)) => hi0 (u0t s p q c d m 1 e f.g 3 _ W h1 h2 (by omega) (by omega) (by omega) (by omega) (by omega) hg (by omega) (by omega) hK)
 have hlow := N.low
 have hbl := N.bl
 have hk1 := N.k1
 have hk2 := N.k2
 have hfl : (dig B32 (f.fr ⟨s, m, e⟩)).length ≤ 16 := a0u N.lt (k := 16) (by have := Nat.mul_le_mul (b0c f.g).2 (show f.g.digs.toNat ≤ 120 by omega); omega)
 have hnp : f.numP ⟨s, m, e⟩ = if f.fam = 2 then ⟨s, (stepK ⟨s, m, e⟩ f.g - f.g.lo).toNat, f.fr ⟨s, m, e⟩⟩
  else if (blen (f.fr ⟨s, m, e⟩) : Int) = f.g.digs then ⟨s, (stepK ⟨s, m, e⟩ f.g - f.g.lo).toNat + 1, if f.ext then f.fr ⟨s, m, e⟩ else f.fr ⟨s, m, e⟩ - 2 ^ f.F⟩
  else ⟨s, (stepK ⟨s, m, e⟩ f.g - f.g.lo).toNat, f.fr ⟨s, m, e⟩⟩ := rfl
 rw [hnp] at hlt ⊢
 clear hnp N
 generalize f.fr ⟨s, m, e⟩ = X at *
 generalize stepK ⟨s, m, e⟩ f.g = K at *
 generalize fitK s m 1 e f.g 3 ((e + blen m - 1) / wid f.g - f.g.digs.toNat + 1) = pf at *
 obtain ⟨pn, pd, pp, pex, pov, pun⟩ := pf
 simp only at f1 f4
 subst f1 f4
 clear hK f2 f3 hq
 have z5 := G.lo
 have z6 := G.hi
 have hr := G.rad
 have hw := G.w
 have HJ := fun (W : World) (g : Bool) (e x : Nat) (p : Option Addr) (c : Nat) h h1 h2 => hi0 (w0r f g e x p c W G h h1 h2)
 unfold Fm.strP
 by_cases hf : f.fam = 2
 · rw [if_pos hf] at hr hw hlt ⊢
   simp only at hlt ⊢
   have hei : ((pp - f.g.lo).toNat : Int) = pp - f.g.lo := by omega
   generalize (pp - f.g.lo).toNat = e1 at *
   have I := Inv.start w [rdF .u32 p (dig B32 m)] ⟨hp, True.intro⟩
   refine a0d [.v (.agg #[.int .i64 (f.size : Int), .int .i64 (f.E : Int), .int .i64 (f.F : Int), .int .i64 f.g.rad, .int .i64 f.g.digs, .int .i64 f.g.lo, .int .i64 f.g.hi, .bool f.g.grad, .bool f.hid, .bool f.inf, .bool f.res, .func (.func (ordF f)) #[] #[]]), .v (.agg #[.bool s, .slice p (dig B32 m).length c, .int .i64 e])] I Tryz.func103 ?_
   refine zcut I none (fun fr bx gs => ∃ (U1 : Nat → Value) (p21 : Option Addr) (c21 : Nat), fr = (.v (.agg #[.int .i64 (f.size : Int), .int .i64 (f.E : Int), .int .i64 (f.F : Int), .int .i64 f.g.rad, .int .i64 f.g.digs, .int .i64 f.g.lo, .int .i64 f.g.hi, .bool f.g.grad, .bool f.hid, .bool f.inf, .bool f.res, .func (.func (ordF f)) #[] #[]]) :: .v (.agg #[.bool s, .slice p (dig B32 m).length c, .int .i64 e]) :: .p 0 0 :: .p 1 0 :: .v (Go.Value.string (ByteArray.mk #[])) :: .p 2 0 :: su 2 (sw U1 8 25 (.v undef :: sw U1 34 7 (.v undef :: .v (U1 42) :: .v undef :: sw U1 44 13 []))) : List SV) ∧ bx = [⟨146, [.v (.int .i64 (f.size : Int)), .v (.int .i64 (f.E : Int)), .v (.int .i64 (f.F : Int)), .v (.int .i64 f.g.rad), .v (.int .i64 f.g.digs), .v (.int .i64 f.g.lo), .v (.int .i64 f.g.hi), .v (.bool f.g.grad), .v (.bool f.hid), .v (.bool f.inf), .v (.bool f.res), .v (.func (.func (ordF f)) #[] #[])], false⟩, ⟨112, [.v (.bool s), .v (.slice p (dig B32 m).length c), .v (.int .i64 e)], false⟩, ⟨87, [.v (.bool pn), .v (.slice p21 (dig B32 pd).length c21), .v (.int .i64 pp), .v (.bool pex), .v (.bool pov), .v (.bool pun)], false⟩] ∧ gs = [ownF w.heap.size .u32 141 p21 c21 (dig B32 pd), rdF .u32 p (dig B32 m)]) ?_ ?_
   · intro J hJ Al W I
     refine zd [] I fun Al W I => ?_
     refine zk [0, 1, 2, 3, 4, 5, 7, 8, 9, 11, 12] I fun I => ?_
     refine zo2 6 14 I (fun I => ?_) (fun I => ?_)
     · refine zqo I (fun Al W I => have hzW := I.bel.size; sof 1 1 rfl (by omega) W) fun Al W p14 c14 I => ?_
       refine zk [10] I fun I => ?_
       refine zo2 13 14 I (fun I => ?_) (fun I => ?_)
       · refine zqo I (fun Al W I => (HF W p14 c14 I.fa.2.1 I.fa.1.rd).out) fun Al W p21 c21 I => ?_
         refine zo 14 I fun I => ?_
         refine zn I fun Al W I => ?_
         refine zo 15 I fun I => ?_
         refine zn I fun Al W I => ?_
         exact a0y I J fun Al W U I => hJ _ _ _ _ _ ⟨U, p21, c21, rfl, rfl, rfl⟩ (I.pick [0, 2])
       refine zn I fun Al W I => ?_
       refine zo 13 I fun I => ?_
       refine zqo I (fun Al W I => (HF W p14 c14 I.fa.2.1 I.fa.1.rd).out) fun Al W p21 c21 I => ?_
       refine zo 15 I fun I => ?_
       refine zn I fun Al W I => ?_
       exact a0y I J fun Al W U I => hJ _ _ _ _ _ ⟨U, p21, c21, rfl, rfl, rfl⟩ (I.pick [0, 2])
     refine zn I fun Al W I => ?_
     refine zo 6 I fun I => ?_
     refine zqo I (fun Al W I => have hzW := I.bel.size; sof 1 1 rfl (by omega) W) fun Al W p14 c14 I => ?_
     refine zk [10] I fun I => ?_
     refine zo 13 I fun I => ?_
     refine zqo I (fun Al W I => (HF W p14 c14 I.fa.2.1 I.fa.1.rd).out) fun Al W p21 c21 I => ?_
     refine zo 15 I fun I => ?_
     refine zn I fun Al W I => ?_
     exact a0y I J fun Al W U I => hJ _ _ _ _ _ ⟨U, p21, c21, rfl, rfl, rfl⟩ (I.pick [0, 2])
   rintro _ _ _ ⟨U1, p21, c21, rfl, rfl, rfl⟩ Al W I
   refine zi I 27 .i64 (pp - f.g.lo) ((e1 : Int)) ((by rw [hei]; exact iwo)) fun Al W I => ?_
   refine zb I 33 (f.g.rad == 2) (false) (by rw [hr]; rfl) fun Al W I => ?_
   refine zq I (fun Al W I => (HJ W s e1 pd p21 c21 I.fa.1.rd hlt.1 hlt.2).out) fun Al W I => ?_
   exact zrb I
 · rw [if_neg hf] at hr hw hlt ⊢
   rw [hw] at hbl
   by_cases hb : (blen pd : Int) = f.g.digs
   · rw [if_pos hb] at hlt ⊢
     simp only at hlt ⊢
     have hei : (((pp - f.g.lo).toNat + 1 : Nat) : Int) = pp - f.g.lo + 1 := by omega
     generalize (pp - f.g.lo).toNat + 1 = e1 at *
     by_cases hx : f.ext = true
     · rw [if_pos hx] at hlt ⊢
       have hh : f.hid = false := by unfold Fm.hid; rw [hx]; simp
       have I := Inv.start w [rdF .u32 p (dig B32 m)] ⟨hp, True.intro⟩
       refine a0d [.v (.agg #[.int .i64 (f.size : Int), .int .i64 (f.E : Int), .int .i64 (f.F : Int), .int .i64 f.g.rad, .int .i64 f.g.digs, .int .i64 f.g.lo, .int .i64 f.g.hi, .bool f.g.grad, .bool f.hid, .bool f.inf, .bool f.res, .func (.func (ordF f)) #[] #[]]), .v (.agg #[.bool s, .slice p (dig B32 m).length c, .int .i64 e])] I Tryz.func103 ?_
       refine zcut I none (fun fr bx gs => ∃ (U1 : Nat → Value) (p21 : Option Addr) (c21 : Nat), fr = (.v (.agg #[.int .i64 (f.size : Int), .int .i64 (f.E : Int), .int .i64 (f.F : Int), .int .i64 f.g.rad, .int .i64 f.g.digs, .int .i64 f.g.lo, .int .i64 f.g.hi, .bool f.g.grad, .bool f.hid, .bool f.inf, .bool f.res, .func (.func (ordF f)) #[] #[]]) :: .v (.agg #[.bool s, .slice p (dig B32 m).length c, .int .i64 e]) :: .p 0 0 :: .p 1 0 :: .v (Go.Value.string (ByteArray.mk #[])) :: .p 2 0 :: su 2 (sw U1 8 25 (.v undef :: sw U1 34 7 (.v undef :: .v (U1 42) :: .v undef :: sw U1 44 13 []))) : List SV) ∧ bx = [⟨146, [.v (.int .i64 (f.size : Int)), .v (.int .i64 (f.E : Int)), .v (.int .i64 (f.F : Int)), .v (.int .i64 f.g.rad), .v (.int .i64 f.g.digs), .v (.int .i64 f.g.lo), .v (.int .i64 f.g.hi), .v (.bool f.g.grad), .v (.bool f.hid), .v (.bool f.inf), .v (.bool f.res), .v (.func (.func (ordF f)) #[] #[])], false⟩, ⟨112, [.v (.bool s), .v (.slice p (dig B32 m).length c), .v (.int .i64 e)], false⟩, ⟨87, [.v (.bool pn), .v (.slice p21 (dig B32 pd).length c21), .v (.int .i64 pp), .v (.bool pex), .v (.bool pov), .v (.bool pun)], false⟩] ∧ gs = [ownF w.heap.size .u32 141 p21 c21 (dig B32 pd), rdF .u32 p (dig B32 m)]) ?_ ?_
       · intro J hJ Al W I
         refine zd [] I fun Al W I => ?_
         refine zk [0, 1, 2, 3, 4, 5, 7, 8, 9, 11, 12] I fun I => ?_
         refine zo2 6 14 I (fun I => ?_) (fun I => ?_)
         · refine zqo I (fun Al W I => have hzW := I.bel.size; sof 1 1 rfl (by omega) W) fun Al W p14 c14 I => ?_
           refine zk [10] I fun I => ?_
           refine zo2 13 14 I (fun I => ?_) (fun I => ?_)
           · refine zqo I (fun Al W I => (HF W p14 c14 I.fa.2.1 I.fa.1.rd).out) fun Al W p21 c21 I => ?_
             refine zo 14 I fun I => ?_
             refine zn I fun Al W I => ?_
             refine zo 15 I fun I => ?_
             refine zn I fun Al W I => ?_
             exact a0y I J fun Al W U I => hJ _ _ _ _ _ ⟨U, p21, c21, rfl, rfl, rfl⟩ (I.pick [0, 2])
           refine zn I fun Al W I => ?_
           refine zo 13 I fun I => ?_
           refine zqo I (fun Al W I => (HF W p14 c14 I.fa.2.1 I.fa.1.rd).out) fun Al W p21 c21 I => ?_
           refine zo 15 I fun I => ?_
           refine zn I fun Al W I => ?_
           exact a0y I J fun Al W U I => hJ _ _ _ _ _ ⟨U, p21, c21, rfl, rfl, rfl⟩ (I.pick [0, 2])
         refine zn I fun Al W I => ?_
         refine zo 6 I fun I => ?_
         refine zqo I (fun Al W I => have hzW := I.bel.size; sof 1 1 rfl (by omega) W) fun Al W p14 c14 I => ?_
         refine zk [10] I fun I => ?_
         refine zo 13 I fun I => ?_
         refine zqo I (fun Al W I => (HF W p14 c14 I.fa.2.1 I.fa.1.rd).out) fun Al W p21 c21 I => ?_
         refine zo 15 I fun I => ?_
         refine zn I fun Al W I => ?_
         exact a0y I J fun Al W U I => hJ _ _ _ _ _ ⟨U, p21, c21, rfl, rfl, rfl⟩ (I.pick [0, 2])
       rintro _ _ _ ⟨U1, p21, c21, rfl, rfl, rfl⟩ Al W I
       refine zi I 27 .i64 (pp - f.g.lo) (pp - f.g.lo) (iwo) fun Al W I => ?_
       refine zb I 33 (f.g.rad == 2) (true) (by rw [hr]; rfl) fun Al W I => ?_
       refine zi I 35 .i64 ((pp - f.g.lo) + 1) ((e1 : Int)) ((by rw [hei]; exact iwo)) fun Al W I => ?_
       refine zd [] I fun Al W I => ?_
       refine zk [0, 2, 3, 4] I fun I => ?_
       refine zo 1 I fun I => ?_
       refine zq I (fun Al W I => have hzW := I.bel.size; stay (f0w p21 _ c21 pd W I.fa.1.rd rfl (by omega))) fun Al W I => ?_
       refine zkb 5 I (decide (((blen pd : Nat) : Int) < f.g.digs)) (false) (dFa (by omega)) fun I => ?_
       refine zb I 43 (f.hid) (false) (hh) fun Al W I => ?_
       refine zq I (fun Al W I => (HJ W s e1 pd p21 c21 I.fa.1.rd hlt.1 hlt.2).out) fun Al W I => ?_
       exact zrb I
     · rw [if_neg hx] at hlt ⊢
       have hx' : f.ext = false := by simpa using hx
       have hh : f.hid = true := by unfold Fm.hid; rw [hx']; simp [hf]
       have hFF := G.d1 hf hx'
       have hge : 2 ^ f.F ≤ pd := by
        have h1 := f0l pd ((c0u pd).1 (by omega))
        rw [show blen pd - 1 = f.F by omega] at h1
        exact h1
       have ht := i1p G.f2
       have I := Inv.start w [rdF .u32 p (dig B32 m)] ⟨hp, True.intro⟩
       refine a0d [.v (.agg #[.int .i64 (f.size : Int), .int .i64 (f.E : Int), .int .i64 (f.F : Int), .int .i64 f.g.rad, .int .i64 f.g.digs, .int .i64 f.g.lo, .int .i64 f.g.hi, .bool f.g.grad, .bool f.hid, .bool f.inf, .bool f.res, .func (.func (ordF f)) #[] #[]]), .v (.agg #[.bool s, .slice p (dig B32 m).length c, .int .i64 e])] I Tryz.func103 ?_
       refine zcut I none (fun fr bx gs => ∃ (U1 : Nat → Value) (p21 : Option Addr) (c21 : Nat), fr = (.v (.agg #[.int .i64 (f.size : Int), .int .i64 (f.E : Int), .int .i64 (f.F : Int), .int .i64 f.g.rad, .int .i64 f.g.digs, .int .i64 f.g.lo, .int .i64 f.g.hi, .bool f.g.grad, .bool f.hid, .bool f.inf, .bool f.res, .func (.func (ordF f)) #[] #[]]) :: .v (.agg #[.bool s, .slice p (dig B32 m).length c, .int .i64 e]) :: .p 0 0 :: .p 1 0 :: .v (Go.Value.string (ByteArray.mk #[])) :: .p 2 0 :: su 2 (sw U1 8 25 (.v undef :: sw U1 34 7 (.v undef :: .v (U1 42) :: .v undef :: sw U1 44 13 []))) : List SV) ∧ bx = [⟨146, [.v (.int .i64 (f.size : Int)), .v (.int .i64 (f.E : Int)), .v (.int .i64 (f.F : Int)), .v (.int .i64 f.g.rad), .v (.int .i64 f.g.digs), .v (.int .i64 f.g.lo), .v (.int .i64 f.g.hi), .v (.bool f.g.grad), .v (.bool f.hid), .v (.bool f.inf), .v (.bool f.res), .v (.func (.func (ordF f)) #[] #[])], false⟩, ⟨112, [.v (.bool s), .v (.slice p (dig B32 m).length c), .v (.int .i64 e)], false⟩, ⟨87, [.v (.bool pn), .v (.slice p21 (dig B32 pd).length c21), .v (.int .i64 pp), .v (.bool pex), .v (.bool pov), .v (.bool pun)], false⟩] ∧ gs = [ownF w.heap.size .u32 141 p21 c21 (dig B32 pd), rdF .u32 p (dig B32 m)]) ?_ ?_
       · intro J hJ Al W I
         refine zd [] I fun Al W I => ?_
         refine zk [0, 1, 2, 3, 4, 5, 7, 8, 9, 11, 12] I fun I => ?_
         refine zo2 6 14 I (fun I => ?_) (fun I => ?_)
         · refine zqo I (fun Al W I => have hzW := I.bel.size; sof 1 1 rfl (by omega) W) fun Al W p14 c14 I => ?_
           refine zk [10] I fun I => ?_
           refine zo2 13 14 I (fun I => ?_) (fun I => ?_)
           · refine zqo I (fun Al W I => (HF W p14 c14 I.fa.2.1 I.fa.1.rd).out) fun Al W p21 c21 I => ?_
             refine zo 14 I fun I => ?_
             refine zn I fun Al W I => ?_
             refine zo 15 I fun I => ?_
             refine zn I fun Al W I => ?_
             exact a0y I J fun Al W U I => hJ _ _ _ _ _ ⟨U, p21, c21, rfl, rfl, rfl⟩ (I.pick [0, 2])
           refine zn I fun Al W I => ?_
           refine zo 13 I fun I => ?_
           refine zqo I (fun Al W I => (HF W p14 c14 I.fa.2.1 I.fa.1.rd).out) fun Al W p21 c21 I => ?_
           refine zo 15 I fun I => ?_
           refine zn I fun Al W I => ?_
           exact a0y I J fun Al W U I => hJ _ _ _ _ _ ⟨U, p21, c21, rfl, rfl, rfl⟩ (I.pick [0, 2])
         refine zn I fun Al W I => ?_
         refine zo 6 I fun I => ?_
         refine zqo I (fun Al W I => have hzW := I.bel.size; sof 1 1 rfl (by omega) W) fun Al W p14 c14 I => ?_
         refine zk [10] I fun I => ?_
         refine zo 13 I fun I => ?_
         refine zqo I (fun Al W I => (HF W p14 c14 I.fa.2.1 I.fa.1.rd).out) fun Al W p21 c21 I => ?_
         refine zo 15 I fun I => ?_
         refine zn I fun Al W I => ?_
         exact a0y I J fun Al W U I => hJ _ _ _ _ _ ⟨U, p21, c21, rfl, rfl, rfl⟩ (I.pick [0, 2])
       rintro _ _ _ ⟨U1, p21, c21, rfl, rfl, rfl⟩ Al W I
       refine zi I 27 .i64 (pp - f.g.lo) (pp - f.g.lo) (iwo) fun Al W I => ?_
       refine zb I 33 (f.g.rad == 2) (true) (by rw [hr]; rfl) fun Al W I => ?_
       refine zi I 35 .i64 ((pp - f.g.lo) + 1) ((e1 : Int)) ((by rw [hei]; exact iwo)) fun Al W I => ?_
       refine zd [] I fun Al W I => ?_
       refine zk [0, 2, 3, 4] I fun I => ?_
       refine zo 1 I fun I => ?_
       refine zq I (fun Al W I => have hzW := I.bel.size; stay (f0w p21 _ c21 pd W I.fa.1.rd rfl (by omega))) fun Al W I => ?_
       refine zkb 5 I (decide (((blen pd : Nat) : Int) < f.g.digs)) (false) (dFa (by omega)) fun I => ?_
       refine zb I 43 (f.hid) (true) (hh) fun Al W I => ?_
       refine zqo I (fun Al W I => have hzW := I.bel.size; g0a f.F (2 ^ f.F) _ W (by have := G.f2; omega) rfl rfl) fun Al W p47 c47 I => ?_
       refine zqo I (fun Al W I => have hzW := I.bel.size; ssub p21 p47 _ _ c21 c47 pd (2 ^ f.F) (pd - 2 ^ f.F) W I.fa.2.1.rd I.fa.1.rd rfl rfl (by omega) hge rfl) fun Al W p48 c48 I => ?_
       refine zq I (fun Al W I => (HJ W s e1 (pd - 2 ^ f.F) p48 c48 I.fa.1.rd hlt.1 hlt.2).out) fun Al W I => ?_
       exact zrb I
   · rw [if_neg hb] at hlt ⊢
     simp only at hlt ⊢
     have hlo := (hlow hf hb).1
     have h0e : (pp - f.g.lo).toNat = 0 := by omega
     rw [h0e] at hlt ⊢
     have I := Inv.start w [rdF .u32 p (dig B32 m)] ⟨hp, True.intro⟩
     refine a0d [.v (.agg #[.int .i64 (f.size : Int), .int .i64 (f.E : Int), .int .i64 (f.F : Int), .int .i64 f.g.rad, .int .i64 f.g.digs, .int .i64 f.g.lo, .int .i64 f.g.hi, .bool f.g.grad, .bool f.hid, .bool f.inf, .bool f.res, .func (.func (ordF f)) #[] #[]]), .v (.agg #[.bool s, .slice p (dig B32 m).length c, .int .i64 e])] I Tryz.func103 ?_
     refine zcut I none (fun fr bx gs => ∃ (U1 : Nat → Value) (p21 : Option Addr) (c21 : Nat), fr = (.v (.agg #[.int .i64 (f.size : Int), .int .i64 (f.E : Int), .int .i64 (f.F : Int), .int .i64 f.g.rad, .int .i64 f.g.digs, .int .i64 f.g.lo, .int .i64 f.g.hi, .bool f.g.grad, .bool f.hid, .bool f.inf, .bool f.res, .func (.func (ordF f)) #[] #[]]) :: .v (.agg #[.bool s, .slice p (dig B32 m).length c, .int .i64 e]) :: .p 0 0 :: .p 1 0 :: .v (Go.Value.string (ByteArray.mk #[])) :: .p 2 0 :: su 2 (sw U1 8 25 (.v undef :: sw U1 34 7 (.v undef :: .v (U1 42) :: .v undef :: sw U1 44 13 []))) : List SV) ∧ bx = [⟨146, [.v (.int .i64 (f.size : Int)), .v (.int .i64 (f.E : Int)), .v (.int .i64 (f.F : Int)), .v (.int .i64 f.g.rad), .v (.int .i64 f.g.digs), .v (.int .i64 f.g.lo), .v (.int .i64 f.g.hi), .v (.bool f.g.grad), .v (.bool f.hid), .v (.bool f.inf), .v (.bool f.res), .v (.func (.func (ordF f)) #[] #[])], false⟩, ⟨112, [.v (.bool s), .v (.slice p (dig B32 m).length c), .v (.int .i64 e)], false⟩, ⟨87, [.v (.bool pn), .v (.slice p21 (dig B32 pd).length c21), .v (.int .i64 pp), .v (.bool pex), .v (.bool pov), .v (.bool pun)], false⟩] ∧ gs = [ownF w.heap.size .u32 141 p21 c21 (dig B32 pd), rdF .u32 p (dig B32 m)]) ?_ ?_
     · intro J hJ Al W I
       refine zd [] I fun Al W I => ?_
       refine zk [0, 1, 2, 3, 4, 5, 7, 8, 9, 11, 12] I fun I => ?_
       refine zo2 6 14 I (fun I => ?_) (fun I => ?_)
       · refine zqo I (fun Al W I => have hzW := I.bel.size; sof 1 1 rfl (by omega) W) fun Al W p14 c14 I => ?_
         refine zk [10] I fun I => ?_
         refine zo2 13 14 I (fun I => ?_) (fun I => ?_)
         · refine zqo I (fun Al W I => (HF W p14 c14 I.fa.2.1 I.fa.1.rd).out) fun Al W p21 c21 I => ?_
           refine zo 14 I fun I => ?_
           refine zn I fun Al W I => ?_
           refine zo 15 I fun I => ?_
           refine zn I fun Al W I => ?_
           exact a0y I J fun Al W U I => hJ _ _ _ _ _ ⟨U, p21, c21, rfl, rfl, rfl⟩ (I.pick [0, 2])
         refine zn I fun Al W I => ?_
         refine zo 13 I fun I => ?_
         refine zqo I (fun Al W I => (HF W p14 c14 I.fa.2.1 I.fa.1.rd).out) fun Al W p21 c21 I => ?_
         refine zo 15 I fun I => ?_
         refine zn I fun Al W I => ?_
         exact a0y I J fun Al W U I => hJ _ _ _ _ _ ⟨U, p21, c21, rfl, rfl, rfl⟩ (I.pick [0, 2])
       refine zn I fun Al W I => ?_
       refine zo 6 I fun I => ?_
       refine zqo I (fun Al W I => have hzW := I.bel.size; sof 1 1 rfl (by omega) W) fun Al W p14 c14 I => ?_
       refine zk [10] I fun I => ?_
       refine zo 13 I fun I => ?_
       refine zqo I (fun Al W I => (HF W p14 c14 I.fa.2.1 I.fa.1.rd).out) fun Al W p21 c21 I => ?_
       refine zo 15 I fun I => ?_
       refine zn I fun Al W I => ?_
       exact a0y I J fun Al W U I => hJ _ _ _ _ _ ⟨U, p21, c21, rfl, rfl, rfl⟩ (I.pick [0, 2])
     rintro _ _ _ ⟨U1, p21, c21, rfl, rfl, rfl⟩ Al W I
     refine zi I 27 .i64 (pp - f.g.lo) (pp - f.g.lo) (iwo) fun Al W I => ?_
     refine zb I 33 (f.g.rad == 2) (true) (by rw [hr]; rfl) fun Al W I => ?_
     refine zi I 35 .i64 ((pp - f.g.lo) + 1) ((pp - f.g.lo) + 1) (iwo) fun Al W I => ?_
     refine zd [] I fun Al W I => ?_
     refine zk [0, 2, 3, 4] I fun I => ?_
     refine zo 1 I fun I => ?_
     refine zq I (fun Al W I => have hzW := I.bel.size; stay (f0w p21 _ c21 pd W I.fa.1.rd rfl (by omega))) fun Al W I => ?_
     refine zkb 5 I (decide (((blen pd : Nat) : Int) < f.g.digs)) (true) (dTr (by omega)) fun I => ?_
     refine zq I (fun Al W I => r0b f s 0 0 pd rfl p21 c21 W G I.fa.1.rd hlt.1 hlt.2) fun Al W I => ?_
     exact zrb I
def numD (f : Fm) (a : Din) : Dv := bare ⟨a.g, val B32 a.xs, wid f.g * a.e⟩
def a0m (f : Fm) (cls : Int) (a : Din) : Int :=
 if cls < 1 ∨ 5 < cls then 6
 else if b0x a.xs ≠ 0 then b0x a.xs
 else if ((cls = 3 ∨ cls = 4) ∧ f.inf = false) ∨ (cls = 5 ∧ f.res = false) then 5
 else if cls = 2 then
  if a.e < -20000 ∨ 20000 < a.e then 3
  else if a.xs.length = 0 ∨ b0n (numD f a) f.g = false then 4 else 0
 else if 0 < a.xs.length ∨ a.e ≠ 0 ∨ (a.g = true ∧ (4 ≤ cls ∨ f.res = true)) then 4 else 0
def p0c (f : Fm) (cls : Int) (a : Din) : ByteArray := b0k (f.strP (f.encP cls.toNat a.g (numD f a)))
def t0c (w : World) (er : Int) (s : ByteArray) (en : Ending) (w' : World) : Prop :=
 en = .returned (.tuple #[.string (if er = 0 then s else b0k []), .int .i64 er]) ∧ Below w.heap.size w w'
theorem a0q {w w' : World} {er r : Int} {s : ByteArray} {en : Ending} (h : er = r) (hr : r ≠ 0) (he : en = .returned (.tuple #[.string ⟨#[]⟩, .int .i64 r])) (hb : Below w.heap.size w w') : t0c w er s en w' := by
 subst h
 exact ⟨by rw [he, if_neg hr]; rfl, hb⟩
theorem d0a {w w' : World} {er : Int} {s t : ByteArray} {en : Ending} (h : er = 0) (hs : s = t) (he : en = .returned (.tuple #[.string t, .int .i64 0])) (hb : Below w.heap.size w w') : t0c w er s en w' := by
 subst h hs
 exact ⟨by rw [he, if_pos rfl], hb⟩
theorem i1q {f : Fm} {w : World} {a : Din} (ha : InD w a) (h : b0x a.xs = 0) (he : -20000 ≤ a.e ∧ a.e ≤ 20000) : (dig B32 (numD f a).m).length ≤ 1200 ∧ -100000 ≤ (numD f a).e ∧ (numD f a).e ≤ 150000 := by
 obtain ⟨h1, h2⟩ := j0f ha.lt h
 have hl : (dig B32 (val B32 a.xs)).length ≤ 1200 := by rw [← h1]; exact h2
 have k1 := j0o a0b (⟨a.g, val B32 a.xs, wid f.g * a.e⟩ : Dv)
 have wp := b0c f.g
 have hmu := k0d (wd := wid f.g) (k := a.e) (B := 20000) wp.2 he
 refine ⟨Nat.le_trans k1 hl, ?_⟩
 unfold numD
 by_cases h0 : val B32 a.xs = 0
 · rw [h0, r0t]; simp
 · have ht := g0h (m := val B32 a.xs) (by omega)
   have hb := e0x (val B32 a.xs)
   unfold bare
   rw [if_neg h0]
   simp only
   omega
theorem f1h (f : Fm) (g : Bool) (E : Int) (e : Nat) (hE : E = e) (w : World) (G : c0e f) (he : e < 2 ^ f.E) :
 Calls Tryz.prog 106 #[.agg #[.int .i64 (f.size : Int), .int .i64 (f.E : Int), .int .i64 (f.F : Int), .int .i64 f.g.rad, .int .i64 f.g.digs, .int .i64 f.g.lo, .int .i64 f.g.hi, .bool f.g.grad, .bool f.hid, .bool f.inf, .bool f.res, .func (.func (ordF f)) #[] #[]], .agg #[.bool g, .int .i64 E, .slice none 0 0]] w fun en w' => en = .returned (.string (b0k (f.str g e 0))) ∧ Below w.heap.size w w' := by
 have := r0b f g E e 0 hE none 0 w G (by rw [a0c]; exact Rd.nil _ _ _) he (Nat.pow_pos (by omega))
 rw [a0c] at this
 exact this
theorem c1o (n : Int) (cls : Int) (a : Din) (w : World) (hn : IsFm n) (ha : InD w a) (hT : TabW w) :
 Calls Tryz.prog 42 #[.int .i64 n, .agg #[.int .i64 cls, .bool a.g, .slice a.p a.xs.length a.c, .int .i64 a.e]] w (t0c w (a0m (fmt n) cls a) (p0c (fmt n) cls a)) := by
 have G := b0s hn
 have HF := fun W => hi0 (g0m n hn W)
 generalize fmt n = f at *
 have HR : ∀ (W : World), b0x a.xs = 0 → Rd W .u32 a.p a.xs → -20000 ≤ a.e ∧ a.e ≤ 20000 → TabW W → Hid (Calls Tryz.prog 102 #[.agg #[.int .i64 (f.size : Int), .int .i64 (f.E : Int), .int .i64 (f.F : Int), .int .i64 f.g.rad, .int .i64 f.g.digs, .int .i64 f.g.lo, .int .i64 f.g.hi, .bool f.g.grad, .bool f.hid, .bool f.inf, .bool f.res, .func (.func (ordF f)) #[] #[]], .agg #[.int .i64 cls, .bool a.g, .slice a.p a.xs.length a.c, .int .i64 a.e]] W (g0i W W.heap.size (numD f a))) := by
  intro W h1 h2 h3 h4
  obtain ⟨k1, k2⟩ := j0f ha.lt h1
  have hc := ha.cap
  have := i1o f a.g (val B32 a.xs) a.e cls a.p a.c W (by rw [← k1]; exact h2) (by rw [← k1]; exact hc) (by rw [← k1]; omega) ⟨by omega, by omega⟩ h4
  rw [← k1] at this
  exact hi0 this
 have hB : Bare (numD f a) := g0e _
 have hbd := fun h h2 => i1q (f := f) ha h h2
 have hkp := d1m hB (b0r G.g)
 have hxl : 0 < a.xs.length ↔ a.xs.length ≠ 0 := by omega
 have hm0 : b0x a.xs = 0 → a.xs.length ≠ 0 → (numD f a).m ≠ 0 := fun h1 h2 h3 => by
  obtain ⟨k1, _⟩ := j0f ha.lt h1
  have h4 : val B32 a.xs ≠ 0 := fun h => h2 (by rw [k1]; exact (a0f a0b _).2 h)
  unfold numD bare at h3
  rw [if_neg h4] at h3
  simp only at h3
  have := (c0s (val B32 a.xs) (by omega)).2
  rw [h3] at this
  simp at this
 have hige := fun h => v0y (a := numD f a) G.g hB h
 have z2 := G.e2
 have z3 := G.f2
 have z4 := G.f1
 have hsh := q0m (E := f.E) (by omega)
 have h0T : 0 < 2 ^ f.E := Nat.pow_pos (by omega)
 have h0T2 : 2 ^ f.E ≤ 2 ^ 15 := Nat.pow_le_pow_right (by omega) (by omega)
 have HSH := hi0 hsh
 have hlen := ha.len
 have hhid : f.inf = true → (f.hid = true ↔ f.ext = false) := fun h => by
  have h1 : f.fam = 1 := by unfold Fm.inf at h; simpa using h
  unfold Fm.hid
  rw [h1]
  cases f.ext <;> simp
 have rd := ha.rd
 unfold p0c
 obtain ⟨d, hD⟩ : ∃ d, numD f a = d := ⟨_, rfl⟩
 rw [hD] at HR hB hbd hkp hm0 hige ⊢
 have e1 : f.encP 1 a.g d = ⟨a.g, 0, 0⟩ := rfl
 have e2 : f.encP 2 a.g d = f.numP d := rfl
 have e3 : f.encP 3 a.g d = ⟨a.g, 2 ^ f.E - 1, if f.ext then 2 ^ 63 else 0⟩ := rfl
 have e4 : f.encP 4 a.g d = ⟨a.g, 2 ^ f.E - 1, if f.ext then 2 ^ 63 + 2 ^ 62 else 2 ^ (f.F - 1)⟩ := rfl
 have e5 : f.encP 5 a.g d = ⟨true, 0, 0⟩ := rfl
 have hF1 : 2 ^ (f.F - 1) < 2 ^ f.F := Nat.pow_lt_pow_right (by omega) (by omega)
 have hF0 : 0 < 2 ^ f.F := Nat.pow_pos (by omega)
 have hx64 : f.ext = true → 2 ^ f.F = 2 ^ 64 := fun h => by rw [(G.ext h).2.1]
 have hext : f.inf = true → f.hid = false → f.ext = true := fun h1 h2 => by
  cases hx : f.ext with
  | true => rfl
  | false => have := (hhid h1).2 hx; rw [h2] at this; cases this
 have hJ := fun (W : World) (g : Bool) (E : Int) (e x : Nat) (hE : E = e) (p : Option Addr) (c : Nat) h h1 h2 => hi0 (r0b f g E e x hE p c W G h h1 h2)
 have hJ0 := fun (W : World) (g : Bool) (E : Int) (e : Nat) (hE : E = e) h1 => hi0 (f1h f g E e hE W G h1)
 have h63 : (dig B32 (2 ^ 63)).length ≤ 2 := a0u (n := 64) (by omega) (by omega)
 have h62 : (dig B32 (2 ^ 62)).length ≤ 2 := a0u (n := 64) (by omega) (by omega)
 generalize 2 ^ f.E = P at *
 clear hsh ha
 have I := Inv.start w [rdF .u32 a.p a.xs, tabF] ⟨rd, hT, True.intro⟩
 refine a0d [.v (.int .i64 n), .v (.agg #[.int .i64 cls, .bool a.g, .slice a.p a.xs.length a.c, .int .i64 a.e])] I Tryz.func42 ?_
 refine zq I (fun Al W I => (HF W).out) fun Al W I => ?_
 rcases Bool.eq_false_or_eq_true (decide (cls < 1)) with f21 | f21
 · refine zb I 21 (decide (cls < 1)) (true) (f21) fun Al W I => ?_
   have hE : a0m f cls a = 6 := by unfold a0m; rw [if_pos (by first | (have := oTr f21; omega) | (have := oTr f25; omega))]
   have hN : (6 : Int) ≠ 0 := by decide
   exact zret I fun Al W I => a0q hE hN rfl I.below
 refine zb I 21 (decide (cls < 1)) (false) (f21) fun Al W I => ?_
 rcases Bool.eq_false_or_eq_true (decide (cls > 5)) with f25 | f25
 · refine zb I 25 (decide (cls > 5)) (true) (f25) fun Al W I => ?_
   have hE : a0m f cls a = 6 := by unfold a0m; rw [if_pos (by first | (have := oTr f21; omega) | (have := oTr f25; omega))]
   have hN : (6 : Int) ≠ 0 := by decide
   exact zret I fun Al W I => a0q hE hN rfl I.below
 refine zb I 25 (decide (cls > 5)) (false) (f25) fun Al W I => ?_
 have c1 : ¬ (cls < 1 ∨ 5 < cls) := by have := oFa f21; have := oFa f25; omega
 refine zq I (fun Al W I => p0p a.p _ a.c a.xs W I.fa.1 rfl hlen) fun Al W I => ?_
 rcases Bool.eq_false_or_eq_true ((b0x a.xs) != 0) with f31 | f31
 · refine zb I 31 ((b0x a.xs) != 0) (true) (f31) fun Al W I => ?_
   have hN : b0x a.xs ≠ 0 := bne_iff_ne.1 f31
   have hE : a0m f cls a = b0x a.xs := by unfold a0m; rw [if_neg c1, if_pos hN]
   exact zret I fun Al W I => a0q hE hN rfl I.below
 refine zb I 31 ((b0x a.xs) != 0) (false) (f31) fun Al W I => ?_
 have c2 : b0x a.xs = 0 := by simpa using f31
 rcases Bool.eq_false_or_eq_true (cls == 3) with f35 | f35
 · refine zb I 35 (cls == 3) (true) (f35) fun Al W I => ?_
   rcases Bool.eq_false_or_eq_true (f.inf) with f43 | f43
   · refine zb I 43 (f.inf) (true) (f43) fun Al W I => ?_
     refine zb I 49 (cls == 5) (false) (bFn (by have := beq_iff_eq.1 f35; omega)) fun Al W I => ?_
     have c3 : ¬ (((cls = 3 ∨ cls = 4) ∧ f.inf = false) ∨ (cls = 5 ∧ f.res = false)) := fun h => by rcases h with ⟨h, k⟩ | ⟨h, k⟩ <;> first | (rw [f43] at k; cases k; done) | (rw [f52] at k; cases k; done) | (have q := beq_iff_eq.1 f35; omega) | (have q := beq_iff_eq.1 f39; omega) | (have q := bnF f35; have q2 := bnF f39; omega) | (have q := bnF f49; omega)
     refine zb I 58 (cls == 2) (false) (bFn (by have := beq_iff_eq.1 f35; omega)) fun Al W I => ?_
     have c58 : cls ≠ 2 := by first | (have := beq_iff_eq.1 f35; omega) | (have := beq_iff_eq.1 f39; omega) | (have := beq_iff_eq.1 f49; omega) | exact bnF f58
     rcases Bool.eq_false_or_eq_true (decide ((a.xs.length : Int) > 0)) with f88 | f88
     · refine zb I 88 (decide ((a.xs.length : Int) > 0)) (true) (f88) fun Al W I => ?_
       have hE : a0m f cls a = 4 := by unfold a0m; rw [if_neg c1, if_neg (by omega), if_neg c3, if_neg c58, if_pos (by first | (have := oTr f88; omega) | exact .inr (.inl (bne_iff_ne.1 f92)) | exact .inr (.inr ⟨f96, .inr f103⟩) | exact .inr (.inr ⟨f96, .inl (by first | (have := beq_iff_eq.1 f39; omega) | (have := beq_iff_eq.1 f49; omega))⟩))]
       have hN : (4 : Int) ≠ 0 := by decide
       exact zret I fun Al W I => a0q hE hN rfl I.below
     refine zb I 88 (decide ((a.xs.length : Int) > 0)) (false) (f88) fun Al W I => ?_
     rcases Bool.eq_false_or_eq_true (a.e != 0) with f92 | f92
     · refine zb I 92 (a.e != 0) (true) (f92) fun Al W I => ?_
       have hE : a0m f cls a = 4 := by unfold a0m; rw [if_neg c1, if_neg (by omega), if_neg c3, if_neg c58, if_pos (by first | (have := oTr f88; omega) | exact .inr (.inl (bne_iff_ne.1 f92)) | exact .inr (.inr ⟨f96, .inr f103⟩) | exact .inr (.inr ⟨f96, .inl (by first | (have := beq_iff_eq.1 f39; omega) | (have := beq_iff_eq.1 f49; omega))⟩))]
       have hN : (4 : Int) ≠ 0 := by decide
       exact zret I fun Al W I => a0q hE hN rfl I.below
     refine zb I 92 (a.e != 0) (false) (f92) fun Al W I => ?_
     rcases Bool.eq_false_or_eq_true (a.g) with f96 | f96
     · refine zb I 96 (a.g) (true) (f96) fun Al W I => ?_
       refine zb I 100 (decide (cls ≥ 4)) (false) (dFa (by have := beq_iff_eq.1 f35; omega)) fun Al W I => ?_
       rcases Bool.eq_false_or_eq_true (f.res) with f103 | f103
       · refine zb I 103 (f.res) (true) (f103) fun Al W I => ?_
         have hE : a0m f cls a = 4 := by unfold a0m; rw [if_neg c1, if_neg (by omega), if_neg c3, if_neg c58, if_pos (by first | (have := oTr f88; omega) | exact .inr (.inl (bne_iff_ne.1 f92)) | exact .inr (.inr ⟨f96, .inr f103⟩) | exact .inr (.inr ⟨f96, .inl (by first | (have := beq_iff_eq.1 f39; omega) | (have := beq_iff_eq.1 f49; omega))⟩))]
         have hN : (4 : Int) ≠ 0 := by decide
         exact zret I fun Al W I => a0q hE hN rfl I.below
       refine zb I 103 (f.res) (false) (f103) fun Al W I => ?_
       have hE : a0m f cls a = 0 := by unfold a0m; rw [if_neg c1, if_neg (by omega), if_neg c3, if_neg c58, if_neg (fun h => by rcases h with h | h | ⟨h, k⟩ <;> first | (have := oFa f88; omega) | (rw [show (a.e != 0) = true from bne_iff_ne.2 h] at f92; cases f92; done) | (rw [f96] at h; cases h; done) | (rcases k with k | k <;> first | (have := beq_iff_eq.1 f35; omega) | (have := bnF f49; have := bnF f35; have := bnF f39; omega) | (rw [f103] at k; cases k; done)))]
       refine zbin I 109 _ (fun _ _ _ _ _ => c0q .i64 (1) .i64 (f.E : Int) ((P : Int)) (by omega) ((HSH.out))) fun Al W I => ?_
       refine zi I 110 .i64 ((P : Int) - 1) (((P - 1 : Nat) : Int)) ((by rw [show ((P : Int) - 1) = ((P - 1 : Nat) : Int) by omega]; exact iwo)) fun Al W I => ?_
       refine zb I 117 (cls == 3) (true) (f35) fun Al W I => ?_
       rcases Bool.eq_false_or_eq_true (f.hid) with f121 | f121
       · refine zb I 121 (f.hid) (true) (f121) fun Al W I => ?_
         refine zg I (fun Al W I => have hzW := I.bel.size; (hJ0 W a.g ((P - 1 : Nat) : Int) (P - 1) rfl (by omega)).out) fun Al V Iv _ hB _ kz => ?_
         rintro _ W ⟨rfl, hb⟩
         have hS : b0k (f.strP (f.encP cls.toNat a.g d)) = b0k (f.str a.g (P - 1) 0) := by rw [show cls.toNat = 3 by have := beq_iff_eq.1 f35; omega, e3, if_neg (by rw [(hhid f43).1 f121]; simp)]; rfl
         refine ⟨_, rfl, kz _ _ hb fun I => ?_⟩
         exact zret I fun Al W I => d0a hE hS rfl I.below
       refine zb I 121 (f.hid) (false) (f121) fun Al W I => ?_
       refine zqo I (fun Al W I => have hzW := I.bel.size; g0a 63 (2 ^ 63) 63 W (by omega) rfl rfl) fun Al W p123 c123 I => ?_
       refine zg I (fun Al W I => have hzW := I.bel.size; (hJ W a.g ((P - 1 : Nat) : Int) (P - 1) (2 ^ 63) rfl p123 c123 I.fa.1.rd (by omega) (by rw [hx64 (hext f43 f121)]; omega)).out) fun Al V Iv _ hB _ kz => ?_
       rintro _ W ⟨rfl, hb⟩
       have hS : b0k (f.strP (f.encP cls.toNat a.g d)) = b0k (f.str a.g (P - 1) (2 ^ 63)) := by rw [show cls.toNat = 3 by have := beq_iff_eq.1 f35; omega, e3, if_pos (hext f43 f121)]; rfl
       refine ⟨_, rfl, kz _ _ hb fun I => ?_⟩
       exact zret I fun Al W I => d0a hE hS rfl I.below
     refine zb I 96 (a.g) (false) (f96) fun Al W I => ?_
     have hE : a0m f cls a = 0 := by unfold a0m; rw [if_neg c1, if_neg (by omega), if_neg c3, if_neg c58, if_neg (fun h => by rcases h with h | h | ⟨h, k⟩ <;> first | (have := oFa f88; omega) | (rw [show (a.e != 0) = true from bne_iff_ne.2 h] at f92; cases f92; done) | (rw [f96] at h; cases h; done) | (rcases k with k | k <;> first | (have := beq_iff_eq.1 f35; omega) | (have := bnF f49; have := bnF f35; have := bnF f39; omega) | (rw [f103] at k; cases k; done)))]
     refine zbin I 109 _ (fun _ _ _ _ _ => c0q .i64 (1) .i64 (f.E : Int) ((P : Int)) (by omega) ((HSH.out))) fun Al W I => ?_
     refine zi I 110 .i64 ((P : Int) - 1) (((P - 1 : Nat) : Int)) ((by rw [show ((P : Int) - 1) = ((P - 1 : Nat) : Int) by omega]; exact iwo)) fun Al W I => ?_
     refine zb I 117 (cls == 3) (true) (f35) fun Al W I => ?_
     rcases Bool.eq_false_or_eq_true (f.hid) with f121 | f121
     · refine zb I 121 (f.hid) (true) (f121) fun Al W I => ?_
       refine zg I (fun Al W I => have hzW := I.bel.size; (hJ0 W a.g ((P - 1 : Nat) : Int) (P - 1) rfl (by omega)).out) fun Al V Iv _ hB _ kz => ?_
       rintro _ W ⟨rfl, hb⟩
       have hS : b0k (f.strP (f.encP cls.toNat a.g d)) = b0k (f.str a.g (P - 1) 0) := by rw [show cls.toNat = 3 by have := beq_iff_eq.1 f35; omega, e3, if_neg (by rw [(hhid f43).1 f121]; simp)]; rfl
       refine ⟨_, rfl, kz _ _ hb fun I => ?_⟩
       exact zret I fun Al W I => d0a hE hS rfl I.below
     refine zb I 121 (f.hid) (false) (f121) fun Al W I => ?_
     refine zqo I (fun Al W I => have hzW := I.bel.size; g0a 63 (2 ^ 63) 63 W (by omega) rfl rfl) fun Al W p123 c123 I => ?_
     refine zg I (fun Al W I => have hzW := I.bel.size; (hJ W a.g ((P - 1 : Nat) : Int) (P - 1) (2 ^ 63) rfl p123 c123 I.fa.1.rd (by omega) (by rw [hx64 (hext f43 f121)]; omega)).out) fun Al V Iv _ hB _ kz => ?_
     rintro _ W ⟨rfl, hb⟩
     have hS : b0k (f.strP (f.encP cls.toNat a.g d)) = b0k (f.str a.g (P - 1) (2 ^ 63)) := by rw [show cls.toNat = 3 by have := beq_iff_eq.1 f35; omega, e3, if_pos (hext f43 f121)]; rfl
     refine ⟨_, rfl, kz _ _ hb fun I => ?_⟩
     exact zret I fun Al W I => d0a hE hS rfl I.below
   refine zb I 43 (f.inf) (false) (f43) fun Al W I => ?_
   have hE : a0m f cls a = 5 := by unfold a0m; rw [if_neg c1, if_neg (by omega), if_pos (by first | exact .inl ⟨.inl (beq_iff_eq.1 f35), f43⟩ | exact .inl ⟨.inr (beq_iff_eq.1 f39), f43⟩ | exact .inr ⟨beq_iff_eq.1 f49, f52⟩)]
   have hN : (5 : Int) ≠ 0 := by decide
   exact zret I fun Al W I => a0q hE hN rfl I.below
 refine zb I 35 (cls == 3) (false) (f35) fun Al W I => ?_
 rcases Bool.eq_false_or_eq_true (cls == 4) with f39 | f39
 · refine zb I 39 (cls == 4) (true) (f39) fun Al W I => ?_
   rcases Bool.eq_false_or_eq_true (f.inf) with f43 | f43
   · refine zb I 43 (f.inf) (true) (f43) fun Al W I => ?_
     refine zb I 49 (cls == 5) (false) (bFn (by have := beq_iff_eq.1 f39; omega)) fun Al W I => ?_
     have c3 : ¬ (((cls = 3 ∨ cls = 4) ∧ f.inf = false) ∨ (cls = 5 ∧ f.res = false)) := fun h => by rcases h with ⟨h, k⟩ | ⟨h, k⟩ <;> first | (rw [f43] at k; cases k; done) | (rw [f52] at k; cases k; done) | (have q := beq_iff_eq.1 f35; omega) | (have q := beq_iff_eq.1 f39; omega) | (have q := bnF f35; have q2 := bnF f39; omega) | (have q := bnF f49; omega)
     refine zb I 58 (cls == 2) (false) (bFn (by have := beq_iff_eq.1 f39; omega)) fun Al W I => ?_
     have c58 : cls ≠ 2 := by first | (have := beq_iff_eq.1 f35; omega) | (have := beq_iff_eq.1 f39; omega) | (have := beq_iff_eq.1 f49; omega) | exact bnF f58
     rcases Bool.eq_false_or_eq_true (decide ((a.xs.length : Int) > 0)) with f88 | f88
     · refine zb I 88 (decide ((a.xs.length : Int) > 0)) (true) (f88) fun Al W I => ?_
       have hE : a0m f cls a = 4 := by unfold a0m; rw [if_neg c1, if_neg (by omega), if_neg c3, if_neg c58, if_pos (by first | (have := oTr f88; omega) | exact .inr (.inl (bne_iff_ne.1 f92)) | exact .inr (.inr ⟨f96, .inr f103⟩) | exact .inr (.inr ⟨f96, .inl (by first | (have := beq_iff_eq.1 f39; omega) | (have := beq_iff_eq.1 f49; omega))⟩))]
       have hN : (4 : Int) ≠ 0 := by decide
       exact zret I fun Al W I => a0q hE hN rfl I.below
     refine zb I 88 (decide ((a.xs.length : Int) > 0)) (false) (f88) fun Al W I => ?_
     rcases Bool.eq_false_or_eq_true (a.e != 0) with f92 | f92
     · refine zb I 92 (a.e != 0) (true) (f92) fun Al W I => ?_
       have hE : a0m f cls a = 4 := by unfold a0m; rw [if_neg c1, if_neg (by omega), if_neg c3, if_neg c58, if_pos (by first | (have := oTr f88; omega) | exact .inr (.inl (bne_iff_ne.1 f92)) | exact .inr (.inr ⟨f96, .inr f103⟩) | exact .inr (.inr ⟨f96, .inl (by first | (have := beq_iff_eq.1 f39; omega) | (have := beq_iff_eq.1 f49; omega))⟩))]
       have hN : (4 : Int) ≠ 0 := by decide
       exact zret I fun Al W I => a0q hE hN rfl I.below
     refine zb I 92 (a.e != 0) (false) (f92) fun Al W I => ?_
     rcases Bool.eq_false_or_eq_true (a.g) with f96 | f96
     · refine zb I 96 (a.g) (true) (f96) fun Al W I => ?_
       refine zb I 100 (decide (cls ≥ 4)) (true) (dTr (by have := beq_iff_eq.1 f39; omega)) fun Al W I => ?_
       have hE : a0m f cls a = 4 := by unfold a0m; rw [if_neg c1, if_neg (by omega), if_neg c3, if_neg c58, if_pos (by first | (have := oTr f88; omega) | exact .inr (.inl (bne_iff_ne.1 f92)) | exact .inr (.inr ⟨f96, .inr f103⟩) | exact .inr (.inr ⟨f96, .inl (by first | (have := beq_iff_eq.1 f39; omega) | (have := beq_iff_eq.1 f49; omega))⟩))]
       have hN : (4 : Int) ≠ 0 := by decide
       exact zret I fun Al W I => a0q hE hN rfl I.below
     refine zb I 96 (a.g) (false) (f96) fun Al W I => ?_
     have hE : a0m f cls a = 0 := by unfold a0m; rw [if_neg c1, if_neg (by omega), if_neg c3, if_neg c58, if_neg (fun h => by rcases h with h | h | ⟨h, k⟩ <;> first | (have := oFa f88; omega) | (rw [show (a.e != 0) = true from bne_iff_ne.2 h] at f92; cases f92; done) | (rw [f96] at h; cases h; done) | (rcases k with k | k <;> first | (have := beq_iff_eq.1 f35; omega) | (have := bnF f49; have := bnF f35; have := bnF f39; omega) | (rw [f103] at k; cases k; done)))]
     refine zbin I 109 _ (fun _ _ _ _ _ => c0q .i64 (1) .i64 (f.E : Int) ((P : Int)) (by omega) ((HSH.out))) fun Al W I => ?_
     refine zi I 110 .i64 ((P : Int) - 1) (((P - 1 : Nat) : Int)) ((by rw [show ((P : Int) - 1) = ((P - 1 : Nat) : Int) by omega]; exact iwo)) fun Al W I => ?_
     refine zb I 117 (cls == 3) (false) (f35) fun Al W I => ?_
     refine zb I 126 (cls == 4) (true) (f39) fun Al W I => ?_
     refine zi I 130 .i64 ((f.F : Int) - 1) (((f.F - 1 : Nat) : Int)) ((by rw [show ((f.F : Int) - 1) = ((f.F - 1 : Nat) : Int) by omega]; exact iwo)) fun Al W I => ?_
     refine zqo I (fun Al W I => have hzW := I.bel.size; g0a (f.F - 1) (2 ^ (f.F - 1)) _ W (by omega) rfl rfl) fun Al W p131 c131 I => ?_
     rcases Bool.eq_false_or_eq_true (f.hid) with f135 | f135
     · refine zb I 135 (f.hid) (true) (f135) fun Al W I => ?_
       refine zg I (fun Al W I => have hzW := I.bel.size; (hJ W a.g ((P - 1 : Nat) : Int) (P - 1) (2 ^ (f.F - 1)) rfl p131 c131 I.fa.1.rd (by omega) hF1).out) fun Al V Iv _ hB _ kz => ?_
       rintro _ W ⟨rfl, hb⟩
       have hS : b0k (f.strP (f.encP cls.toNat a.g d)) = b0k (f.str a.g (P - 1) (2 ^ (f.F - 1))) := by rw [show cls.toNat = 4 by have := beq_iff_eq.1 f39; omega, e4, if_neg (by rw [(hhid f43).1 f135]; simp)]; rfl
       refine ⟨_, rfl, kz _ _ hb fun I => ?_⟩
       exact zret I fun Al W I => d0a hE hS rfl I.below
     refine zb I 135 (f.hid) (false) (f135) fun Al W I => ?_
     refine zqo I (fun Al W I => have hzW := I.bel.size; g0a 63 (2 ^ 63) 63 W (by omega) rfl rfl) fun Al W p137 c137 I => ?_
     refine zqo I (fun Al W I => have hzW := I.bel.size; g0a 62 (2 ^ 62) 62 W (by omega) rfl rfl) fun Al W p138 c138 I => ?_
     refine zqo I (fun Al W I => have hzW := I.bel.size; sadd p137 p138 _ _ c137 c138 (2 ^ 63) (2 ^ 62) (2 ^ 63 + 2 ^ 62) W I.fa.2.1.rd I.fa.1.rd rfl rfl (by omega) (by omega) rfl) fun Al W p139 c139 I => ?_
     refine zg I (fun Al W I => have hzW := I.bel.size; (hJ W a.g ((P - 1 : Nat) : Int) (P - 1) (2 ^ 63 + 2 ^ 62) rfl p139 c139 I.fa.1.rd (by omega) (by rw [hx64 (hext f43 f135)]; omega)).out) fun Al V Iv _ hB _ kz => ?_
     rintro _ W ⟨rfl, hb⟩
     have hS : b0k (f.strP (f.encP cls.toNat a.g d)) = b0k (f.str a.g (P - 1) (2 ^ 63 + 2 ^ 62)) := by rw [show cls.toNat = 4 by have := beq_iff_eq.1 f39; omega, e4, if_pos (hext f43 f135)]; rfl
     refine ⟨_, rfl, kz _ _ hb fun I => ?_⟩
     exact zret I fun Al W I => d0a hE hS rfl I.below
   refine zb I 43 (f.inf) (false) (f43) fun Al W I => ?_
   have hE : a0m f cls a = 5 := by unfold a0m; rw [if_neg c1, if_neg (by omega), if_pos (by first | exact .inl ⟨.inl (beq_iff_eq.1 f35), f43⟩ | exact .inl ⟨.inr (beq_iff_eq.1 f39), f43⟩ | exact .inr ⟨beq_iff_eq.1 f49, f52⟩)]
   have hN : (5 : Int) ≠ 0 := by decide
   exact zret I fun Al W I => a0q hE hN rfl I.below
 refine zb I 39 (cls == 4) (false) (f39) fun Al W I => ?_
 rcases Bool.eq_false_or_eq_true (cls == 5) with f49 | f49
 · refine zb I 49 (cls == 5) (true) (f49) fun Al W I => ?_
   rcases Bool.eq_false_or_eq_true (f.res) with f52 | f52
   · refine zb I 52 (f.res) (true) (f52) fun Al W I => ?_
     have c3 : ¬ (((cls = 3 ∨ cls = 4) ∧ f.inf = false) ∨ (cls = 5 ∧ f.res = false)) := fun h => by rcases h with ⟨h, k⟩ | ⟨h, k⟩ <;> first | (rw [f43] at k; cases k; done) | (rw [f52] at k; cases k; done) | (have q := beq_iff_eq.1 f35; omega) | (have q := beq_iff_eq.1 f39; omega) | (have q := bnF f35; have q2 := bnF f39; omega) | (have q := bnF f49; omega)
     refine zb I 58 (cls == 2) (false) (bFn (by have := beq_iff_eq.1 f49; omega)) fun Al W I => ?_
     have c58 : cls ≠ 2 := by first | (have := beq_iff_eq.1 f35; omega) | (have := beq_iff_eq.1 f39; omega) | (have := beq_iff_eq.1 f49; omega) | exact bnF f58
     rcases Bool.eq_false_or_eq_true (decide ((a.xs.length : Int) > 0)) with f88 | f88
     · refine zb I 88 (decide ((a.xs.length : Int) > 0)) (true) (f88) fun Al W I => ?_
       have hE : a0m f cls a = 4 := by unfold a0m; rw [if_neg c1, if_neg (by omega), if_neg c3, if_neg c58, if_pos (by first | (have := oTr f88; omega) | exact .inr (.inl (bne_iff_ne.1 f92)) | exact .inr (.inr ⟨f96, .inr f103⟩) | exact .inr (.inr ⟨f96, .inl (by first | (have := beq_iff_eq.1 f39; omega) | (have := beq_iff_eq.1 f49; omega))⟩))]
       have hN : (4 : Int) ≠ 0 := by decide
       exact zret I fun Al W I => a0q hE hN rfl I.below
     refine zb I 88 (decide ((a.xs.length : Int) > 0)) (false) (f88) fun Al W I => ?_
     rcases Bool.eq_false_or_eq_true (a.e != 0) with f92 | f92
     · refine zb I 92 (a.e != 0) (true) (f92) fun Al W I => ?_
       have hE : a0m f cls a = 4 := by unfold a0m; rw [if_neg c1, if_neg (by omega), if_neg c3, if_neg c58, if_pos (by first | (have := oTr f88; omega) | exact .inr (.inl (bne_iff_ne.1 f92)) | exact .inr (.inr ⟨f96, .inr f103⟩) | exact .inr (.inr ⟨f96, .inl (by first | (have := beq_iff_eq.1 f39; omega) | (have := beq_iff_eq.1 f49; omega))⟩))]
       have hN : (4 : Int) ≠ 0 := by decide
       exact zret I fun Al W I => a0q hE hN rfl I.below
     refine zb I 92 (a.e != 0) (false) (f92) fun Al W I => ?_
     rcases Bool.eq_false_or_eq_true (a.g) with f96 | f96
     · refine zb I 96 (a.g) (true) (f96) fun Al W I => ?_
       refine zb I 100 (decide (cls ≥ 4)) (true) (dTr (by have := beq_iff_eq.1 f49; omega)) fun Al W I => ?_
       have hE : a0m f cls a = 4 := by unfold a0m; rw [if_neg c1, if_neg (by omega), if_neg c3, if_neg c58, if_pos (by first | (have := oTr f88; omega) | exact .inr (.inl (bne_iff_ne.1 f92)) | exact .inr (.inr ⟨f96, .inr f103⟩) | exact .inr (.inr ⟨f96, .inl (by first | (have := beq_iff_eq.1 f39; omega) | (have := beq_iff_eq.1 f49; omega))⟩))]
       have hN : (4 : Int) ≠ 0 := by decide
       exact zret I fun Al W I => a0q hE hN rfl I.below
     refine zb I 96 (a.g) (false) (f96) fun Al W I => ?_
     have hE : a0m f cls a = 0 := by unfold a0m; rw [if_neg c1, if_neg (by omega), if_neg c3, if_neg c58, if_neg (fun h => by rcases h with h | h | ⟨h, k⟩ <;> first | (have := oFa f88; omega) | (rw [show (a.e != 0) = true from bne_iff_ne.2 h] at f92; cases f92; done) | (rw [f96] at h; cases h; done) | (rcases k with k | k <;> first | (have := beq_iff_eq.1 f35; omega) | (have := bnF f49; have := bnF f35; have := bnF f39; omega) | (rw [f103] at k; cases k; done)))]
     refine zbin I 109 _ (fun _ _ _ _ _ => c0q .i64 (1) .i64 (f.E : Int) ((P : Int)) (by omega) ((HSH.out))) fun Al W I => ?_
     refine zi I 110 .i64 ((P : Int) - 1) (((P - 1 : Nat) : Int)) ((by rw [show ((P : Int) - 1) = ((P - 1 : Nat) : Int) by omega]; exact iwo)) fun Al W I => ?_
     refine zb I 117 (cls == 3) (false) (f35) fun Al W I => ?_
     refine zb I 126 (cls == 4) (false) (f39) fun Al W I => ?_
     refine zb I 142 (cls == 5) (true) (f49) fun Al W I => ?_
     refine zg I (fun Al W I => (hJ0 W true 0 0 rfl h0T).out) fun Al V Iv _ hB _ kz => ?_
     rintro _ W ⟨rfl, hb⟩
     have hS : b0k (f.strP (f.encP cls.toNat a.g d)) = b0k (f.str true 0 0) := by rw [show cls.toNat = 5 by have := beq_iff_eq.1 f49; omega, e5]; rfl
     refine ⟨_, rfl, kz _ _ hb fun I => ?_⟩
     exact zret I fun Al W I => d0a hE hS rfl I.below
   refine zb I 52 (f.res) (false) (f52) fun Al W I => ?_
   have hE : a0m f cls a = 5 := by unfold a0m; rw [if_neg c1, if_neg (by omega), if_pos (by first | exact .inl ⟨.inl (beq_iff_eq.1 f35), f43⟩ | exact .inl ⟨.inr (beq_iff_eq.1 f39), f43⟩ | exact .inr ⟨beq_iff_eq.1 f49, f52⟩)]
   have hN : (5 : Int) ≠ 0 := by decide
   exact zret I fun Al W I => a0q hE hN rfl I.below
 refine zb I 49 (cls == 5) (false) (f49) fun Al W I => ?_
 have c3 : ¬ (((cls = 3 ∨ cls = 4) ∧ f.inf = false) ∨ (cls = 5 ∧ f.res = false)) := fun h => by rcases h with ⟨h, k⟩ | ⟨h, k⟩ <;> first | (rw [f43] at k; cases k; done) | (rw [f52] at k; cases k; done) | (have q := beq_iff_eq.1 f35; omega) | (have q := beq_iff_eq.1 f39; omega) | (have q := bnF f35; have q2 := bnF f39; omega) | (have q := bnF f49; omega)
 rcases Bool.eq_false_or_eq_true (cls == 2) with f58 | f58
 · refine zb I 58 (cls == 2) (true) (f58) fun Al W I => ?_
   have c58 : cls = 2 := beq_iff_eq.1 f58
   rcases Bool.eq_false_or_eq_true (decide (a.e < (-20000))) with f61 | f61
   · refine zb I 61 (decide (a.e < (-20000))) (true) (f61) fun Al W I => ?_
     have hE : a0m f cls a = 3 := by unfold a0m; rw [if_neg c1, if_neg (by omega), if_neg c3, if_pos c58, if_pos (by first | (have := oTr f61; omega) | (have := oTr f65; omega))]
     have hN : (3 : Int) ≠ 0 := by decide
     exact zret I fun Al W I => a0q hE hN rfl I.below
   refine zb I 61 (decide (a.e < (-20000))) (false) (f61) fun Al W I => ?_
   rcases Bool.eq_false_or_eq_true (decide (a.e > 20000)) with f65 | f65
   · refine zb I 65 (decide (a.e > 20000)) (true) (f65) fun Al W I => ?_
     have hE : a0m f cls a = 3 := by unfold a0m; rw [if_neg c1, if_neg (by omega), if_neg c3, if_pos c58, if_pos (by first | (have := oTr f61; omega) | (have := oTr f65; omega))]
     have hN : (3 : Int) ≠ 0 := by decide
     exact zret I fun Al W I => a0q hE hN rfl I.below
   refine zb I 65 (decide (a.e > 20000)) (false) (f65) fun Al W I => ?_
   by_cases h70 : a.xs.length = 0
   · by_cases h77 : b0n d f.g = true
     · have c4 : -20000 ≤ a.e ∧ a.e ≤ 20000 := by have := oFa f61; have := oFa f65; omega
       have hb1 := hbd c2 c4
       refine zd [] I fun Al W I => ?_
       refine zk [0, 1, 2] I fun I => ?_
       refine zkb 3 I ((a.xs.length : Int) == 0) (true) (beq_iff_eq.2 (by omega)) fun I => ?_
       refine zk [4, 5, 6, 7, 8, 9, 10, 11, 12] I fun I => ?_
       have hE : a0m f cls a = 4 := by unfold a0m; rw [if_neg c1, if_neg (by omega), if_neg c3, if_pos c58, if_neg (by omega), if_pos (by first | exact .inl h70 | exact .inr (by rw [hD]; simpa using h77))]
       have hN : (4 : Int) ≠ 0 := by decide
       exact zret I fun Al W I => a0q hE hN rfl I.below
     have c4 : -20000 ≤ a.e ∧ a.e ≤ 20000 := by have := oFa f61; have := oFa f65; omega
     have hb1 := hbd c2 c4
     refine zd [] I fun Al W I => ?_
     refine zk [0, 1, 2] I fun I => ?_
     refine zkb 3 I ((a.xs.length : Int) == 0) (true) (beq_iff_eq.2 (by omega)) fun I => ?_
     refine zk [4, 5, 6, 7, 8, 9, 10, 11, 12] I fun I => ?_
     have hE : a0m f cls a = 4 := by unfold a0m; rw [if_neg c1, if_neg (by omega), if_neg c3, if_pos c58, if_neg (by omega), if_pos (by first | exact .inl h70 | exact .inr (by rw [hD]; simpa using h77))]
     have hN : (4 : Int) ≠ 0 := by decide
     exact zret I fun Al W I => a0q hE hN rfl I.below
   by_cases h77 : b0n d f.g = true
   · have c4 : -20000 ≤ a.e ∧ a.e ≤ 20000 := by have := oFa f61; have := oFa f65; omega
     have hb1 := hbd c2 c4
     refine zd [] I fun Al W I => ?_
     refine zk [0, 1, 2] I fun I => ?_
     refine zkb 3 I ((a.xs.length : Int) == 0) (false) (bFn (by omega)) fun I => ?_
     refine zk [4, 5, 6, 8, 9] I fun I => ?_
     refine zo 7 I fun I => ?_
     refine zqo I (fun Al W I => (HR W c2 I.fa.1 c4 I.fa.2.1).out) fun Al W p74 c74 I => ?_
     refine zo 10 I fun I => ?_
     refine zqd I (fun Al W I => have hzW := I.bel.size; p0b d.neg p74 c74 d.e d.m f.g W I.fa.1.rd (by omega) (by omega) (b0r G.g)) (show (j0t ⟨d.neg, d.m, d.e⟩ f.g) = true from hkp.trans h77) fun Al W I => ?_
     refine zk [11, 12] I fun I => ?_
     have hi := hige h77
     refine zd [] I fun Al W I => ?_
     refine zk [0, 1, 2] I fun I => ?_
     refine zo 3 I fun I => ?_
     refine zqo I (fun Al W I => (HR W c2 I.fa.2.1 c4 I.fa.2.2.1).out) fun Al W p83 c83 I => ?_
     refine zo 4 I fun I => ?_
     refine zq I (fun Al W I => have hzW := I.bel.size; y0d f d p83 c83 W G I.fa.1.rd hb1.1 (by omega) h77 (hm0 c2 h70)) fun Al W I => ?_
     refine zk [5, 6] I fun I => ?_
     have hE : a0m f cls a = 0 := by unfold a0m; rw [if_neg c1, if_neg (by omega), if_neg c3, if_pos c58, if_neg (by omega), if_neg (fun h => by rcases h with h | h <;> first | exact h70 h | (rw [hD, h77] at h; cases h; done))]
     exact zret I (v := fun Al => .tuple #[.string (b0k (f.strP (f.numP d))), .int .i64 0]) fun Al W I => d0a hE (by rw [show cls.toNat = 2 by omega, e2]) rfl I.below
   have c4 : -20000 ≤ a.e ∧ a.e ≤ 20000 := by have := oFa f61; have := oFa f65; omega
   have hb1 := hbd c2 c4
   refine zd [] I fun Al W I => ?_
   refine zk [0, 1, 2] I fun I => ?_
   refine zkb 3 I ((a.xs.length : Int) == 0) (false) (bFn (by omega)) fun I => ?_
   refine zk [4, 5, 6, 8, 9] I fun I => ?_
   refine zo 7 I fun I => ?_
   refine zqo I (fun Al W I => (HR W c2 I.fa.1 c4 I.fa.2.1).out) fun Al W p74 c74 I => ?_
   refine zo 10 I fun I => ?_
   refine zqd I (fun Al W I => have hzW := I.bel.size; p0b d.neg p74 c74 d.e d.m f.g W I.fa.1.rd (by omega) (by omega) (b0r G.g)) (show (j0t ⟨d.neg, d.m, d.e⟩ f.g) = false from hkp.trans (by simpa using h77)) fun Al W I => ?_
   refine zk [11, 12] I fun I => ?_
   have hE : a0m f cls a = 4 := by unfold a0m; rw [if_neg c1, if_neg (by omega), if_neg c3, if_pos c58, if_neg (by omega), if_pos (by first | exact .inl h70 | exact .inr (by rw [hD]; simpa using h77))]
   have hN : (4 : Int) ≠ 0 := by decide
   exact zret I fun Al W I => a0q hE hN rfl I.below
 refine zb I 58 (cls == 2) (false) (f58) fun Al W I => ?_
 have c58 : cls ≠ 2 := by first | (have := beq_iff_eq.1 f35; omega) | (have := beq_iff_eq.1 f39; omega) | (have := beq_iff_eq.1 f49; omega) | exact bnF f58
 rcases Bool.eq_false_or_eq_true (decide ((a.xs.length : Int) > 0)) with f88 | f88
 · refine zb I 88 (decide ((a.xs.length : Int) > 0)) (true) (f88) fun Al W I => ?_
   have hE : a0m f cls a = 4 := by unfold a0m; rw [if_neg c1, if_neg (by omega), if_neg c3, if_neg c58, if_pos (by first | (have := oTr f88; omega) | exact .inr (.inl (bne_iff_ne.1 f92)) | exact .inr (.inr ⟨f96, .inr f103⟩) | exact .inr (.inr ⟨f96, .inl (by first | (have := beq_iff_eq.1 f39; omega) | (have := beq_iff_eq.1 f49; omega))⟩))]
   have hN : (4 : Int) ≠ 0 := by decide
   exact zret I fun Al W I => a0q hE hN rfl I.below
 refine zb I 88 (decide ((a.xs.length : Int) > 0)) (false) (f88) fun Al W I => ?_
 rcases Bool.eq_false_or_eq_true (a.e != 0) with f92 | f92
 · refine zb I 92 (a.e != 0) (true) (f92) fun Al W I => ?_
   have hE : a0m f cls a = 4 := by unfold a0m; rw [if_neg c1, if_neg (by omega), if_neg c3, if_neg c58, if_pos (by first | (have := oTr f88; omega) | exact .inr (.inl (bne_iff_ne.1 f92)) | exact .inr (.inr ⟨f96, .inr f103⟩) | exact .inr (.inr ⟨f96, .inl (by first | (have := beq_iff_eq.1 f39; omega) | (have := beq_iff_eq.1 f49; omega))⟩))]
   have hN : (4 : Int) ≠ 0 := by decide
   exact zret I fun Al W I => a0q hE hN rfl I.below
 refine zb I 92 (a.e != 0) (false) (f92) fun Al W I => ?_
 rcases Bool.eq_false_or_eq_true (a.g) with f96 | f96
 · refine zb I 96 (a.g) (true) (f96) fun Al W I => ?_
   refine zb I 100 (decide (cls ≥ 4)) (false) (dFa (by have := bnF f49; have := bnF f35; have := bnF f39; omega)) fun Al W I => ?_
   rcases Bool.eq_false_or_eq_true (f.res) with f103 | f103
   · refine zb I 103 (f.res) (true) (f103) fun Al W I => ?_
     have hE : a0m f cls a = 4 := by unfold a0m; rw [if_neg c1, if_neg (by omega), if_neg c3, if_neg c58, if_pos (by first | (have := oTr f88; omega) | exact .inr (.inl (bne_iff_ne.1 f92)) | exact .inr (.inr ⟨f96, .inr f103⟩) | exact .inr (.inr ⟨f96, .inl (by first | (have := beq_iff_eq.1 f39; omega) | (have := beq_iff_eq.1 f49; omega))⟩))]
     have hN : (4 : Int) ≠ 0 := by decide
     exact zret I fun Al W I => a0q hE hN rfl I.below
   refine zb I 103 (f.res) (false) (f103) fun Al W I => ?_
   have hE : a0m f cls a = 0 := by unfold a0m; rw [if_neg c1, if_neg (by omega), if_neg c3, if_neg c58, if_neg (fun h => by rcases h with h | h | ⟨h, k⟩ <;> first | (have := oFa f88; omega) | (rw [show (a.e != 0) = true from bne_iff_ne.2 h] at f92; cases f92; done) | (rw [f96] at h; cases h; done) | (rcases k with k | k <;> first | (have := beq_iff_eq.1 f35; omega) | (have := bnF f49; have := bnF f35; have := bnF f39; omega) | (rw [f103] at k; cases k; done)))]
   refine zbin I 109 _ (fun _ _ _ _ _ => c0q .i64 (1) .i64 (f.E : Int) ((P : Int)) (by omega) ((HSH.out))) fun Al W I => ?_
   refine zi I 110 .i64 ((P : Int) - 1) (((P - 1 : Nat) : Int)) ((by rw [show ((P : Int) - 1) = ((P - 1 : Nat) : Int) by omega]; exact iwo)) fun Al W I => ?_
   refine zb I 117 (cls == 3) (false) (f35) fun Al W I => ?_
   refine zb I 126 (cls == 4) (false) (f39) fun Al W I => ?_
   refine zb I 142 (cls == 5) (false) (f49) fun Al W I => ?_
   refine zg I (fun Al W I => (hJ0 W a.g 0 0 rfl h0T).out) fun Al V Iv _ hB _ kz => ?_
   rintro _ W ⟨rfl, hb⟩
   have hS : b0k (f.strP (f.encP cls.toNat a.g d)) = b0k (f.str a.g 0 0) := by rw [show cls.toNat = 1 by have := bnF f49; have := bnF f35; have := bnF f39; omega, e1]; rfl
   refine ⟨_, rfl, kz _ _ hb fun I => ?_⟩
   exact zret I fun Al W I => d0a hE hS rfl I.below
 refine zb I 96 (a.g) (false) (f96) fun Al W I => ?_
 have hE : a0m f cls a = 0 := by unfold a0m; rw [if_neg c1, if_neg (by omega), if_neg c3, if_neg c58, if_neg (fun h => by rcases h with h | h | ⟨h, k⟩ <;> first | (have := oFa f88; omega) | (rw [show (a.e != 0) = true from bne_iff_ne.2 h] at f92; cases f92; done) | (rw [f96] at h; cases h; done) | (rcases k with k | k <;> first | (have := beq_iff_eq.1 f35; omega) | (have := bnF f49; have := bnF f35; have := bnF f39; omega) | (rw [f103] at k; cases k; done)))]
 refine zbin I 109 _ (fun _ _ _ _ _ => c0q .i64 (1) .i64 (f.E : Int) ((P : Int)) (by omega) ((HSH.out))) fun Al W I => ?_
 refine zi I 110 .i64 ((P : Int) - 1) (((P - 1 : Nat) : Int)) ((by rw [show ((P : Int) - 1) = ((P - 1 : Nat) : Int) by omega]; exact iwo)) fun Al W I => ?_
 refine zb I 117 (cls == 3) (false) (f35) fun Al W I => ?_
 refine zb I 126 (cls == 4) (false) (f39) fun Al W I => ?_
 refine zb I 142 (cls == 5) (false) (f49) fun Al W I => ?_
 refine zg I (fun Al W I => (hJ0 W a.g 0 0 rfl h0T).out) fun Al V Iv _ hB _ kz => ?_
 rintro _ W ⟨rfl, hb⟩
 have hS : b0k (f.strP (f.encP cls.toNat a.g d)) = b0k (f.str a.g 0 0) := by rw [show cls.toNat = 1 by have := bnF f49; have := bnF f35; have := bnF f39; omega, e1]; rfl
 refine ⟨_, rfl, kz _ _ hb fun I => ?_⟩
 exact zret I fun Al W I => d0a hE hS rfl I.below
end Go.Proofs.YtmacohmclpnphaaGreatDoor
namespace Go.Slip
theorem o0c (r : List Bool) {i : Nat} (h : i < r.length) : (r.take (i + 1)).all id = ((r.take i).all id && r.getD i false) := by
 rw [p0t r i h, List.getD_eq_getElem?_getD, List.getElem?_eq_getElem h]
 rfl
theorem p0d {X F d : Nat} (h : X < 2 ^ F) (hF : F ≤ 64) (hd : d ≤ 120) : X + 2 ^ d < 2 ^ 122 := by
 have h1 : 2 ^ F ≤ 2 ^ 64 := Nat.pow_le_pow_right (by omega) hF
 have h2 : 2 ^ d ≤ 2 ^ 120 := Nat.pow_le_pow_right (by omega) hd
 omega
theorem f1i {a b : Nat} (h : cmpN a b < 0) : a < b := by
 unfold cmpN at h
 split at h
 · assumption
 · split at h <;> omega
theorem v0c {a b : Nat} (h : ¬ cmpN a b < 0) : ¬ a < b := fun k => by
 apply h
 rw [f0t k]
 decide
theorem f1j {w : World} {p : Option Addr} {x : Bool} {r : List Bool} (h : RdV w p ((x :: r).map Value.bool)) (E : Nat) : RdV w (p.map (·.add (1 + E))) ((r.drop E).map Value.bool) := by
 have := h.drop (1 + E)
 rw [show ((x :: r).map Value.bool).drop (1 + E) = (r.drop E).map Value.bool by rw [Nat.add_comm, List.map_cons, List.drop_succ_cons, List.map_drop]] at this
 exact this
end Go.Slip
namespace Go.Proofs.YtmacohmclpnphaaGreatDoor
open Go.RowKit Go.Slip
def l0z (w : World) (v : Vr) (g : Bool) (en : Ending) (w' : World) : Prop :=
 ∃ p c, en = .returned (.tuple #[.agg #[.int .i64 (v.cls : Int), .bool v.neg, .bool v.x.neg, .slice p (dig B16 v.x.m).length c, .int .i64 v.x.e], .bool g]) ∧ Rf w' w.heap.size p c (dig B16 v.x.m) ∧ Below w.heap.size w w'
theorem c0m {w w' : World} {v : Vr} {k : Nat} {n g : Bool} {en : Ending} (hv : v = ⟨k, n, ⟨false, 0, 0⟩⟩) (h : en = .returned (.tuple #[.agg #[.int .i64 (k : Int), .bool n, .bool false, .slice none 0 0, .int .i64 0], .bool g])) (hb : Below w.heap.size w w') : l0z w v g en w' := by
 subst hv
 refine ⟨none, 0, ?_, ?_, hb⟩
 · rw [h, a0c]; rfl
 · rw [a0c]; exact m0p _ _ _
theorem d0z {w w' : World} {v u : Vr} {g : Bool} {p : Option Addr} {c base : Nat} {en : Ending} (hv : v = u) (h : en = .returned (.tuple #[.agg #[.int .i64 (u.cls : Int), .bool u.neg, .bool u.x.neg, .slice p (dig B16 u.x.m).length c, .int .i64 u.x.e], .bool g])) (ho : Rf w' base p c (dig B16 u.x.m)) (hB : w.heap.size ≤ base) (hb : Below w.heap.size w w') : l0z w v g en w' := by
 subst hv
 exact ⟨p, c, h, ho.mono hB, hb⟩
theorem n0o (f : Fm) (g : Bool) {k : Nat} (hk : k ≠ 2) : f.vr g ⟨k, 0, 0⟩ = ⟨k, if k ≤ 3 then g else false, ⟨false, 0, 0⟩⟩ := by
 unfold Fm.vr Dc.c
 simp [hk]
theorem n0p (n : Int) (s : ByteArray) (w : World) (hn : IsFm n) (hs : s.size = (fmt n).size) :
 Calls Tryz.prog 32 #[.int .i64 n, .string s] w (l0z w ((fmt n).refN (a0x (fmt n) s)) ((fmt n).neg (a0x (fmt n) s))) := by
 have G := b0s hn
 have hext := c1h hn
 have HF := fun W => hi0 (e0n n hn W)
 have HB := fun W => hi0 (q0y n s W hn hs)
 generalize fmt n = f at *
 have z1 := G.sz
 have z2 := G.e2
 have z3 := G.f2
 have z4 := G.bits
 have z5 := G.lo
 have z6 := G.f1
 have hl0 : (b0g s).length = f.size := by rw [c0d, hs]
 have hlL : (ordL f.ord (b0g s)).length = f.size := by rw [b0u, hl0]
 have hN : a0x f s = vb (f0x (ordL f.ord (b0g s))) := (u0a _ (i0e (fun _ => by omega) (k0w s))).symm
 have hlB : (f0x (ordL f.ord (b0g s))).length = 1 + f.E + f.F := by rw [h0o, hlL]; omega
 rw [hN]
 clear hN
 generalize f0x (ordL f.ord (b0g s)) = bs at *
 obtain ⟨x, r, rfl⟩ : ∃ x r, bs = x :: r := by
  cases bs with
  | nil => simp at hlB; omega
  | cons x r => exact ⟨x, r, rfl⟩
 have hr : r.length = f.E + f.F := by rw [List.length_cons] at hlB; omega
 unfold Fm.refN Fm.decN
 rw [v0z hr, w0a hr, s0e hr]
 have hEl : (r.take f.E).length = f.E := by rw [List.length_take]; omega
 have hXl : (r.drop f.E).length = f.F := by rw [List.length_drop]; omega
 have hones := z0r (r.take f.E)
 rw [hEl] at hones
 have hElt := j0r (r.take f.E)
 rw [hEl] at hElt
 have hXlt := j0r (r.drop f.E)
 rw [hXl] at hXlt
 have HV := fun W p m c h hm => hi0 (s0z (r.drop f.E) p m c W h hm (by omega))
 have hvt := fun i h => h0c r (i := i) h
 have hat := fun i h => o0c r (i := i) h
 have hev : ∀ i, i ≤ f.E → vb (r.take i) < 32768 := fun i hi => Nat.lt_of_lt_of_le (j0r _) (by rw [List.length_take, show (32768 : Nat) = 2 ^ 15 from rfl]; exact Nat.pow_le_pow_right (by omega) (by omega))
 have hget := fun i h => q0z r (i := i) h
 generalize hEE : vb (r.take f.E) = EE at *
 generalize hXX : vb (r.drop f.E) = X at *
 have hXd := b0v hXlt (k := 4) (by omega)
 have hX0 := a0f a0e X
 have h15 : EE < 32768 := Nat.lt_of_lt_of_le hElt (by rw [show (32768 : Nat) = 2 ^ 15 from rfl]; exact Nat.pow_le_pow_right (by omega) (by omega))
 have hg := b0r G.g
 have hd1 := hg.d1
 have hd2 := hg.d2
 obtain ⟨dN, hdN⟩ : ∃ dN : Nat, f.g.digs - 1 = (dN : Int) := ⟨(f.g.digs - 1).toNat, by omega⟩
 have hdl : (dig B16 (2 ^ dN)).length ≤ 8 := b0v (n := 121) (Nat.pow_lt_pow_right (by omega) (by omega)) (by omega)
 have hd1F := G.d1
 have hextF := G.ext
 have hfam := G.fam
 have hln : (List.map Value.bool (x :: r)).length = (x :: r).length := List.length_map ..
 have hlr : (x :: r).length = 1 + f.E + f.F := hlB
 clear hXX hl0 hlL hXl hs
 have I := Inv.start w [] True.intro
 refine a0d [.v (.int .i64 n), .v (.string s)] I Tryz.func32 ?_
 refine zq I (fun Al W I => (HF W).out) fun Al W I => ?_
 refine zg I (fun Al W I => (HB W).out) fun Al V Iv _ hB _ kz => ?_
 rintro _ W ⟨p8, c8, rfl, o8, hb⟩
 refine ⟨_, rfl, kz _ _ hb fun I => ?_⟩
 have I := I.ownv o8
 refine zx I 26 (fun _ => .pointer (some (at_ p8 0))) (fun Al W I => o0t (p := p8) (n := (x :: r).length) (c := c8) (m := 0) d0d (by have h := I.fa.1.rd.solid; rw [hln] at h; exact h) (by omega)) fun Al W I => ?_
 refine zx I 27 (fun _ => .bool x) (fun Al W I => s0m I.fa.1.rd k0b (m := 0) rfl) fun Al W I => ?_
 refine h1s I (fun gk fr bx gs => ∃ (U900 : Nat → Value) (i : Nat) (e : Nat) (o : Bool), fr = (.v (.int .i64 n) :: .v (.string s) :: su 2 (.p 0 0 :: .v (.bool false) :: .p 1 0 :: .v (U900 7) :: .v (.slice p8 (x :: r).length c8) :: .p 2 0 :: .v (.int .i64 (e : Int)) :: .v (.bool o) :: .v (.int .i64 ((i + 1 : Nat) : Int)) :: su 4 (sw U900 17 48 (su 2 (sw U900 67 8 (.v undef :: sw U900 76 2 (su 2 (sw U900 80 15 (su 2 (sw U900 97 3 (.v undef :: sw U900 101 12 (.v undef :: sw U900 114 11 (.v undef :: sw U900 126 2 (.v undef :: sw U900 129 6 (.v undef :: sw U900 136 12 [])))))))))))))) : List SV) ∧ bx = [⟨32, [.v (.int .i64 0), .v (.bool false), .v (.bool false), .v (.slice none 0 0), .v (.int .i64 0)], false⟩, ⟨62, [.v (.int .i64 (f.size : Int)), .v (.int .i64 (f.E : Int)), .v (.int .i64 (f.F : Int)), .v (.int .i64 f.g.rad), .v (.int .i64 f.g.digs), .v (.int .i64 f.g.lo), .v (.int .i64 f.g.hi), .v (.bool f.g.grad), .v (.int .i64 (f.fam : Int))], false⟩, ⟨4, [.v (.bool x)], false⟩] ∧ gs = [h1z w.heap.size 4 p8 c8 ((x :: r).map Value.bool)] ∧ (e = vb (r.take i)) ∧ (o = (r.take i).all id) ∧ (gk + i = f.E)) f.E (fun Al W U I => ⟨_, ⟨U, 0, 0, true, rfl, rfl, rfl, rfl, rfl, (by omega)⟩, I.pick [0]⟩) ?_
 rintro J gk0 _ _ _ ⟨U900, i, e, o, rfl, rfl, rfl, he, ho, hgk⟩ hJ Al W I
 have hel : e < 32768 := by rw [he]; exact hev i (by omega)
 rcases Bool.eq_false_or_eq_true (decide (((i + 1 : Nat) : Int) ≤ (f.E : Int))) with f31 | f31
 · refine zb I 31 (decide (((i + 1 : Nat) : Int) ≤ (f.E : Int))) (true) (f31) fun Al W I => ?_
   refine zi I 35 .i64 ((2 : Int) * (e : Int)) (((2 * e : Nat) : Int)) ((by rw [show ((2 : Int) * (e : Int)) = ((2 * e : Nat) : Int) by omega]; exact iwo)) fun Al W I => ?_
   refine zx I 38 (fun _ => .pointer (some (at_ p8 (i + 1)))) (fun Al W I => o0t (p := p8) (n := (x :: r).length) (c := c8) (m := i + 1) d0d (by have h := I.fa.1.rd.solid; rw [hln] at h; exact h) (by have := oTr f31; omega)) fun Al W I => ?_
   rcases Bool.eq_false_or_eq_true (r.getD i false) with f39 | f39
   · refine zx I 39 (fun _ => .bool true) (fun Al W I => (s0m I.fa.1.rd k0b (m := i + 1) (by rw [List.map_cons, List.getElem?_cons_succ]; exact hget i (by have := oTr f31; omega))).trans (congrArg (fun z => Result.ok (Value.bool z) W) (show (r.getD i false) = true from f39))) fun Al W I => ?_
     refine zi I 41 .i64 (((2 * e : Nat) : Int) + 1) (((2 * e + 1 : Nat) : Int)) ((by rw [show (((2 * e : Nat) : Int) + 1) = ((2 * e + 1 : Nat) : Int) by omega]; exact iwo)) fun Al W I => ?_
     rcases Bool.eq_false_or_eq_true (o) with f43 | f43
     · refine zb I 43 (o) (true) (f43) fun Al W I => ?_
       refine zx I 46 (fun _ => .pointer (some (at_ p8 (i + 1)))) (fun Al W I => o0t (p := p8) (n := (x :: r).length) (c := c8) (m := i + 1) d0d (by have h := I.fa.1.rd.solid; rw [hln] at h; exact h) (by have := oTr f31; omega)) fun Al W I => ?_
       refine zx I 47 (fun _ => .bool true) (fun Al W I => (s0m I.fa.1.rd k0b (m := i + 1) (by rw [List.map_cons, List.getElem?_cons_succ]; exact hget i (by have := oTr f31; omega))).trans (congrArg (fun z => Result.ok (Value.bool z) W) (show (r.getD i false) = true from f39))) fun Al W I => ?_
       refine zi I 33 .i64 (((i + 1 : Nat) : Int) + 1) (((i + 1 + 1 : Nat) : Int)) ((by rw [show (((i + 1 : Nat) : Int) + 1) = ((i + 1 + 1 : Nat) : Int) by omega]; exact IntWalk.i64_in _ (by have := oTr f31; omega))) fun Al W I => ?_
       exact a0y I J fun Al W U I => hJ (gk0 - 1) _ _ _ _ _ ((by have := oTr f31; omega)) ⟨U, i + 1, 2 * e + 1, true, rfl, rfl, rfl, (by rw [← hvt i (by have := oTr f31; omega), f39, he, Bool.toNat_true, Nat.mul_comm]), (by rw [hat i (by have := oTr f31; omega), f39, ← ho, f43]; rfl), (by have := oTr f31; omega)⟩ (I.pick [0])
     refine zb I 43 (o) (false) (f43) fun Al W I => ?_
     refine zi I 33 .i64 (((i + 1 : Nat) : Int) + 1) (((i + 1 + 1 : Nat) : Int)) ((by rw [show (((i + 1 : Nat) : Int) + 1) = ((i + 1 + 1 : Nat) : Int) by omega]; exact IntWalk.i64_in _ (by have := oTr f31; omega))) fun Al W I => ?_
     exact a0y I J fun Al W U I => hJ (gk0 - 1) _ _ _ _ _ ((by have := oTr f31; omega)) ⟨U, i + 1, 2 * e + 1, false, rfl, rfl, rfl, (by rw [← hvt i (by have := oTr f31; omega), f39, he, Bool.toNat_true, Nat.mul_comm]), (by rw [hat i (by have := oTr f31; omega), f39, ← ho, f43]; rfl), (by have := oTr f31; omega)⟩ (I.pick [0])
   refine zx I 39 (fun _ => .bool false) (fun Al W I => (s0m I.fa.1.rd k0b (m := i + 1) (by rw [List.map_cons, List.getElem?_cons_succ]; exact hget i (by have := oTr f31; omega))).trans (congrArg (fun z => Result.ok (Value.bool z) W) (show (r.getD i false) = false from f39))) fun Al W I => ?_
   rcases Bool.eq_false_or_eq_true (o) with f43 | f43
   · refine zb I 43 (o) (true) (f43) fun Al W I => ?_
     refine zx I 46 (fun _ => .pointer (some (at_ p8 (i + 1)))) (fun Al W I => o0t (p := p8) (n := (x :: r).length) (c := c8) (m := i + 1) d0d (by have h := I.fa.1.rd.solid; rw [hln] at h; exact h) (by have := oTr f31; omega)) fun Al W I => ?_
     refine zx I 47 (fun _ => .bool false) (fun Al W I => (s0m I.fa.1.rd k0b (m := i + 1) (by rw [List.map_cons, List.getElem?_cons_succ]; exact hget i (by have := oTr f31; omega))).trans (congrArg (fun z => Result.ok (Value.bool z) W) (show (r.getD i false) = false from f39))) fun Al W I => ?_
     refine zi I 33 .i64 (((i + 1 : Nat) : Int) + 1) (((i + 1 + 1 : Nat) : Int)) ((by rw [show (((i + 1 : Nat) : Int) + 1) = ((i + 1 + 1 : Nat) : Int) by omega]; exact IntWalk.i64_in _ (by have := oTr f31; omega))) fun Al W I => ?_
     exact a0y I J fun Al W U I => hJ (gk0 - 1) _ _ _ _ _ ((by have := oTr f31; omega)) ⟨U, i + 1, 2 * e, false, rfl, rfl, rfl, (by rw [← hvt i (by have := oTr f31; omega), f39, he, Bool.toNat_false, Nat.mul_comm, Nat.add_zero]), (by rw [hat i (by have := oTr f31; omega), f39, ← ho, f43]; rfl), (by have := oTr f31; omega)⟩ (I.pick [0])
   refine zb I 43 (o) (false) (f43) fun Al W I => ?_
   refine zi I 33 .i64 (((i + 1 : Nat) : Int) + 1) (((i + 1 + 1 : Nat) : Int)) ((by rw [show (((i + 1 : Nat) : Int) + 1) = ((i + 1 + 1 : Nat) : Int) by omega]; exact IntWalk.i64_in _ (by have := oTr f31; omega))) fun Al W I => ?_
   exact a0y I J fun Al W U I => hJ (gk0 - 1) _ _ _ _ _ ((by have := oTr f31; omega)) ⟨U, i + 1, 2 * e, false, rfl, rfl, rfl, (by rw [← hvt i (by have := oTr f31; omega), f39, he, Bool.toNat_false, Nat.mul_comm, Nat.add_zero]), (by rw [hat i (by have := oTr f31; omega), f39, ← ho, f43]; rfl), (by have := oTr f31; omega)⟩ (I.pick [0])
 refine zb I 31 (decide (((i + 1 : Nat) : Int) ≤ (f.E : Int))) (false) (f31) fun Al W I => ?_
 have hiE : i = f.E := by have := oFa f31; omega
 have heE : e = EE := by rw [he, hiE, hEE]
 have hoE : o = true ↔ EE = 2 ^ f.E - 1 := by rw [ho, hiE]; exact hones
 clear he ho hgk hel hev hget hvt hat hones hEE
 subst heE
 refine zi I 52 .i64 ((1 : Int) + (f.E : Int)) (((1 + f.E : Nat) : Int)) ((by rw [show ((1 : Int) + (f.E : Int)) = ((1 + f.E : Nat) : Int) by omega]; exact iwo)) fun Al W I => ?_
 refine zx I 53 (fun _ => .slice (p8.map (·.add (1 + f.E))) ((x :: r).length - (1 + f.E)) (c8 - (1 + f.E))) (fun Al W I => k1j d0d (m := 1 + f.E) (by omega) (by have := I.fa.1.le_cap; rw [hln] at this; omega) (by have := I.fa.1.le_cap; rw [hln] at this; omega)) fun Al W I => ?_
 refine zqr I (fun Al W I => have hzW := I.bel.size; (HV W (p8.map (·.add (1 + f.E))) ((x :: r).length - (1 + f.E)) (c8 - (1 + f.E)) (f1j I.fa.1.rd f.E) (by rw [List.length_drop, hlr]; omega)).out) fun Al W p54 c54 I => ?_
 refine zi I 58 .i64 (f.g.digs - 1) ((dN : Int)) ((by rw [hdN]; exact iwo)) fun Al W I => ?_
 refine zqr I (fun Al W I => have hzW := I.bel.size; s0x (dN : Int) dN rfl (by omega) W) fun Al W p59 c59 I => ?_
 rcases Bool.eq_false_or_eq_true ((f.fam : Int) == 2) with f67 | f67
 · refine zb I 67 ((f.fam : Int) == 2) (true) (f67) fun Al W I => ?_
   refine zd [0] I fun Al W I => ?_
   refine zk [0, 1, 2, 3] I fun I => ?_
   refine zki 4 I .i64 (f.g.lo + (e : Int)) (f.g.lo + (e : Int)) (iwo) fun I => ?_
   refine zk [6] I fun I => ?_
   refine zo 5 I fun I => ?_
   refine zg I (fun Al W I => have hzW := I.bel.size; c0y f x (lk 0 Al 2) (lk 0 Al 1) (X) p54 c54 _ (f.g.lo + (e : Int)) W I.fa.2.1 (by omega) (by omega) (I.box 2 4 _) (I.box 1 62 _)) fun Al V Iv _ hB _ kz => ?_
   rintro _ W ⟨pN, cN, rfl, oN, hb⟩
   have hD : f.dec x e X = ⟨2, X, f.g.lo + (e : Int)⟩ := by unfold Fm.dec; rw [if_pos (by have := beq_iff_eq.1 f67; omega)]
   refine ⟨_, rfl, kz _ _ hb fun I => ?_⟩
   have I := I.rf oN (hB _) Iv
   refine zo 7 I fun I => ?_
   refine zn I fun Al W I => ?_
   refine zk [8] I fun I => ?_
   exact zret I (v := fun Al => .tuple #[.agg #[.int .i64 (((f.vr x ⟨2, X, f.g.lo + (e : Int)⟩).cls : Nat) : Int), .bool ((f.vr x ⟨2, X, f.g.lo + (e : Int)⟩).neg), .bool ((f.vr x ⟨2, X, f.g.lo + (e : Int)⟩).x.neg), .slice pN (dig B16 (f.vr x ⟨2, X, f.g.lo + (e : Int)⟩).x.m).length cN, .int .i64 ((f.vr x ⟨2, X, f.g.lo + (e : Int)⟩).x.e)], .bool x]) fun Al W I => d0z (by rw [hD]) rfl I.fa.1 (by omega) I.below
 refine zb I 67 ((f.fam : Int) == 2) (false) (f67) fun Al W I => ?_
 rcases Bool.eq_false_or_eq_true ((f.fam : Int) == 3) with f76 | f76
 · refine zb I 76 ((f.fam : Int) == 3) (true) (f76) fun Al W I => ?_
   rcases Bool.eq_false_or_eq_true ((e : Int) == 0) with f78 | f78
   · refine zb I 78 ((e : Int) == 0) (true) (f78) fun Al W I => ?_
     rcases Bool.eq_false_or_eq_true (x) with f79 | f79
     · refine zb I 79 (x) (true) (f79) fun Al W I => ?_
       refine zd [0] I fun Al W I => ?_
       have hD : f.dec x e X = ⟨5, 0, 0⟩ := by unfold Fm.dec; rw [if_neg (by have := beq_iff_eq.1 f76; omega), if_neg (by have := beq_iff_eq.1 f76; omega), if_pos ⟨by have := beq_iff_eq.1 f76; omega, by have := beq_iff_eq.1 f78; omega⟩, if_pos f79]
       refine zk [0, 1] I fun I => ?_
       refine zo 2 I fun I => ?_
       refine zn I fun Al W I => ?_
       refine zk [3] I fun I => ?_
       exact zret I (v := fun Al => .tuple #[.agg #[.int .i64 5, .bool false, .bool false, .slice none 0 0, .int .i64 0], .bool x]) fun Al W I => c0m (by rw [hD, n0o f x (by omega), if_neg (by omega)]) rfl I.below
     refine zb I 79 (x) (false) (f79) fun Al W I => ?_
     refine zd [0] I fun Al W I => ?_
     have hD : f.dec x e X = ⟨1, 0, 0⟩ := by unfold Fm.dec; rw [if_neg (by have := beq_iff_eq.1 f76; omega), if_neg (by have := beq_iff_eq.1 f76; omega), if_pos ⟨by have := beq_iff_eq.1 f76; omega, by have := beq_iff_eq.1 f78; omega⟩, if_neg (by rw [f79]; simp)]
     refine zk [0, 1] I fun I => ?_
     refine zo 2 I fun I => ?_
     refine zn I fun Al W I => ?_
     refine zk [3] I fun I => ?_
     exact zret I (v := fun Al => .tuple #[.agg #[.int .i64 1, .bool false, .bool false, .slice none 0 0, .int .i64 0], .bool x]) fun Al W I => c0m (by rw [hD, n0o f x (by omega), if_pos (by omega), f79]) rfl I.below
   refine zb I 78 ((e : Int) == 0) (false) (f78) fun Al W I => ?_
   refine zd [0] I fun Al W I => ?_
   refine zk [0, 1, 2, 4, 5] I fun I => ?_
   refine zki 6 I .i64 (f.g.lo + (e : Int)) (f.g.lo + (e : Int)) (iwo) fun I => ?_
   refine zki 7 I .i64 ((f.g.lo + (e : Int)) - 1) ((f.g.lo + (e : Int)) - 1) (iwo) fun I => ?_
   refine zk [9] I fun I => ?_
   refine zo 3 I fun I => ?_
   have q76 : f.fam = 3 := by have := beq_iff_eq.1 f76; omega
   have q78 : e ≠ 0 := by have := bnF f78; omega
   have qx : f.ext = false := by cases hh : f.ext with | false => rfl | true => exact absurd (hextF hh).1 (by omega)
   have qF : dN = f.F := by have := hd1F (by omega) qx; omega
   refine zqr I (fun Al W I => have hzW := I.bel.size; f1b p54 p59 _ _ c54 c59 X (2 ^ dN) (X + 2 ^ dN) W I.fa.2.1.rd I.fa.1.rd rfl rfl (by omega) (by omega) rfl) fun Al W p87 c87 I => ?_
   refine zo 8 I fun I => ?_
   refine zg I (fun Al W I => have hzW := I.bel.size; c0y f x (lk 0 Al 2) (lk 0 Al 1) (X + 2 ^ dN) p87 c87 _ (f.g.lo + (e : Int) - 1) W I.fa.1 (by have := b0v (x := X + 2 ^ dN) (n := 122) (k := 8) (p0d hXlt (by omega) (by omega)) (by omega); omega) (by omega) (I.box 2 4 _) (I.box 1 62 _)) fun Al V Iv _ hB _ kz => ?_
   rintro _ W ⟨pN, cN, rfl, oN, hb⟩
   have hD : f.dec x e X = ⟨2, X + 2 ^ dN, f.g.lo + e - 1⟩ := by unfold Fm.dec; rw [if_neg (by omega), if_neg (by omega), if_neg (by omega), if_neg q78, if_pos qx, qF]
   refine ⟨_, rfl, kz _ _ hb fun I => ?_⟩
   have I := I.rf oN (hB _) Iv
   refine zo 10 I fun I => ?_
   refine zn I fun Al W I => ?_
   refine zk [11] I fun I => ?_
   exact zret I (v := fun Al => .tuple #[.agg #[.int .i64 (((f.vr x ⟨2, X + 2 ^ dN, f.g.lo + (e : Int) - 1⟩).cls : Nat) : Int), .bool ((f.vr x ⟨2, X + 2 ^ dN, f.g.lo + (e : Int) - 1⟩).neg), .bool ((f.vr x ⟨2, X + 2 ^ dN, f.g.lo + (e : Int) - 1⟩).x.neg), .slice pN (dig B16 (f.vr x ⟨2, X + 2 ^ dN, f.g.lo + (e : Int) - 1⟩).x.m).length cN, .int .i64 ((f.vr x ⟨2, X + 2 ^ dN, f.g.lo + (e : Int) - 1⟩).x.e)], .bool x]) fun Al W I => d0z (by rw [hD]) rfl I.fa.1 (by omega) I.below
 refine zb I 76 ((f.fam : Int) == 3) (false) (f76) fun Al W I => ?_
 have q1 : f.fam = 1 := by have := bnF f67; have := bnF f76; omega
 rcases Bool.eq_false_or_eq_true (n == 3) with f95 | f95
 · refine zb I 95 (n == 3) (true) (f95) fun Al W I => ?_
   have qx : f.ext = true := by rw [hext]; exact dTr (beq_iff_eq.1 f95)
   have qN : dN = 63 := by have := (hextF qx).2.2; omega
   rcases Bool.eq_false_or_eq_true (o) with f96 | f96
   · refine zb I 96 (o) (true) (f96) fun Al W I => ?_
     refine zq I (fun Al W I => have hzW := I.bel.size; d0w p54 p59 _ _ c54 c59 X (2 ^ dN) W I.fa.2.1.rd I.fa.1.rd rfl rfl (by omega) (by omega)) fun Al W I => ?_
     rcases Bool.eq_false_or_eq_true ((cmpN X (2 ^ dN)) == 0) with f100 | f100
     · refine zb I 100 ((cmpN X (2 ^ dN)) == 0) (true) (f100) fun Al W I => ?_
       refine zd [0] I fun Al W I => ?_
       have hD : f.dec x e X = ⟨3, 0, 0⟩ := by unfold Fm.dec; rw [if_neg (by omega), if_pos ⟨q1, hoE.1 f96⟩, if_pos (.inr ⟨qx, by have := s0v (beq_iff_eq.1 f100); rw [qN] at this; exact this⟩)]
       refine zk [0, 1, 2] I fun I => ?_
       refine zo 3 I fun I => ?_
       refine zn I fun Al W I => ?_
       refine zk [4] I fun I => ?_
       exact zret I (v := fun Al => .tuple #[.agg #[.int .i64 3, .bool x, .bool false, .slice none 0 0, .int .i64 0], .bool x]) fun Al W I => c0m (by rw [hD, n0o f x (by omega), if_pos (by omega)]) rfl I.below
     refine zb I 100 ((cmpN X (2 ^ dN)) == 0) (false) (f100) fun Al W I => ?_
     refine zd [0] I fun Al W I => ?_
     have hD : f.dec x e X = ⟨4, 0, 0⟩ := by unfold Fm.dec; rw [if_neg (by omega), if_pos ⟨q1, hoE.1 f96⟩, if_neg (fun h => by rcases h with h | h <;> first | (have k := h.1; rw [qx] at k; cases k; done) | (have k := bnF f100; apply k; rw [qN, h.2]; exact t0p _))]
     refine zk [0, 1] I fun I => ?_
     refine zo 2 I fun I => ?_
     refine zn I fun Al W I => ?_
     refine zk [3] I fun I => ?_
     exact zret I (v := fun Al => .tuple #[.agg #[.int .i64 4, .bool false, .bool false, .slice none 0 0, .int .i64 0], .bool x]) fun Al W I => c0m (by rw [hD, n0o f x (by omega), if_neg (by omega)]) rfl I.below
   refine zb I 96 (o) (false) (f96) fun Al W I => ?_
   have qo : ¬ (f.fam = 1 ∧ e = 2 ^ f.E - 1) := fun h => by have k := hoE.2 h.2; first | (rw [f96] at k; cases k; done)
   rcases Bool.eq_false_or_eq_true (decide ((e : Int) > 0)) with f107 | f107
   · refine zb I 107 (decide ((e : Int) > 0)) (true) (f107) fun Al W I => ?_
     refine zq I (fun Al W I => have hzW := I.bel.size; d0w p54 p59 _ _ c54 c59 X (2 ^ dN) W I.fa.2.1.rd I.fa.1.rd rfl rfl (by omega) (by omega)) fun Al W I => ?_
     rcases Bool.eq_false_or_eq_true (decide ((cmpN X (2 ^ dN)) < 0)) with f112 | f112
     · refine zb I 112 (decide ((cmpN X (2 ^ dN)) < 0)) (true) (f112) fun Al W I => ?_
       refine zd [0] I fun Al W I => ?_
       have hD : f.dec x e X = ⟨4, 0, 0⟩ := by unfold Fm.dec; rw [if_neg (by omega), if_neg qo, if_neg (by omega), if_neg (by have := oTr f107; omega), if_neg (by rw [qx]; simp), if_pos (by have k := f1i (oTr f112); rw [qN] at k; exact k)]
       refine zk [0, 1] I fun I => ?_
       refine zo 2 I fun I => ?_
       refine zn I fun Al W I => ?_
       refine zk [3] I fun I => ?_
       exact zret I (v := fun Al => .tuple #[.agg #[.int .i64 4, .bool false, .bool false, .slice none 0 0, .int .i64 0], .bool x]) fun Al W I => c0m (by rw [hD, n0o f x (by omega), if_neg (by omega)]) rfl I.below
     refine zb I 112 (decide ((cmpN X (2 ^ dN)) < 0)) (false) (f112) fun Al W I => ?_
     refine zd [0] I fun Al W I => ?_
     refine zk [0, 1, 2, 3] I fun I => ?_
     refine zki 4 I .i64 ((e : Int) - 1) ((e : Int) - 1) (iwo) fun I => ?_
     refine zkm 5 I .i64 (if (((e : Int) - 1) : Int) > 0 then ((e : Int) - 1) else 0) (((e - 1 : Nat) : Int)) ((by split <;> omega)) fun I => ?_
     refine zki 6 I .i64 (f.g.lo + ((e - 1 : Nat) : Int)) (f.g.lo + ((e - 1 : Nat) : Int)) (iwo) fun I => ?_
     refine zk [8] I fun I => ?_
     refine zo 7 I fun I => ?_
     refine zg I (fun Al W I => have hzW := I.bel.size; c0y f x (lk 0 Al 2) (lk 0 Al 1) X p54 c54 _ (f.g.lo + ((e - 1 : Nat) : Int)) W I.fa.2.1 (by omega) (by omega) (I.box 2 4 _) (I.box 1 62 _)) fun Al V Iv _ hB _ kz => ?_
     rintro _ W ⟨pN, cN, rfl, oN, hb⟩
     have hD : f.dec x e X = ⟨2, X, f.g.lo + ((e - 1 : Nat) : Int)⟩ := by unfold Fm.dec; rw [if_neg (by omega), if_neg qo, if_neg (by omega), if_neg (by have := oTr f107; omega), if_neg (by rw [qx]; simp), if_neg (by have k := v0c (oFa f112); rw [qN] at k; exact k)]; simp only [Dc.mk.injEq, true_and]; have := oTr f107; omega
     refine ⟨_, rfl, kz _ _ hb fun I => ?_⟩
     have I := I.rf oN (hB _) Iv
     refine zo 9 I fun I => ?_
     refine zn I fun Al W I => ?_
     refine zk [10] I fun I => ?_
     exact zret I (v := fun Al => .tuple #[.agg #[.int .i64 (((f.vr x ⟨2, X, f.g.lo + ((e - 1 : Nat) : Int)⟩).cls : Nat) : Int), .bool ((f.vr x ⟨2, X, f.g.lo + ((e - 1 : Nat) : Int)⟩).neg), .bool ((f.vr x ⟨2, X, f.g.lo + ((e - 1 : Nat) : Int)⟩).x.neg), .slice pN (dig B16 (f.vr x ⟨2, X, f.g.lo + ((e - 1 : Nat) : Int)⟩).x.m).length cN, .int .i64 ((f.vr x ⟨2, X, f.g.lo + ((e - 1 : Nat) : Int)⟩).x.e)], .bool x]) fun Al W I => d0z (by rw [hD]) rfl I.fa.1 (by omega) I.below
   refine zb I 107 (decide ((e : Int) > 0)) (false) (f107) fun Al W I => ?_
   refine zd [0] I fun Al W I => ?_
   refine zk [0, 1, 2, 3] I fun I => ?_
   refine zki 4 I .i64 ((e : Int) - 1) ((e : Int) - 1) (iwo) fun I => ?_
   refine zkm 5 I .i64 (if (((e : Int) - 1) : Int) > 0 then ((e : Int) - 1) else 0) (((e - 1 : Nat) : Int)) ((by split <;> omega)) fun I => ?_
   refine zki 6 I .i64 (f.g.lo + ((e - 1 : Nat) : Int)) (f.g.lo + ((e - 1 : Nat) : Int)) (iwo) fun I => ?_
   refine zk [8] I fun I => ?_
   refine zo 7 I fun I => ?_
   refine zg I (fun Al W I => have hzW := I.bel.size; c0y f x (lk 0 Al 2) (lk 0 Al 1) X p54 c54 _ (f.g.lo + ((e - 1 : Nat) : Int)) W I.fa.2.1 (by omega) (by omega) (I.box 2 4 _) (I.box 1 62 _)) fun Al V Iv _ hB _ kz => ?_
   rintro _ W ⟨pN, cN, rfl, oN, hb⟩
   have hD : f.dec x e X = ⟨2, X, f.g.lo + ((e - 1 : Nat) : Int)⟩ := by unfold Fm.dec; rw [if_neg (by omega), if_neg qo, if_neg (by omega), if_pos (by have := oFa f107; omega)]; simp only [Dc.mk.injEq, true_and]; have := oFa f107; omega
   refine ⟨_, rfl, kz _ _ hb fun I => ?_⟩
   have I := I.rf oN (hB _) Iv
   refine zo 9 I fun I => ?_
   refine zn I fun Al W I => ?_
   refine zk [10] I fun I => ?_
   exact zret I (v := fun Al => .tuple #[.agg #[.int .i64 (((f.vr x ⟨2, X, f.g.lo + ((e - 1 : Nat) : Int)⟩).cls : Nat) : Int), .bool ((f.vr x ⟨2, X, f.g.lo + ((e - 1 : Nat) : Int)⟩).neg), .bool ((f.vr x ⟨2, X, f.g.lo + ((e - 1 : Nat) : Int)⟩).x.neg), .slice pN (dig B16 (f.vr x ⟨2, X, f.g.lo + ((e - 1 : Nat) : Int)⟩).x.m).length cN, .int .i64 ((f.vr x ⟨2, X, f.g.lo + ((e - 1 : Nat) : Int)⟩).x.e)], .bool x]) fun Al W I => d0z (by rw [hD]) rfl I.fa.1 (by omega) I.below
 refine zb I 95 (n == 3) (false) (f95) fun Al W I => ?_
 have qx : f.ext = false := by rw [hext]; exact dFa (bnF f95)
 have qF : dN = f.F := by have := hd1F (by omega) qx; omega
 rcases Bool.eq_false_or_eq_true (o) with f125 | f125
 · refine zb I 125 (o) (true) (f125) fun Al W I => ?_
   rcases Bool.eq_false_or_eq_true ((((dig B16 X).length : Nat) : Int) == 0) with f128 | f128
   · refine zb I 128 ((((dig B16 X).length : Nat) : Int) == 0) (true) (f128) fun Al W I => ?_
     refine zd [0] I fun Al W I => ?_
     have hD : f.dec x e X = ⟨3, 0, 0⟩ := by unfold Fm.dec; rw [if_neg (by omega), if_pos ⟨q1, hoE.1 f125⟩, if_pos (.inl ⟨qx, hX0.1 (by have := beq_iff_eq.1 f128; omega)⟩)]
     refine zk [0, 1, 2] I fun I => ?_
     refine zo 3 I fun I => ?_
     refine zn I fun Al W I => ?_
     refine zk [4] I fun I => ?_
     exact zret I (v := fun Al => .tuple #[.agg #[.int .i64 3, .bool x, .bool false, .slice none 0 0, .int .i64 0], .bool x]) fun Al W I => c0m (by rw [hD, n0o f x (by omega), if_pos (by omega)]) rfl I.below
   refine zb I 128 ((((dig B16 X).length : Nat) : Int) == 0) (false) (f128) fun Al W I => ?_
   refine zd [0] I fun Al W I => ?_
   have hD : f.dec x e X = ⟨4, 0, 0⟩ := by unfold Fm.dec; rw [if_neg (by omega), if_pos ⟨q1, hoE.1 f125⟩, if_neg (fun h => by rcases h with h | h <;> first | (have k := h.1; rw [qx] at k; cases k; done) | (have k := bnF f128; have k2 := hX0.2 h.2; omega))]
   refine zk [0, 1] I fun I => ?_
   refine zo 2 I fun I => ?_
   refine zn I fun Al W I => ?_
   refine zk [3] I fun I => ?_
   exact zret I (v := fun Al => .tuple #[.agg #[.int .i64 4, .bool false, .bool false, .slice none 0 0, .int .i64 0], .bool x]) fun Al W I => c0m (by rw [hD, n0o f x (by omega), if_neg (by omega)]) rfl I.below
 refine zb I 125 (o) (false) (f125) fun Al W I => ?_
 have qo : ¬ (f.fam = 1 ∧ e = 2 ^ f.E - 1) := fun h => by have k := hoE.2 h.2; rw [f125] at k; cases k
 rcases Bool.eq_false_or_eq_true (decide ((e : Int) > 0)) with f135 | f135
 · refine zb I 135 (decide ((e : Int) > 0)) (true) (f135) fun Al W I => ?_
   refine zqr I (fun Al W I => have hzW := I.bel.size; f1b p54 p59 _ _ c54 c59 X (2 ^ dN) (X + 2 ^ dN) W I.fa.2.1.rd I.fa.1.rd rfl rfl (by omega) (by omega) rfl) fun Al W p138 c138 I => ?_
   refine zd [0] I fun Al W I => ?_
   refine zk [0, 1, 2, 3] I fun I => ?_
   refine zki 4 I .i64 ((e : Int) - 1) ((e : Int) - 1) (iwo) fun I => ?_
   refine zkm 5 I .i64 (if (((e : Int) - 1) : Int) > 0 then ((e : Int) - 1) else 0) (((e - 1 : Nat) : Int)) ((by split <;> omega)) fun I => ?_
   refine zki 6 I .i64 (f.g.lo + ((e - 1 : Nat) : Int)) (f.g.lo + ((e - 1 : Nat) : Int)) (iwo) fun I => ?_
   refine zk [8] I fun I => ?_
   refine zo 7 I fun I => ?_
   refine zg I (fun Al W I => have hzW := I.bel.size; c0y f x (lk 0 Al 2) (lk 0 Al 1) (X + 2 ^ dN) p138 c138 _ (f.g.lo + ((e - 1 : Nat) : Int)) W I.fa.1 (by have := b0v (x := X + 2 ^ dN) (n := 122) (k := 8) (p0d hXlt (by omega) (by omega)) (by omega); omega) (by omega) (I.box 2 4 _) (I.box 1 62 _)) fun Al V Iv _ hB _ kz => ?_
   rintro _ W ⟨pN, cN, rfl, oN, hb⟩
   have hD : f.dec x e X = ⟨2, X + 2 ^ dN, f.g.lo + ((e - 1 : Nat) : Int)⟩ := by unfold Fm.dec; rw [if_neg (by omega), if_neg qo, if_neg (by omega), if_neg (by have := oTr f135; omega), if_pos qx, qF]; simp only [Dc.mk.injEq, true_and]; have := oTr f135; omega
   refine ⟨_, rfl, kz _ _ hb fun I => ?_⟩
   have I := I.rf oN (hB _) Iv
   refine zo 9 I fun I => ?_
   refine zn I fun Al W I => ?_
   refine zk [10] I fun I => ?_
   exact zret I (v := fun Al => .tuple #[.agg #[.int .i64 (((f.vr x ⟨2, X + 2 ^ dN, f.g.lo + ((e - 1 : Nat) : Int)⟩).cls : Nat) : Int), .bool ((f.vr x ⟨2, X + 2 ^ dN, f.g.lo + ((e - 1 : Nat) : Int)⟩).neg), .bool ((f.vr x ⟨2, X + 2 ^ dN, f.g.lo + ((e - 1 : Nat) : Int)⟩).x.neg), .slice pN (dig B16 (f.vr x ⟨2, X + 2 ^ dN, f.g.lo + ((e - 1 : Nat) : Int)⟩).x.m).length cN, .int .i64 ((f.vr x ⟨2, X + 2 ^ dN, f.g.lo + ((e - 1 : Nat) : Int)⟩).x.e)], .bool x]) fun Al W I => d0z (by rw [hD]) rfl I.fa.1 (by omega) I.below
 refine zb I 135 (decide ((e : Int) > 0)) (false) (f135) fun Al W I => ?_
 refine zd [0] I fun Al W I => ?_
 refine zk [0, 1, 2, 3] I fun I => ?_
 refine zki 4 I .i64 ((e : Int) - 1) ((e : Int) - 1) (iwo) fun I => ?_
 refine zkm 5 I .i64 (if (((e : Int) - 1) : Int) > 0 then ((e : Int) - 1) else 0) (((e - 1 : Nat) : Int)) ((by split <;> omega)) fun I => ?_
 refine zki 6 I .i64 (f.g.lo + ((e - 1 : Nat) : Int)) (f.g.lo + ((e - 1 : Nat) : Int)) (iwo) fun I => ?_
 refine zk [8] I fun I => ?_
 refine zo 7 I fun I => ?_
 refine zg I (fun Al W I => have hzW := I.bel.size; c0y f x (lk 0 Al 2) (lk 0 Al 1) X p54 c54 _ (f.g.lo + ((e - 1 : Nat) : Int)) W I.fa.2.1 (by omega) (by omega) (I.box 2 4 _) (I.box 1 62 _)) fun Al V Iv _ hB _ kz => ?_
 rintro _ W ⟨pN, cN, rfl, oN, hb⟩
 have hD : f.dec x e X = ⟨2, X, f.g.lo + ((e - 1 : Nat) : Int)⟩ := by unfold Fm.dec; rw [if_neg (by omega), if_neg qo, if_neg (by omega), if_pos (by have := oFa f135; omega)]; simp only [Dc.mk.injEq, true_and]; have := oFa f135; omega
 refine ⟨_, rfl, kz _ _ hb fun I => ?_⟩
 have I := I.rf oN (hB _) Iv
 refine zo 9 I fun I => ?_
 refine zn I fun Al W I => ?_
 refine zk [10] I fun I => ?_
 exact zret I (v := fun Al => .tuple #[.agg #[.int .i64 (((f.vr x ⟨2, X, f.g.lo + ((e - 1 : Nat) : Int)⟩).cls : Nat) : Int), .bool ((f.vr x ⟨2, X, f.g.lo + ((e - 1 : Nat) : Int)⟩).neg), .bool ((f.vr x ⟨2, X, f.g.lo + ((e - 1 : Nat) : Int)⟩).x.neg), .slice pN (dig B16 (f.vr x ⟨2, X, f.g.lo + ((e - 1 : Nat) : Int)⟩).x.m).length cN, .int .i64 ((f.vr x ⟨2, X, f.g.lo + ((e - 1 : Nat) : Int)⟩).x.e)], .bool x]) fun Al W I => d0z (by rw [hD]) rfl I.fa.1 (by omega) I.below
end Go.Proofs.YtmacohmclpnphaaGreatDoor
namespace Go.Slip
theorem r0c {xs : List Nat} (h : ∀ x ∈ xs, x < 256) : b0g (b0k xs) = xs := by
 unfold b0g b0k
 simp only [List.map_map]
 rw [show (xs.map (UInt8.toNat ∘ UInt8.ofNat)) = xs.map id from List.map_congr_left fun x hx => by
  have := h x hx
  simp only [Function.comp, id]
  rw [UInt8.toNat_ofNat']
  omega]
 simp
end Go.Slip
namespace Go.Proofs.YtmacohmclpnphaaGreatDoor
open Go.RowKit Go.Slip
def v0d (n cls : Int) (a : Din) : Int := if IsFm n then a0m (fmt n) cls a else 6
theorem y0e (n : Int) (cls : Int) (a : Din) (w : World) (ha : InD w a) (hT : TabW w) :
 Calls Tryz.prog 42 #[.int .i64 n, .agg #[.int .i64 cls, .bool a.g, .slice a.p a.xs.length a.c, .int .i64 a.e]] w (t0c w (v0d n cls a) (p0c (fmt n) cls a)) := by
 unfold v0d
 by_cases hn : IsFm n
 · rw [if_pos hn]; exact c1o n cls a w hn ha hT
 · rw [if_neg hn]
   have HF := fun W => hi0 (h0t n hn W)
   generalize p0c (fmt n) cls a = s
   have hT146 : d0v Tryz.prog 146 12 := c0k (by kernel_rfl) (by kernel_rfl)
   refine calls_of_wp Tryz.func42 rfl ?_
   refine a0s (a' := ⟨((.int .i64 n) :: (.agg #[.int .i64 cls, .bool a.g, .slice a.p a.xs.length a.c, .int .i64 a.e]) :: us 145 []).toArray, []⟩) (by kernel_rfl) ?_
   refine ye ?_
   refine yw 0 rfl 3 #[.int .i64 cls, .bool a.g, .slice a.p a.xs.length a.c, .int .i64 a.e] 75 (fun V1 hbV1 hzV1 b3 => ?_)
   refine yzt 2 ?_
   refine ye ?_
   refine yc 1 rfl 13 ((HF V1).out) (fun Gx hGx => ?_)
   rintro eV2 V2 ⟨rfl, hbV2⟩
   have hzV2 := hbV2.size
   refine ⟨_, rfl, hGx _ _ ?_⟩
   clear hGx Gx
   refine yw 3 rfl 6 #[.int .i64 0, .int .i64 0, .int .i64 0, .int .i64 0, .int .i64 0, .int .i64 0, .int .i64 0, .bool false, .bool false, .bool false, .bool false, .nilFunc] 146 (fun V3 hbV3 hzV3 b6 => ?_)
   have boV4 := b6
   refine ysw 0 rfl b6 hT146 #[.int .i64 0, .int .i64 0, .int .i64 0, .int .i64 0, .int .i64 0, .int .i64 0, .int .i64 0, .bool false, .bool false, .bool false, .bool false, .nilFunc] ?_
   clear b6
   intro V4 hOV4 b6
   have hzV4 := hOV4.size
   refine yzt 1 ?_
   refine wp_seq ?_
   refine yq ?_
   refine yT ?_
   refine yq ?_
   refine wp_ret ?_
   repeat (first | with_reducible refine a0r ?_ | with_reducible refine a0o ?_)
   refine yret (.tuple #[Go.Value.string (ByteArray.mk #[]), .int .i64 6]) (res2 Tryz.results42 rvt rvt) ?_
   exact a0q (r := 6) rfl (by decide) rfl ((a0a (a0a hbV1 hbV2) hbV3).trans (hOV4.below (by omega)))
theorem y0f (f : Fm) {k : Nat} (h : k ≠ 2) (g : Bool) (d d' : Dv) : f.encP k g d = f.encP k g d' := by
 unfold Fm.encP
 rw [if_neg h, if_neg h]
theorem v0e {f : Fm} (G : c0e f) {neg : Bool} {e x : Nat} (he : e < 2 ^ f.E) (hx : x < 2 ^ f.F) : a0x f (b0k (f.str neg e x)) = f.pat neg e x := by
 have ho : f.ord = 1 → f.size % 2 = 0 := fun _ => by have := G.sz; omega
 unfold a0x
 rw [r0c (by unfold Fm.str; exact i0e (by rw [c0g]; exact ho) (s0g _ _)), j1s G he hx]
theorem r0d {r : Nat} (h : (dig B32 r).length ≤ 1200) : b0x (dig B32 r) = 0 := by rw [Go.Slip.x0b, if_neg (by omega)]
structure Is (a : Din) (v : Vl) : Prop where
 g : a.g = v.neg
 xs : a.xs = dig B32 v.d
 e : a.e = v.pow
theorem Is.num {a : Din} {v : Vl} (h : Is a v) (f : Fm) : numD f a = bare ⟨v.neg, v.d, wid f.g * v.pow⟩ := by
 unfold numD
 rw [h.g, h.xs, h.e, a0z a0b]
def dinV (v : Vl) (p : Option Addr) (c : Nat) : Din := ⟨v.neg, p, c, dig B32 v.d, v.pow⟩
theorem i1r {v : Vl} {p : Option Addr} {c base : Nat} {w : World} (h : Own w base .u32 141 p c (dig B32 v.d)) (hl : (dig B32 v.d).length ≤ 1000) : InD w (dinV v p c) :=
 ⟨h.rd, h.le_cap, by show (dig B32 v.d).length ≤ _; omega, b0f a0b _⟩
structure ResF (f : Fm) (r : Vr) : Prop where
 c : 1 ≤ r.cls ∧ r.cls ≤ 5
 c1 : r.cls = 1 → r.neg = true → f.fam ≠ 3
 c2 : r.cls = 2 → b0n r.x f.g = true ∧ Bare r.x ∧ r.x.m ≠ 0 ∧ r.x.neg = r.neg
 c3 : r.cls = 3 → f.fam = 1
 c4 : r.cls = 4 → f.fam = 1 ∧ r.neg = false
 c5 : r.cls = 5 → f.fam = 3 ∧ r.neg = false
 x0 : r.cls ≠ 2 → r.x = vz
structure VRep (f : Fm) (v : Vl) (r : Vr) : Prop where
 cls : v.cls = r.cls
 neg : v.neg = r.neg
 num : r.cls = 2 → bare ⟨v.neg, v.d, wid f.g * v.pow⟩ = r.x
 oth : r.cls ≠ 2 → v.d = 0 ∧ v.pow = 0
 len : (dig B32 v.d).length ≤ 1000
 lo : -20000 ≤ v.pow
 hi : v.pow ≤ 20000
theorem l1g {f : Fm} {v : Vl} {r : Vr} (R : ResF f r) (V : VRep f v r) (p : Option Addr) (c : Nat) :
 a0m f (v.cls : Int) (dinV v p c) = 0 ∧ p0c f (v.cls : Int) (dinV v p c) = b0k (f.strP (f.encP r.cls r.neg r.x)) := by
 have hinf : f.inf = false ↔ f.fam ≠ 1 := by unfold Fm.inf; simp
 have hres : f.res = false ↔ f.fam ≠ 3 := by unfold Fm.res; simp
 have hres1 : f.res = true ↔ f.fam = 3 := by unfold Fm.res; simp
 have hc := R.c
 have hcl := V.cls
 have hlo := V.lo
 have hhi := V.hi
 have hE : b0x (dinV v p c).xs = 0 := r0d (by have := V.len; omega)
 have hN : r.cls = 2 → numD f (dinV v p c) = r.x := fun h => by
  rw [← V.num h]
  unfold numD dinV
  simp only [a0z a0b]
 refine ⟨?_, ?_⟩
 · unfold a0m
   rw [if_neg (by omega), if_neg (by omega), if_neg]
   · by_cases h2 : r.cls = 2
     · obtain ⟨i1, i2, i3, i4⟩ := R.c2 h2
       rw [if_pos (by omega), if_neg (by show ¬ (v.pow < _ ∨ _ < v.pow); omega), hN h2, i1, if_neg]
       rintro (h | h)
       · have h0 : v.d = 0 := (a0f a0b _).1 h
         have := V.num h2
         rw [h0] at this
         exact i3 (by rw [← this]; rfl)
       · cases h
     · obtain ⟨o1, o2⟩ := V.oth h2
       rw [if_neg (by omega), if_neg]
       rintro (h | h | ⟨h, k⟩)
       · have : (dig B32 v.d).length = 0 := by rw [o1, a0c]; rfl
         have h : 0 < (dig B32 v.d).length := h
         omega
       · exact h o2
       · have hg : r.neg = true := by rw [← V.neg]; exact h
         have k4 := R.c4
         have k5 := R.c5
         rw [hg] at k4 k5
         rcases k with k | k
         · rcases (show r.cls = 4 ∨ r.cls = 5 by omega) with q | q
           · exact absurd (k4 q).2 (by decide)
           · exact absurd (k5 q).2 (by decide)
         · rcases (show r.cls = 1 ∨ r.cls = 3 ∨ r.cls = 4 ∨ r.cls = 5 by omega) with q | q | q | q
           · exact R.c1 q hg (hres1.1 k)
           · have := R.c3 q; have := hres1.1 k; omega
           · exact absurd (k4 q).2 (by decide)
           · exact absurd (k5 q).2 (by decide)
   · rintro (⟨h | h, k⟩ | ⟨h, k⟩)
     · exact hinf.1 k (R.c3 (by omega))
     · exact hinf.1 k (R.c4 (by omega)).1
     · exact hres.1 k (R.c5 (by omega)).1
 · unfold p0c
   rw [show ((v.cls : Int)).toNat = r.cls by omega, show (dinV v p c).g = r.neg from V.neg]
   by_cases h2 : r.cls = 2
   · rw [hN h2]
   · rw [y0f f h2 r.neg _ r.x]
theorem l1h {neg : Bool} {num den : Nat} {e : Int} {g : Gd} {way : Int} (hd : 0 < den) (G : h0g g) (ho : (a0l neg num den e g way).over = false)
 (hu : (a0l neg num den e g way).under = true → g.grad = false → g.lo ≤ (a0l neg num den e g way).pow ∧ (a0l neg num den e g way).d ≠ 0) :
 b0n (rv neg num den e g way) g = true := by
 by_cases hok : okP (a0l neg num den e g way) g = true
 · exact m1i hd G hok
 · unfold okP at hok
   rw [ho] at hok
   simp only [Bool.not_false, Bool.true_and, Bool.or_eq_true, Bool.not_eq_true', not_or, Bool.not_eq_false, Bool.not_eq_true] at hok
   obtain ⟨h1, h2⟩ := hok
   obtain ⟨h3, h4⟩ := hu h1 h2
   by_cases h0 : num = 0
   · subst h0; rw [c1l]; rfl
   · unfold rv
     unfold a0l at *
     rw [if_neg h0] at *
     generalize theK num den e (wid g) g.digs.toNat = K at *
     have hk : K < g.lo := oTr h1
     have hp : powK g K = K := by unfold powK; rw [if_neg (fun h => by rw [h2] at h; cases h.2)]
     have e1 : (fitK neg num den e g way K).pow = if digP neg num den e (wid g) g.digs.toNat way (powK g K) = 0 then 0 else powP neg num den e (wid g) g.digs.toNat way (powK g K) := rfl
     have e2 : (fitK neg num den e g way K).d = digP neg num den e (wid g) g.digs.toNat way (powK g K) := rfl
     have e3 : (fitK neg num den e g way K).neg = neg := rfl
     rw [e2] at h4
     rw [e1, if_neg h4] at h3
     rw [e1, e2, e3, if_neg h4]
     rw [hp] at h3 h4 ⊢
     have hl : j0s neg num den e (wid g) g.digs.toNat way K := by
      by_cases h : j0s neg num den e (wid g) g.digs.toNat way K
      · exact h
      · unfold powP at h3; rw [if_neg h] at h3; omega
     unfold digP powP at *
     rw [if_pos hl] at h3
     rw [if_pos hl, if_pos hl]
     have hd1 := G.d1
     have hgl := G.le
     have hww : wid g * (g.digs.toNat - 1) < wid g * g.digs.toNat := Nat.mul_lt_mul_of_pos_left (by omega) (b0c g).1
     have habs : (sg neg (2 ^ (wid g * (g.digs.toNat - 1)))).natAbs = 2 ^ (wid g * (g.digs.toNat - 1)) := by unfold sg; cases neg <;> simp [Int.natAbs_pow]
     rw [← h0m]
     refine i0w G (show g.digs = (g.digs.toNat : Int) by omega) ?_ ?_ h3 (by omega)
     · rw [habs]; exact Nat.pow_lt_pow_right (by omega) hww
     · rw [habs]; exact .inr (.inl (Nat.le_refl _))
theorem r0e {g : Bool} {m : Nat} {e : Int} (h : m ≠ 0) : (bare ⟨g, m, e⟩).neg = g ∧ (bare ⟨g, m, e⟩).m ≠ 0 := by
 unfold bare
 rw [if_neg h]
 refine ⟨rfl, fun h2 => ?_⟩
 have := (c0s m (by omega)).2
 simp only at h2
 rw [h2] at this
 simp at this
/-! ### What comes -/
theorem r0f {f : Fm} (G : c0e f) (g : Bool) : ResF f (f.zeroM g) := by
 have := G.fam
 refine ⟨by show 1 ≤ 1 ∧ 1 ≤ 5; omega, fun _ h h3 => ?_, fun h => (by cases h), fun h => (by cases h), fun h => (by cases h), fun h => (by cases h), fun _ => rfl⟩
 have h : (g && decide (f.fam = 1)) = true := h
 simp [h3] at h
theorem p0e {f : Fm} (G : c0e f) : ResF f f.nothM := by
 have hf := G.fam
 unfold Fm.nothM
 rcases hf with h | h | h <;> rw [h] <;> refine ⟨?_, ?_, ?_, ?_, ?_, ?_, fun _ => rfl⟩ <;> simp [h]
theorem l1i {f : Fm} (h : f.fam = 1) (g : Bool) : ResF f (infM g) :=
 ⟨by show 1 ≤ 3 ∧ 3 ≤ 5; omega, fun h => (by cases h), fun h => (by cases h), fun _ => h, fun h => (by cases h), fun h => (by cases h), fun _ => rfl⟩
theorem f1k {f : Fm} (G : c0e f) (g : Bool) : 2 ^ (wid f.g * f.g.digs.toNat) - 1 ≠ 0 ∧ b0n (f.greatM g).x f.g = true := by
 have GG := b0r G.g
 have hd1 := GG.d1
 have hgl := GG.le
 have wp := b0c f.g
 have hww : wid f.g * (f.g.digs.toNat - 1) < wid f.g * f.g.digs.toNat := Nat.mul_lt_mul_of_pos_left (by omega) wp.1
 have h1 : 2 ^ (wid f.g * (f.g.digs.toNat - 1)) < 2 ^ (wid f.g * f.g.digs.toNat) := Nat.pow_lt_pow_right (by omega) hww
 have h2 : 0 < 2 ^ (wid f.g * (f.g.digs.toNat - 1)) := Nat.pow_pos (by omega)
 refine ⟨by omega, ?_⟩
 show b0n (bare ⟨g, 2 ^ (wid f.g * f.g.digs.toNat) - 1, wid f.g * f.g.hi⟩) f.g = true
 have habs : (sg g (2 ^ (wid f.g * f.g.digs.toNat) - 1)).natAbs = 2 ^ (wid f.g * f.g.digs.toNat) - 1 := by unfold sg; cases g <;> simp only [if_true, Bool.false_eq_true, if_false, Int.natAbs_neg, Int.natAbs_natCast]
 rw [← h0m]
 refine i0w GG (show f.g.digs = (f.g.digs.toNat : Int) by omega) ?_ ?_ hgl (Int.le_refl _)
 · rw [habs]; omega
 · rw [habs]; exact .inr (.inl (by omega))
theorem w0u {f : Fm} (G : c0e f) (g : Bool) : ResF f (f.greatM g) := by
 obtain ⟨h1, h2⟩ := f1k G g
 exact ⟨by show 1 ≤ 2 ∧ 2 ≤ 5; omega, fun h => (by cases h), fun _ => ⟨h2, g0e _, (r0e h1).2, (r0e h1).1⟩, fun h => (by cases h), fun h => (by cases h), fun h => (by cases h), fun h => absurd rfl h⟩
theorem t0d {f : Fm} (G : c0e f) (g : Bool) : VRep f ⟨2, g, 2 ^ (wid f.g * f.g.digs.toNat) - 1, f.g.hi⟩ (f.greatM g) := by
 have GG := b0r G.g
 have h1 := GG.h1
 have h2 := GG.h2
 have hd2 := GG.d2
 have wp := b0c f.g
 have hm : wid f.g * f.g.digs.toNat ≤ 4 * 120 := Nat.mul_le_mul wp.2 (by omega)
 refine ⟨rfl, rfl, fun _ => rfl, fun h => absurd rfl h, ?_, by show _ ≤ f.g.hi; omega, by show f.g.hi ≤ _; omega⟩
 exact Nat.le_trans (a0k a0b (Nat.sub_le _ _)) (Nat.le_trans (g0w hm) (by omega))
theorem g0o {f : Fm} {k : Nat} {g : Bool} {x : Dv} (h : k ≠ 2) : VRep f ⟨k, g, 0, 0⟩ ⟨k, g, x⟩ :=
 ⟨rfl, rfl, fun e => absurd e h, fun _ => ⟨rfl, rfl⟩, by show (dig B32 0).length ≤ _; rw [a0c]; decide, by show (-20000 : Int) ≤ 0; decide, by show (0 : Int) ≤ 20000; decide⟩
def _root_.Go.Slip.Fm.placedV (f : Fm) (p : Pl) (way : Int) : Vl :=
 if p.over then (if f.fam = 2 then ⟨2, p.neg, 2 ^ (wid f.g * f.g.digs.toNat) - 1, f.g.hi⟩ else if f.fam = 3 then ⟨f.nothM.cls, false, 0, 0⟩ else if way ≤ 2 ∨ (way = 4 ∧ p.neg = false) ∨ (way = 5 ∧ p.neg = true) then ⟨3, p.neg, 0, 0⟩ else ⟨2, p.neg, 2 ^ (wid f.g * f.g.digs.toNat) - 1, f.g.hi⟩)
 else if p.under = true ∧ f.fam ≠ 1 ∧ p.pow < f.g.lo then ⟨1, false, 0, 0⟩
 else if p.d = 0 then ⟨1, p.neg && decide (f.fam = 1), 0, 0⟩
 else ⟨2, p.neg, p.d, p.pow⟩
theorem t0e {f : Fm} (_G : c0e f) : f.nothM.cls ≠ 2 := by unfold Fm.nothM; simp only; split <;> (try split) <;> omega
theorem l0b {f : Fm} (G : c0e f) {neg : Bool} {num den : Nat} {e way : Int} (hd : 0 < den) :
 ResF f (f.placedM (a0l neg num den e f.g way) way).1 ∧ VRep f (f.placedV (a0l neg num den e f.g way) way) (f.placedM (a0l neg num den e f.g way) way).1 := by
 have GG := b0r G.g
 have hin := fun h1 h2 => l1h (neg := neg) (num := num) (e := e) (way := way) hd GG h1 h2
 have hlen := v0a (neg := neg) (num := num) (e := e) (way := way) hd GG
 have hpw := fun h => l1f (neg := neg) (num := num) (e := e) (way := way) hd GG h
 have hpw2 : (a0l neg num den e f.g way).over = false → (a0l neg num den e f.g way).pow ≤ 17000 := by
  intro h
  have hh := GG.h2
  unfold a0l at *
  by_cases h0 : num = 0
  · rw [if_pos h0]; simp
  · rw [if_neg h0] at *
    generalize theK num den e (wid f.g) f.g.digs.toNat = K at *
    have h1 : powP neg num den e (wid f.g) f.g.digs.toNat way (powK f.g K) ≤ f.g.hi := by
     have h : decide (f.g.hi < powP neg num den e (wid f.g) f.g.digs.toNat way (powK f.g K)) = false := h
     have := oFa h
     omega
    show (if digP neg num den e (wid f.g) f.g.digs.toNat way (powK f.g K) = 0 then 0 else powP neg num den e (wid f.g) f.g.digs.toNat way (powK f.g K)) ≤ 17000
    split <;> omega
 unfold rv at hin
 have hgr := G.grad
 have l1 := GG.l1
 generalize a0l neg num den e f.g way = p at *
 unfold Fm.placedM Fm.placedV
 cases ho : p.over with
 | true =>
  simp only [if_true]
  by_cases h2 : f.fam = 2
  · rw [if_pos h2, if_pos h2]; exact ⟨w0u G _, t0d G _⟩
  · rw [if_neg h2, if_neg h2]
    by_cases h3 : f.fam = 3
    · rw [if_pos h3, if_pos h3]; exact ⟨p0e G, g0o (t0e G)⟩
    · have hf : f.fam = 1 := by have := G.fam; omega
      rw [if_neg h3, if_neg h3]
      split
      · exact ⟨l1i hf _, g0o (by decide)⟩
      · exact ⟨w0u G _, t0d G _⟩
 | false =>
  simp only [Bool.false_eq_true, if_false]
  by_cases hz : p.under = true ∧ f.fam ≠ 1 ∧ p.pow < f.g.lo
  · rw [if_pos hz, if_pos hz]
    exact ⟨r0f G _, g0o (by decide)⟩
  · rw [if_neg hz, if_neg hz]
    by_cases hd0 : p.d = 0
    · rw [if_pos hd0, if_pos hd0]
      exact ⟨r0f G _, g0o (by decide)⟩
    · rw [if_neg hd0, if_neg hd0]
      have hu : p.under = true → f.g.grad = false → f.g.lo ≤ p.pow ∧ p.d ≠ 0 := fun h1 h2 => by
       rw [hgr] at h2
       have := oFa h2
       refine ⟨?_, hd0⟩
       rcases Int.lt_or_le p.pow f.g.lo with h | h
       · exact absurd ⟨h1, this, h⟩ hz
       · exact h
      obtain ⟨b1, b2⟩ := r0e (g := p.neg) (e := wid f.g * p.pow) hd0
      have hlo : -17000 ≤ p.pow := by
       by_cases hok : okP p f.g = true
       · exact (hpw hok).1
       · unfold okP at hok
         rw [ho] at hok
         simp only [Bool.not_false, Bool.true_and, Bool.or_eq_true, Bool.not_eq_true', not_or, Bool.not_eq_false, Bool.not_eq_true] at hok
         have := (hu hok.1 hok.2).1
         omega
      have hhi := hpw2 ho
      refine ⟨⟨by show 1 ≤ 2 ∧ 2 ≤ 5; omega, fun h => (by cases h), fun _ => ⟨hin ho hu, g0e _, b2, b1⟩, fun h => (by cases h), fun h => (by cases h), fun h => (by cases h), fun h => absurd rfl h⟩, ?_⟩
      exact ⟨rfl, rfl, fun _ => rfl, fun h => absurd rfl h, by show (dig B32 p.d).length ≤ _; omega, by show _ ≤ p.pow; omega, by show p.pow ≤ _; omega⟩
end Go.Proofs.YtmacohmclpnphaaGreatDoor
