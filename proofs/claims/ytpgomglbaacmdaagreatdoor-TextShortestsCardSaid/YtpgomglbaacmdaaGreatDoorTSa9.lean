/- The reference's DigitsOf. -/
import Derived.Test.YtpgomglbaacmdaaGreatDoorTSa1
import Derived.Test.YtpgomglbaacmdaaGreatDoorTSa2
import Derived.Test.YtpgomglbaacmdaaGreatDoorTSa3
import Derived.Test.YtpgomglbaacmdaaGreatDoorTSa4
import Derived.Test.YtpgomglbaacmdaaGreatDoorTSa5
import Derived.Test.YtpgomglbaacmdaaGreatDoorTSa6
import Derived.Test.YtpgomglbaacmdaaGreatDoorTSa7
import Derived.Test.YtpgomglbaacmdaaGreatDoorTSa8
set_option maxHeartbeats 8000000
set_option maxRecDepth 100000
namespace Go.Proofs.YtpgomglbaacmdaaGreatDoor
open Go.RowKit Go.Slip
theorem _root_.Go.Slip.Inv.rebase {E : List Nat} {w0 : World} {A : List Nat} {bx : List Box} {fs : List PF} {W : World} {b c : Nat} {p : OA} {xs : List Nat} (I : Inv E w0 A bx (rfF b p c xs :: fs) W) (b' : Nat) (h : b' ≤ b) : Inv E w0 A bx (rfF b' p c xs :: fs) W :=
 ⟨I.bel, I.ge, I.nd, I.len, I.pre, I.bt, ⟨I.fa.1.mono h, I.fa.2⟩, fun a ha => ⟨fun hf => (I.far a ha).1 hf, (I.far a ha).2⟩⟩
def GRq3 (w : World) (x y : Nat) (en : Ending) (w' : World) : Prop := ∃ p c q d, en = .returned (.tuple #[.slice p (dig B16 x).length c, .slice q (dig B16 y).length d]) ∧ Rf w' w.heap.size p c (dig B16 x) ∧ Rf w' w.heap.size q d (dig B16 y) ∧ Below w.heap.size w w'
theorem t1u (p q : OA) (c d a b : Nat) (W : World) (hp : Rd W .i64 p (dig B16 a)) (hq : Rd W .i64 q (dig B16 b)) (h1 : (dig B16 a).length ≤ 100000000) (h2 : (dig B16 b).length ≤ 100000000) (hb : 0 < b) : Calls Tryz.prog 71 #[.slice p (dig B16 a).length c, .slice q (dig B16 b).length d] W (GRq3 W (a / b) (a % b)) :=
 (i0h p q _ _ c d a b W hp hq rfl rfl h1 h2 hb).mono fun _ _ ⟨p, c, q, d, h1, h2, h3, h4, h5, h6, h7, h8⟩ => ⟨p, c, q, d, h1, a1b h2 h3 h4, a1b h5 h6 h7, h8⟩
theorem r1b (n : Nat) : ((dg (dig B16 n) 0 : Nat) : Int).tmod 2 = ((n % 2 : Nat) : Int) := by
 have h0 : dg (dig B16 n) 0 = n % B16 := by
  by_cases h : n = 0
  · subst h; rw [a0c]; rfl
  · rw [c0d a0e (by omega)]; rfl
 rw [h0, Int.tmod_eq_emod_of_nonneg (by omega)]
 unfold B16
 omega
theorem q0f {x : Int} (h : -40000 ≤ x ∧ x ≤ 40000) : -12000 ≤ (x * 30).tdiv 100 ∧ (x * 30).tdiv 100 ≤ 12000 := by
 rcases Int.le_total 0 x with h1 | h1
 · rw [Int.tdiv_eq_ediv_of_nonneg (by omega)]; omega
 · rw [show x * 30 = -((-x) * 30) by omega, Int.neg_tdiv, Int.tdiv_eq_ediv_of_nonneg (by omega)]; omega
structure DgOk (n d k : Nat) (P : Int) : Prop where
 n0 : 0 < n
 d0 : 0 < d
 p : IsP n d P
 ln : (dig B16 n).length ≤ 5000
 ld : (dig B16 d).length ≤ 5000
 bn : blen n ≤ 30000
 bd : blen d ≤ 30000
 lo : -11000 ≤ P
 hi : P ≤ 11000
 dec : decM n d k = if k < (a0t (dT n d (k - 1 - P))).length then ((a0t (dT n d (k - 1 - P))).take k, P + 1) else (a0t (dT n d (k - 1 - P)), P)
theorem dgOk {x : Dv} (h0 : x.m ≠ 0) (hl : (dig B32 x.m).length ≤ 20) (he : -18000 ≤ x.e ∧ x.e ≤ 18000) (k : Nat) : ∃ P, ∀ n d, n = numP x.m x.e → d = denP 1 x.e → DgOk n d k P := by
 refine ⟨theP (numP x.m x.e) (denP 1 x.e), ?_⟩
 rintro _ _ rfl rfl
 have hN : 0 < numP x.m x.e := j0r (by omega) x.e
 have hD : 0 < denP 1 x.e := d0m (by omega) x.e
 have hP := k0r hN hD
 have hb := hP.bd hD
 have bm := c0o x.m
 have bN : blen (numP x.m x.e) ≤ blen x.m + x.e.toNat := by
  refine (a0u _ (blen x.m + x.e.toNat)).2 ?_
  unfold numP
  have h1 := (a0u x.m _).1 (Nat.le_refl _)
  calc x.m * 2 ^ x.e.toNat < 2 ^ blen x.m * 2 ^ x.e.toNat := Nat.mul_lt_mul_of_pos_right h1 (Nat.pow_pos (by omega))
   _ = 2 ^ (blen x.m + x.e.toNat) := (Nat.pow_add _ _ _).symm
 have bD : blen (denP 1 x.e) ≤ (-x.e).toNat + 1 := by
  refine (a0u _ ((-x.e).toNat + 1)).2 ?_
  unfold denP
  rw [Nat.one_mul]
  exact Nat.pow_lt_pow_right (by omega) (by omega)
 have hlen : ∀ a, blen a ≤ 20000 → (dig B16 a).length ≤ 5000 := fun a ha => by
  obtain ⟨K, hK⟩ : ∃ K, K = 5000 := ⟨_, rfl⟩
  rw [← hK, a0h a0e]
  refine Nat.lt_of_lt_of_le ((a0u a _).1 (Nat.le_refl _)) ?_
  rw [show B16 = 2 ^ 16 from rfl, ← Nat.pow_mul]
  exact Nat.pow_le_pow_right (by omega) (by omega)
 exact ⟨hN, hD, hP, hlen _ (by omega), hlen _ (by omega), by omega, by omega, by omega, by omega, i1e rfl⟩
theorem q0g (x : Dv) (k : Nat) (p : OA) (c b0 : Nat) (w : World) (hp : Rf w b0 p c (dig B16 x.m)) (h0 : x.m ≠ 0) (hl : (dig B32 x.m).length ≤ 20) (he : -18000 ≤ x.e ∧ x.e ≤ 18000) (hk : 1 ≤ k ∧ k ≤ 100) :
 Calls Tryz.prog 67 #[.agg #[.bool x.neg, .slice p (dig B16 x.m).length c, .int .i64 x.e], .int .i64 (k : Int)] w fun en w' => en = .returned (.tuple #[.string (a0d (numX x k).1), .int .i64 (numX x k).2]) ∧ Below w.heap.size w w' := by
 obtain ⟨P, hA⟩ := dgOk h0 hl he k
 have hp := hp.mono (Nat.zero_le _)
 have lm : (dig B16 x.m).length ≤ 5000 := by have := h0i x.m; omega
 have e2 : 0 ≤ x.e → x.m * 2 ^ x.e.toNat = numP x.m x.e ∧ 1 = denP 1 x.e := fun h => ⟨rfl, by unfold denP; rw [show (-x.e).toNat = 0 by omega]⟩
 have e3 : ¬ 0 ≤ x.e → x.m = numP x.m x.e ∧ 2 ^ (-x.e).toNat = denP 1 x.e := fun h => ⟨by unfold numP; rw [show x.e.toNat = 0 by omega, Nat.pow_zero, Nat.mul_one], by unfold denP; rw [Nat.one_mul]⟩
 have hR : ∀ n d, n = numP x.m x.e → d = denP 1 x.e → decM n d k = numX x k := by rintro _ _ rfl rfl; rfl
 obtain ⟨xg, xm, xe⟩ := x
 simp only at lm e2 e3 hR hA hp h0 hl he ⊢
 generalize numX ⟨xg, xm, xe⟩ k = R at *
 generalize numP xm xe = N at *
 generalize denP 1 xe = D at *
 have HUp := fun p c a n M W hp hl h1 h2 => hi0 (rup p _ c a n _ M W hp rfl hl h1 h2 rfl)
 have HP2 := fun M n W h h1 => hi0 (d1b M n h h1 W)
 have HL := fun p c a W hp hl => hi0 ((d0a p _ c a W hp rfl hl).mono fun _ _ ⟨h1, h2⟩ => ⟨h1, h2 ▸ Below.refl _ _⟩ : Calls Tryz.prog 66 #[.slice p (dig B16 a).length c] W fun en W' => en = .returned (.int .i64 ((blen a : Nat) : Int)) ∧ Below W.heap.size W W')
 have HO := fun n d q pn pd cn cd bn bd b1 b2 W B1 B2 h1 h2 (K : DgOk n d k P) hq => hi0 (z0t n d P q pn pd cn cd bn bd b1 b2 W B1 B2 h1 h2 K.p hq (by have := K.ld; omega) (by have := K.ln; omega))
 have HPw := fun M m W h hm => hi0 (k0l M m h hm W)
 have HT := fun p q c d a b W hp hq h1 h2 => hi0 (r0v p q _ _ c d a b _ W hp hq rfl rfl h1 h2 rfl)
 have HI := fun p q c d a b W hp hq h1 h2 h3 => hi0 (t1u p q c d a b W hp hq h1 h2 h3)
 have HC := fun p q c d a b W hp hq h1 h2 => hi0 (d0o p q _ _ c d a b W hp hq rfl rfl h1 h2)
 have HPl := fun p q c d a b W hp hq h1 h2 => hi0 (h1r p q _ _ c d a b _ W hp hq rfl rfl h1 h2 rfl)
 have HDe := fun p c a W hp hl => hi0 (j0g p _ c a W hp rfl hl)
 have hlt := @z0s
 have d1 : (dig B16 1).length ≤ 1 := by rw [d0u]; decide
 have d2 : (dig B16 2).length ≤ 1 := by rw [j0i]; decide
 have l2 := g0m (B := B16) (a := 2) (K := 20000) (e := (-xe).toNat) a0e (by decide) (by omega) (by omega)
 obtain ⟨q20, hq20⟩ : ∃ q, decide (xe ≥ 0) = q := ⟨_, rfl⟩
 let aA : Box := ⟨28, [.v (.bool xg), .v (.slice p (dig B16 xm).length c), .v (.int .i64 xe)], false⟩
 let aB : SV := .v (.agg #[.bool xg, .slice p (dig B16 xm).length c, .int .i64 xe])
 have I := Inv.start w [rfF 0 p c (dig B16 xm)] ⟨hp, True.intro⟩
 refine a0g [.v (.agg #[.bool xg, .slice p (dig B16 xm).length c, .int .i64 xe]), .v (.int .i64 (k : Int))] I Tryz.func67 ?_
 refine zlv I 17 1 3 (dig B16 1) d0u fun Al W p17 I => ?_
 have I := I.rebase 0 (by omega)
 refine zb I 20 (decide (xe ≥ 0)) (q20) (hq20) fun Al W I => zcut I (some 2000020) (fun fr bx gs => ∃ (U1 : Nat → Value) (n : Nat) (d : Nat) (pn : OA) (cn : Nat) (pd : OA) (cd : Nat), fr = (aB :: .v (vI (k : Int)) :: .p 0 0 :: vu :: .v (Go.Value.string (ByteArray.mk #[])) :: .v (vI 0) :: .p 1 0 :: .p 2 0 :: su 7 (sw U1 15 5 (.v (.bool q20) :: sw U1 21 20 (vu :: sw U1 42 6 (vu :: sw U1 49 7 (vu :: sw U1 57 32 (vu :: sw U1 90 8 (vu :: sw U1 99 7 []))))))) : List SV) ∧ bx = [aA, ⟨26, [.v (vS (dig B16 n) pn cn)], false⟩, ⟨26, [.v (vS (dig B16 d) pd cd)], false⟩] ∧ gs = [rfF 0 pd cd (dig B16 d), rfF 0 pn cn (dig B16 n)] ∧ (n = N) ∧ (d = D)) ?_ ?_
 · intro J hJ Al W I
   rcases bTF q20 with rfl | rfl
   · refine zg I (fun Al W I => have hzW := I.bel.size; (HUp p c xm xe.toNat xe W I.fa.2.1.rd (by omega) (by omega) (by have := oTr hq20; omega)).out) fun Al V Iv _ hB _ kz => ?_
     rintro _ W ⟨p24, c24, rfl, o24, hb⟩
     refine ⟨_, rfl, kz _ _ hb fun I => ?_⟩
     have I := I.rfB 0 o24 (hB _) Iv
     exact a0i I J fun Al W U I => hJ _ _ _ _ _ ⟨U, (xm * 2 ^ xe.toNat), 1, p24, c24, p17, 1, rfl, rfl, rfl, (e2 (oTr hq20)).1, (e2 (oTr hq20)).2⟩ (I.pick [1, 0])
   refine zi I 27 .i64 (0 - xe) ((-xe)) ((by rw [Int.zero_sub]; exact iwo)) fun Al W I => zg I (fun Al W I => have hzW := I.bel.size; (HP2 (-xe) (-xe).toNat W (by have := oFa hq20; omega) (by omega)).out) fun Al V Iv _ hB _ kz => ?_
   rintro _ W ⟨p28, c28, rfl, o28, hb⟩
   refine ⟨_, rfl, kz _ _ hb fun I => ?_⟩
   have I := I.rfB 0 o28 (hB _) Iv
   exact a0i I J fun Al W U I => hJ _ _ _ _ _ ⟨U, xm, (2 ^ (-xe).toNat), p, c, p28, c28, rfl, rfl, rfl, (e3 (oFa hq20)).1, (e3 (oFa hq20)).2⟩ (I.pick [0, 2])
 rintro _ _ _ ⟨U1, n, d, pn, cn, pd, cd, rfl, rfl, rfl, hn, hd⟩ Al W I
 have K := hA n d hn hd
 have hR := hR n d hn hd
 have kk1 := K.bn
 have kk2 := K.bd
 have kk3 := K.ln
 have kk4 := K.ld
 have kk5 := K.lo
 have kk6 := K.hi
 refine zd [] I fun Al W I => zk [0, 2] I fun I => zo 1 I fun I => zq I (fun Al W I => have hzW := I.bel.size; (HL pn cn n W I.fa.2.1.rd (by omega)).out) fun Al W I => zo 3 I fun I => zq I (fun Al W I => have hzW := I.bel.size; (HL pd cd d W I.fa.1.rd (by omega)).out) fun Al W I => zki 4 I .i64 (((blen n : Nat) : Int) - ((blen d : Nat) : Int)) (((blen n : Int) - blen d)) (iwo) fun I => zki 5 I .i64 (((blen n : Int) - blen d) - 1) (((blen n : Int) - blen d - 1)) (iwo) fun I => zki 6 I .i64 (((blen n : Int) - blen d - 1) * 30) ((((blen n : Int) - blen d - 1) * 30)) ((by exact iwo)) fun I => s0w 7 I _ (fun _ _ _ _ => h0z .i64 ((((blen n : Int) - blen d - 1) * 30)) (100) (((((blen n : Int) - blen d - 1) * 30).tdiv 100)) (by omega) ((by have := q0f (x := (blen n : Int) - blen d - 1) (by omega); exact iwo))) fun I => zki 8 I .i64 (((((blen n : Int) - blen d - 1) * 30).tdiv 100) - 2) (((((blen n : Int) - blen d - 1) * 30).tdiv 100 - 2)) ((by have := q0f (x := (blen n : Int) - blen d - 1) (by omega); exact iwo)) fun I => zk [9] I fun I => g0e I (fun gk fr bx gs => ∃ (U900 : Nat → Value) (u : Int), fr = (aB :: .v (vI (k : Int)) :: .p 0 0 :: .v undef :: .v (Go.Value.string (ByteArray.mk #[])) :: .v (vI 0) :: .p 1 0 :: .p 2 0 :: .v (vI u) :: .f (.func 117) [.pointer (some ⟨0, 0, none⟩), .pointer (some ⟨0, 0, none⟩)] [some 2, some 1] :: su 5 (sw U900 15 5 (.v (.bool q20) :: sw U900 21 27 (.v undef :: sw U900 49 7 (.v undef :: sw U900 57 32 (.v undef :: sw U900 90 8 (.v undef :: sw U900 99 7 [])))))) : List SV) ∧ bx = [aA, ⟨26, [.v (vS (dig B16 n) pn cn)], false⟩, ⟨26, [.v (vS (dig B16 d) pd cd)], false⟩] ∧ gs = [rfF 0 pd cd (dig B16 d), rfF 0 pn cn (dig B16 n)] ∧ (-12100 ≤ u ∧ u ≤ 12100) ∧ (gk = (u - P).toNat)) (((((blen n : Int) - blen d - 1) * 30).tdiv 100 - 2 - P).toNat) (fun Al W U I => ⟨_, ⟨U, _, rfl, rfl, rfl, (by have := q0f (x := (blen n : Int) - blen d - 1) (by omega); omega), rfl⟩, I.pick [0, 1]⟩) ?_
 rintro J0 gk0 _ _ _ ⟨U900, u, rfl, rfl, rfl, hu, hgk⟩ hJ0 Al W I
 by_cases f41 : P < u
 · refine zqd I (fun Al W I => have hzW := I.bel.size; (HO n d u pn pd cn cd _ _ _ _ W (I.box 2 26 _) (I.box 1 26 _) I.fa.1 I.fa.2.1 K (by omega)).out) (dTr f41) fun Al W I => zi I 43 .i64 (u - 3) ((u - 3)) ((by exact iwo)) fun Al W I => a0i I J0 fun Al W U I => hJ0 ((u - 3 - P).toNat) _ _ _ _ _ ((by omega)) ⟨U, (u - 3), rfl, rfl, rfl, (by omega), rfl⟩ (I.pick [0, 1])
 refine zqd I (fun Al W I => have hzW := I.bel.size; (HO n d u pn pd cn cd _ _ _ _ W (I.box 2 26 _) (I.box 1 26 _) I.fa.1 I.fa.2.1 K (by omega)).out) (dFa f41) fun Al W I => g0e I (fun gk fr bx gs => ∃ (U901 : Nat → Value) (v : Int), fr = (aB :: .v (vI (k : Int)) :: .p 0 0 :: .v undef :: .v (Go.Value.string (ByteArray.mk #[])) :: .v (vI 0) :: .p 1 0 :: .p 2 0 :: .v (vI v) :: .f (.func 117) [.pointer (some ⟨0, 0, none⟩), .pointer (some ⟨0, 0, none⟩)] [some 2, some 1] :: su 5 (sw U901 15 5 (.v (.bool q20) :: sw U901 21 20 (.v (.bool false) :: sw U901 42 14 (.v undef :: sw U901 57 32 (.v undef :: sw U901 90 8 (.v undef :: sw U901 99 7 [])))))) : List SV) ∧ bx = [aA, ⟨26, [.v (vS (dig B16 n) pn cn)], false⟩, ⟨26, [.v (vS (dig B16 d) pd cd)], false⟩] ∧ gs = [rfF 0 pd cd (dig B16 d), rfF 0 pn cn (dig B16 n)] ∧ (-12100 ≤ v ∧ v ≤ P) ∧ (gk = (P - v).toNat)) ((P - u).toNat) (fun Al W U I => ⟨_, ⟨U, u, rfl, rfl, rfl, (by omega), rfl⟩, I.pick [0, 1]⟩) ?_
 rintro J1 gk1 _ _ _ ⟨U901, v, rfl, rfl, rfl, hv, hgk2⟩ hJ1 Al W I
 by_cases f47 : P < v + 1
 · refine zi I 46 .i64 (v + 1) ((v + 1)) ((by exact iwo)) fun Al W I => zqd I (fun Al W I => have hzW := I.bel.size; (HO n d (v + 1) pn pd cn cd _ _ _ _ W (I.box 2 26 _) (I.box 1 26 _) I.fa.1 I.fa.2.1 K (by omega)).out) (dTr f47) fun Al W I => ?_
   have hvP : v = P := by omega
   subst hvP
   refine zi I 52 .i64 ((k : Int) - 1) (((k : Int) - 1)) ((by exact iwo)) fun Al W I => ?_
   obtain ⟨q56, hq56⟩ : ∃ q, decide ((k : Int) - 1 - v ≥ 0) = q := ⟨_, rfl⟩
   refine zi I 54 .i64 (((k : Int) - 1) - v) (((k : Int) - 1 - v)) ((by exact iwo)) fun Al W I => zb I 56 (decide (((k : Int) - 1 - v) ≥ 0)) (q56) (hq56) fun Al W I => zcut I (some 2000056) (fun fr bx gs => ∃ (U2 : Nat → Value) (n2 : Nat) (d2 : Nat) (pn2 : OA) (cn2 : Nat) (pd2 : OA) (cd2 : Nat), fr = (aB :: .v (vI (k : Int)) :: .p 0 0 :: vu :: .v (Go.Value.string (ByteArray.mk #[])) :: .v (vI 0) :: .p 1 0 :: .p 2 0 :: .v (vI v) :: .f (.func 117) [.pointer (some ⟨0, 0, none⟩), .pointer (some ⟨0, 0, none⟩)] [some 2, some 1] :: .v (vI ((k : Int) - 1 - v)) :: su 4 (sw U2 15 5 (.v (.bool q20) :: sw U2 21 20 (.v (.bool false) :: sw U2 42 6 (.v (.bool false) :: sw U2 49 7 (.v (.bool q56) :: sw U2 57 32 (vu :: sw U2 90 8 (vu :: sw U2 99 7 []))))))) : List SV) ∧ bx = [aA, ⟨26, [.v (vS (dig B16 n2) pn2 cn2)], false⟩, ⟨26, [.v (vS (dig B16 d2) pd2 cd2)], false⟩] ∧ gs = [rfF 0 pd2 cd2 (dig B16 d2), rfF 0 pn2 cn2 (dig B16 n2)] ∧ (n2 = n10 n ((k : Int) - 1 - v)) ∧ (d2 = d10 d ((k : Int) - 1 - v))) ?_ ?_
   · intro J hJ Al W I
     rcases bTF q56 with rfl | rfl
     · refine zcut I none (fun fr bx gs => ∃ (U3 : Nat → Value) (p60 : OA) (c60 : Nat), fr = (aB :: .v (vI (k : Int)) :: .p 0 0 :: vu :: .v (Go.Value.string (ByteArray.mk #[])) :: .v (vI 0) :: .p 1 0 :: .p 2 0 :: .v (vI v) :: .f (.func 117) [.pointer (some ⟨0, 0, none⟩), .pointer (some ⟨0, 0, none⟩)] [some 2, some 1] :: .v (vI ((k : Int) - 1 - v)) :: su 4 (sw U3 15 5 (.v (.bool q20) :: sw U3 21 20 (.v (.bool false) :: sw U3 42 6 (.v (.bool false) :: sw U3 49 7 (.v (.bool true) :: sw U3 57 32 (vu :: sw U3 90 8 (vu :: sw U3 99 7 []))))))) : List SV) ∧ bx = [aA, ⟨26, [.v (vS (dig B16 (n * 10 ^ ((k : Int) - 1 - v).toNat)) p60 c60)], false⟩, ⟨26, [.v (vS (dig B16 d) pd cd)], false⟩] ∧ gs = [rfF 0 p60 c60 (dig B16 (n * 10 ^ ((k : Int) - 1 - v).toNat)), rfF 0 pd cd (dig B16 d), rfF 0 pn cn (dig B16 n)]) ?_ ?_
       · intro J hJ Al W I
         refine zd [1] I fun Al W I => zk [1] I fun I => zo2 0 2 I (fun I => ?_) (fun I => ?_)
         · refine zn I fun Al W I => zo 2 I fun I => zg I (fun Al W I => have hzW := I.bel.size; (HPw ((k : Int) - 1 - v) ((k : Int) - 1 - v).toNat W (by have := oTr hq56; omega) (by omega)).out) fun Al V Iv _ hB _ kz => ?_
           rintro _ W ⟨p59, c59, rfl, o59, hb⟩
           refine ⟨_, rfl, kz _ _ hb fun I => ?_⟩
           have I := I.rfB 0 o59 (hB _) Iv
           refine zo 3 I fun I => zg I (fun Al W I => have hzW := I.bel.size; (HT pn p59 cn c59 n (10 ^ ((k : Int) - 1 - v).toNat) W I.fa.2.2.1.rd I.fa.1.rd (by omega) (by have := hlt (show ((k : Int) - 1 - v).toNat ≤ 100000 by omega); omega)).out) fun Al V Iv _ hB _ kz => ?_
           rintro _ W ⟨p60, c60, rfl, o60, hb⟩
           refine ⟨_, rfl, kz _ _ hb fun I => ?_⟩
           have I := I.rfB 0 o60 (hB _) Iv
           refine zo 4 I fun I => zn I fun Al W I => a0i I J fun Al W U I => hJ _ _ _ _ _ ⟨U, p60, c60, rfl, rfl, rfl⟩ (I.pick [0, 2, 3])
         refine zg I (fun Al W I => have hzW := I.bel.size; (HPw ((k : Int) - 1 - v) ((k : Int) - 1 - v).toNat W (by have := oTr hq56; omega) (by omega)).out) fun Al V Iv _ hB _ kz => ?_
         rintro _ W ⟨p59, c59, rfl, o59, hb⟩
         refine ⟨_, rfl, kz _ _ hb fun I => ?_⟩
         have I := I.rfB 0 o59 (hB _) Iv
         refine zo 0 I fun I => zn I fun Al W I => zo 3 I fun I => zg I (fun Al W I => have hzW := I.bel.size; (HT pn p59 cn c59 n (10 ^ ((k : Int) - 1 - v).toNat) W I.fa.2.2.1.rd I.fa.1.rd (by omega) (by have := hlt (show ((k : Int) - 1 - v).toNat ≤ 100000 by omega); omega)).out) fun Al V Iv _ hB _ kz => ?_
         rintro _ W ⟨p60, c60, rfl, o60, hb⟩
         refine ⟨_, rfl, kz _ _ hb fun I => ?_⟩
         have I := I.rfB 0 o60 (hB _) Iv
         refine zo 4 I fun I => zn I fun Al W I => a0i I J fun Al W U I => hJ _ _ _ _ _ ⟨U, p60, c60, rfl, rfl, rfl⟩ (I.pick [0, 2, 3])
       rintro _ _ _ ⟨U3, p60, c60, rfl, rfl, rfl⟩ Al W I
       exact a0i I J fun Al W U I => hJ _ _ _ _ _ ⟨U, (n * 10 ^ ((k : Int) - 1 - v).toNat), d, p60, c60, pd, cd, rfl, rfl, rfl, rfl, (by have := oTr hq56; unfold d10; rw [show (-((k : Int) - 1 - v)).toNat = 0 by omega, Nat.pow_zero, Nat.mul_one])⟩ (I.pick [1, 0])
     refine zcut I none (fun fr bx gs => ∃ (U3 : Nat → Value) (p65 : OA) (c65 : Nat), fr = (aB :: .v (vI (k : Int)) :: .p 0 0 :: vu :: .v (Go.Value.string (ByteArray.mk #[])) :: .v (vI 0) :: .p 1 0 :: .p 2 0 :: .v (vI v) :: .f (.func 117) [.pointer (some ⟨0, 0, none⟩), .pointer (some ⟨0, 0, none⟩)] [some 2, some 1] :: .v (vI ((k : Int) - 1 - v)) :: su 4 (sw U3 15 5 (.v (.bool q20) :: sw U3 21 20 (.v (.bool false) :: sw U3 42 6 (.v (.bool false) :: sw U3 49 7 (.v (.bool false) :: sw U3 57 32 (vu :: sw U3 90 8 (vu :: sw U3 99 7 []))))))) : List SV) ∧ bx = [aA, ⟨26, [.v (vS (dig B16 n) pn cn)], false⟩, ⟨26, [.v (vS (dig B16 (d * 10 ^ (-((k : Int) - 1 - v)).toNat)) p65 c65)], false⟩] ∧ gs = [rfF 0 p65 c65 (dig B16 (d * 10 ^ (-((k : Int) - 1 - v)).toNat)), rfF 0 pd cd (dig B16 d), rfF 0 pn cn (dig B16 n)]) ?_ ?_
     · intro J hJ Al W I
       refine zd [2] I fun Al W I => zk [1] I fun I => zki 2 I .i64 (0 - ((k : Int) - 1 - v)) ((-((k : Int) - 1 - v))) ((by rw [Int.zero_sub]; exact iwo)) fun I => zo2 0 3 I (fun I => ?_) (fun I => ?_)
       · refine zn I fun Al W I => zo 3 I fun I => zg I (fun Al W I => have hzW := I.bel.size; (HPw (-((k : Int) - 1 - v)) (-((k : Int) - 1 - v)).toNat W (by have := oFa hq56; omega) (by omega)).out) fun Al V Iv _ hB _ kz => ?_
         rintro _ W ⟨p64, c64, rfl, o64, hb⟩
         refine ⟨_, rfl, kz _ _ hb fun I => ?_⟩
         have I := I.rfB 0 o64 (hB _) Iv
         refine zo 4 I fun I => zg I (fun Al W I => have hzW := I.bel.size; (HT pd p64 cd c64 d (10 ^ (-((k : Int) - 1 - v)).toNat) W I.fa.2.1.rd I.fa.1.rd (by omega) (by have := hlt (show (-((k : Int) - 1 - v)).toNat ≤ 100000 by omega); omega)).out) fun Al V Iv _ hB _ kz => ?_
         rintro _ W ⟨p65, c65, rfl, o65, hb⟩
         refine ⟨_, rfl, kz _ _ hb fun I => ?_⟩
         have I := I.rfB 0 o65 (hB _) Iv
         refine zo 5 I fun I => zn I fun Al W I => a0i I J fun Al W U I => hJ _ _ _ _ _ ⟨U, p65, c65, rfl, rfl, rfl⟩ (I.pick [0, 2, 3])
       refine zg I (fun Al W I => have hzW := I.bel.size; (HPw (-((k : Int) - 1 - v)) (-((k : Int) - 1 - v)).toNat W (by have := oFa hq56; omega) (by omega)).out) fun Al V Iv _ hB _ kz => ?_
       rintro _ W ⟨p64, c64, rfl, o64, hb⟩
       refine ⟨_, rfl, kz _ _ hb fun I => ?_⟩
       have I := I.rfB 0 o64 (hB _) Iv
       refine zo 0 I fun I => zn I fun Al W I => zo 4 I fun I => zg I (fun Al W I => have hzW := I.bel.size; (HT pd p64 cd c64 d (10 ^ (-((k : Int) - 1 - v)).toNat) W I.fa.2.1.rd I.fa.1.rd (by omega) (by have := hlt (show (-((k : Int) - 1 - v)).toNat ≤ 100000 by omega); omega)).out) fun Al V Iv _ hB _ kz => ?_
       rintro _ W ⟨p65, c65, rfl, o65, hb⟩
       refine ⟨_, rfl, kz _ _ hb fun I => ?_⟩
       have I := I.rfB 0 o65 (hB _) Iv
       refine zo 5 I fun I => zn I fun Al W I => a0i I J fun Al W U I => hJ _ _ _ _ _ ⟨U, p65, c65, rfl, rfl, rfl⟩ (I.pick [0, 2, 3])
     rintro _ _ _ ⟨U3, p65, c65, rfl, rfl, rfl⟩ Al W I
     exact a0i I J fun Al W U I => hJ _ _ _ _ _ ⟨U, n, (d * 10 ^ (-((k : Int) - 1 - v)).toNat), pn, cn, p65, c65, rfl, rfl, rfl, (by have := oFa hq56; unfold n10; rw [show ((k : Int) - 1 - v).toNat = 0 by omega, Nat.pow_zero, Nat.mul_one]), rfl⟩ (I.pick [0, 2])
   rintro _ _ _ ⟨U2, n2, d2, pn2, cn2, pd2, cd2, rfl, rfl, rfl, hn2, hd2⟩ Al W I
   have hln : (dig B16 n2).length ≤ 200000 := by rw [hn2]; have := a0x a0e n (10 ^ ((k : Int) - 1 - v).toNat); have := hlt (show ((k : Int) - 1 - v).toNat ≤ 100000 by omega); unfold n10; omega
   have hld : (dig B16 d2).length ≤ 200000 := by rw [hd2]; have := a0x a0e d (10 ^ (-((k : Int) - 1 - v)).toNat); have := hlt (show (-((k : Int) - 1 - v)).toNat ≤ 100000 by omega); unfold d10; omega
   have hd0 : 0 < d2 := by rw [hd2]; exact p0b K.d0 _
   have hq0 : 0 < n2 / d2 := by rw [hn2, hd2]; exact Nat.lt_of_lt_of_le (c0q (k - 1)) ((i0v K.d0 _ _).2 ((K.p.iff _).2 (by omega)))
   have hql : (dig B16 (n2 / d2)).length ≤ 200000 := Nat.le_trans (a0j a0e (Nat.div_le_self _ _)) hln
   have hrl : (dig B16 (n2 % d2)).length ≤ 200000 := Nat.le_trans (a0j a0e (Nat.mod_le _ _)) hln
   have hdT : dT n d ((k : Int) - 1 - v) = n2 / d2 + if upT n d ((k : Int) - 1 - v) then 1 else 0 := by rw [hn2, hd2]; rfl
   have hupT : upT n d ((k : Int) - 1 - v) = decide (0 < cmpN (n2 % d2 * 2) d2 ∨ (cmpN (n2 % d2 * 2) d2 = 0 ∧ n2 / d2 % 2 = 1)) := by rw [hn2, hd2]; unfold upT; rw [Bool.decide_or, Bool.decide_and]; rfl
   generalize upT n d ((k : Int) - 1 - v) = uT at *
   refine zg I (fun Al W I => have hzW := I.bel.size; (HI pn2 pd2 cn2 cd2 n2 d2 W I.fa.2.1.rd I.fa.1.rd (by omega) (by omega) hd0).out) fun Al V Iv _ hB _ kz => ?_
   rintro _ W ⟨p69, c69, q69, d69, rfl, o69, r69, hb⟩
   refine ⟨_, rfl, kz _ _ hb fun I => ?_⟩
   have I := I.rfB 0 o69 (hB _) Iv
   have I := I.rfB 0 r69 (hB _) Iv
   refine zd [] I fun Al W I => zk [0, 3] I fun I => zo 1 I fun I => zlv I 73 2 3 (dig B16 2) j0i fun Al W p73 I => ?_
   have I := I.rebase 0 (by omega)
   refine zo 2 I fun I => zg I (fun Al W I => have hzW := I.bel.size; (HT q69 p73 d69 1 (n2 % d2) 2 W I.fa.2.1.rd I.fa.1.rd (by omega) (by omega)).out) fun Al V Iv _ hB _ kz => ?_
   rintro _ W ⟨p74, c74, rfl, o74, hb⟩
   refine ⟨_, rfl, kz _ _ hb fun I => ?_⟩
   have I := I.rfB 0 o74 (hB _) Iv
   refine zo 4 I fun I => zq I (fun Al W I => have hzW := I.bel.size; (HC p74 pd2 c74 cd2 (n2 % d2 * 2) d2 W I.fa.1.rd I.fa.2.2.2.2.1.rd (by have := a0x a0e (n2 % d2) 2; omega) (by omega)).out) fun Al W I => zk [5] I fun I => zcut I (some 3000017) (fun fr bx gs => ∃ (U3 : Nat → Value) (up : Bool), fr = (aB :: .v (vI (k : Int)) :: .p 0 0 :: vu :: .v (Go.Value.string (ByteArray.mk #[])) :: .v (vI 0) :: .p 1 0 :: .p 2 0 :: .v (vI v) :: .f (.func 117) [.pointer (some ⟨0, 0, none⟩), .pointer (some ⟨0, 0, none⟩)] [some 2, some 1] :: .v (vI ((k : Int) - 1 - v)) :: .v (vS (dig B16 (n2 / d2)) p69 c69) :: .v (vS (dig B16 (n2 % d2)) q69 d69) :: .v (vI (cmpN (n2 % d2 * 2) d2)) :: vu :: sw U3 15 5 (.v (.bool q20) :: sw U3 21 20 (.v (.bool false) :: sw U3 42 6 (.v (.bool false) :: sw U3 49 7 (.v (.bool q56) :: sw U3 57 32 (.v (.bool up) :: sw U3 90 8 (vu :: sw U3 99 7 [])))))) : List SV) ∧ bx = [aA, ⟨26, [.v (vS (dig B16 n2) pn2 cn2)], false⟩, ⟨26, [.v (vS (dig B16 d2) pd2 cd2)], false⟩] ∧ gs = [rfF 0 p74 c74 (dig B16 (n2 % d2 * 2)), rfF 0 p73 1 (dig B16 2), rfF 0 q69 d69 (dig B16 (n2 % d2)), rfF 0 p69 c69 (dig B16 (n2 / d2)), rfF 0 pd2 cd2 (dig B16 d2), rfF 0 pn2 cn2 (dig B16 n2)] ∧ (up = uT)) ?_ ?_
   · intro J hJ Al W I
     rcases bTF (decide ((cmpN (n2 % d2 * 2) d2) > 0)) with f78 | f78
     · refine zb I 78 (decide ((cmpN (n2 % d2 * 2) d2) > 0)) (true) (f78) fun Al W I => a0i I J fun Al W U I => hJ _ _ _ _ _ ⟨U, true, rfl, rfl, rfl, (by rw [hupT]; symm; exact dTr (.inl (oTr f78)))⟩ (I.pick [0, 1, 2, 3, 4, 5])
     refine zb I 78 (decide ((cmpN (n2 % d2 * 2) d2) > 0)) (false) (f78) fun Al W I => ?_
     rcases bTF ((cmpN (n2 % d2 * 2) d2) == 0) with f81 | f81
     · refine zb I 81 ((cmpN (n2 % d2 * 2) d2) == 0) (true) (f81) fun Al W I => zx I 84 (fun _ => .pointer (some (at_ p69 0))) (fun Al W I => (f0n (m := 0) (n := (dig B16 (n2 / d2)).length) (c := c69) tvNn I.fa.2.2.2.1.rd.solid (by have := a0f a0e (n2 / d2); omega))) fun Al W I => zx I 85 (fun _ => vI ((dg (dig B16 (n2 / d2)) 0 : Nat) : Int)) (fun Al W I => (p0j I.fa.2.2.2.1.rd t1s (by have := a0f a0e (n2 / d2); omega))) fun Al W I => zbin I 86 _ (fun _ _ _ _ _ => o0u .i64 ((dg (dig B16 (n2 / d2)) 0 : Nat) : Int) (2) (((n2 / d2 % 2 : Nat) : Int)) (by omega) ((by exact r1b _))) fun Al W I => ?_
       rcases bTF (((n2 / d2 % 2 : Nat) : Int) == 1) with f87 | f87
       · refine zb I 87 (((n2 / d2 % 2 : Nat) : Int) == 1) (true) (f87) fun Al W I => a0i I J fun Al W U I => hJ _ _ _ _ _ ⟨U, true, rfl, rfl, rfl, (by rw [hupT]; symm; exact dTr (.inr ⟨beq_iff_eq.1 f81, by have := beq_iff_eq.1 f87; omega⟩))⟩ (I.pick [0, 1, 2, 3, 4, 5])
       refine zb I 87 (((n2 / d2 % 2 : Nat) : Int) == 1) (false) (f87) fun Al W I => a0i I J fun Al W U I => hJ _ _ _ _ _ ⟨U, false, rfl, rfl, rfl, (by rw [hupT]; symm; exact dFa (fun h => h.elim (oFa f78) (fun h => bnF f87 (by have := h.2; omega))))⟩ (I.pick [0, 1, 2, 3, 4, 5])
     refine zb I 81 ((cmpN (n2 % d2 * 2) d2) == 0) (false) (f81) fun Al W I => a0i I J fun Al W U I => hJ _ _ _ _ _ ⟨U, false, rfl, rfl, rfl, (by rw [hupT]; symm; exact dFa (fun h => h.elim (oFa f78) (fun h => bnF f81 h.1)))⟩ (I.pick [0, 1, 2, 3, 4, 5])
   rintro _ _ _ ⟨U3, up, rfl, rfl, rfl, hup⟩ Al W I
   refine zcut I (some 2000089) (fun fr bx gs => ∃ (U4 : Nat → Value) (dd : Nat) (pq : OA) (cq : Nat), fr = (aB :: .v (vI (k : Int)) :: .p 0 0 :: vu :: .v (Go.Value.string (ByteArray.mk #[])) :: .v (vI 0) :: .p 1 0 :: .p 2 0 :: .v (vI v) :: .f (.func 117) [.pointer (some ⟨0, 0, none⟩), .pointer (some ⟨0, 0, none⟩)] [some 2, some 1] :: .v (vI ((k : Int) - 1 - v)) :: .v (vS (dig B16 dd) pq cq) :: .v (vS (dig B16 (n2 % d2)) q69 d69) :: .v (vI (cmpN (n2 % d2 * 2) d2)) :: vu :: sw U4 15 5 (.v (.bool q20) :: sw U4 21 20 (.v (.bool false) :: sw U4 42 6 (.v (.bool false) :: sw U4 49 7 (.v (.bool q56) :: sw U4 57 32 (.v (.bool up) :: sw U4 90 8 (vu :: sw U4 99 7 [])))))) : List SV) ∧ bx = [aA, ⟨26, [.v (vS (dig B16 n2) pn2 cn2)], false⟩, ⟨26, [.v (vS (dig B16 d2) pd2 cd2)], false⟩] ∧ gs = [rfF 0 pq cq (dig B16 dd), rfF 0 p74 c74 (dig B16 (n2 % d2 * 2)), rfF 0 p73 1 (dig B16 2), rfF 0 q69 d69 (dig B16 (n2 % d2)), rfF 0 pd2 cd2 (dig B16 d2), rfF 0 pn2 cn2 (dig B16 n2)] ∧ (dT n d ((k : Int) - 1 - v) = dd) ∧ ((dig B16 dd).length ≤ 300000)) ?_ ?_
   · intro J hJ Al W I
     rcases bTF up with rfl | rfl
     · refine zlv I 91 1 3 (dig B16 1) d0u fun Al W p91 I => ?_
       have I := I.rebase 0 (by omega)
       refine zg I (fun Al W I => have hzW := I.bel.size; (HPl p69 p91 c69 1 (n2 / d2) 1 W I.fa.2.2.2.2.1.rd I.fa.1.rd (by omega) (by omega)).out) fun Al V Iv _ hB _ kz => ?_
       rintro _ W ⟨p92, c92, rfl, o92, hb⟩
       refine ⟨_, rfl, kz _ _ hb fun I => ?_⟩
       have I := I.rfB 0 o92 (hB _) Iv
       exact a0i I J fun Al W U I => hJ _ _ _ _ _ ⟨U, (n2 / d2 + 1), p92, c92, rfl, rfl, rfl, (by rw [hdT, ← hup, if_pos rfl]), (by have := d0w a0e (n2 / d2) 1; omega)⟩ (I.pick [0, 2, 3, 4, 6, 7])
     exact a0i I J fun Al W U I => hJ _ _ _ _ _ ⟨U, (n2 / d2), p69, c69, rfl, rfl, rfl, (by rw [hdT, ← hup, if_neg Bool.false_ne_true, Nat.add_zero]), (by omega)⟩ (I.pick [3, 0, 1, 2, 4, 5])
   rintro _ _ _ ⟨U4, dd, pq, cq, rfl, rfl, rfl, hdd, hddl⟩ Al W I
   refine zq I (fun Al W I => have hzW := I.bel.size; (HDe pq cq dd W I.fa.1.rd (by omega)).out) fun Al W I => ?_
   rcases bTF (decide ((((a0d (a0t dd)).size : Nat) : Int) > (k : Int))) with f98 | f98
   · refine zb I 98 (decide ((((a0d (a0t dd)).size : Nat) : Int) > (k : Int))) (true) (f98) fun Al W I => zx I 101 (fun _ => .string (a0d ((a0t dd).take k))) (fun Al W I => (by rw [show (a0t dd).take k = ((a0t dd).take k).drop 0 from rfl, ← h0b (o0b _)]; exact g0q uSt (.inl ⟨rfl, rfl⟩) (.inr rfl) (Nat.zero_le _) (by have := oTr f98; omega))) fun Al W I => zi I 103 .i64 (v + 1) ((v + 1)) ((by exact iwo)) fun Al W I => zret I (v := fun Al => .tuple #[.string (a0d ((a0t dd).take k)), vI (v + 1)]) fun Al W I => ⟨by rw [← hR, K.dec, hdd, if_pos (by have := oTr f98; rw [a0k] at this; omega)], I.below⟩
   refine zb I 98 (decide ((((a0d (a0t dd)).size : Nat) : Int) > (k : Int))) (false) (f98) fun Al W I => zret I (v := fun Al => .tuple #[.string (a0d (a0t dd)), vI v]) fun Al W I => ⟨by rw [← hR, K.dec, hdd, if_neg (by have := oFa f98; rw [a0k] at this; omega)], I.below⟩
 refine zi I 46 .i64 (v + 1) ((v + 1)) ((by exact iwo)) fun Al W I => zqd I (fun Al W I => have hzW := I.bel.size; (HO n d (v + 1) pn pd cn cd _ _ _ _ W (I.box 2 26 _) (I.box 1 26 _) I.fa.1 I.fa.2.1 K (by omega)).out) (dFa f47) fun Al W I => zi I 50 .i64 (v + 1) ((v + 1)) ((by exact iwo)) fun Al W I => a0i I J1 fun Al W U I => hJ1 ((P - (v + 1)).toNat) _ _ _ _ _ ((by omega)) ⟨U, (v + 1), rfl, rfl, rfl, (by omega), rfl⟩ (I.pick [0, 1])
theorem q0s (n : Int) (w : World) (h : -100000 < n ∧ n < 100000) : Calls Tryz.prog 120 #[.int .i64 n] w fun en w' => en = .returned (.string (a0d (e0m n))) ∧ Below w.heap.size w w' := by
 have HF := fun N n W h h1 => hi0 (u1m N n h h1 W)
 have HDe := fun p c a W hp hl => hi0 (j0g p _ c a W hp rfl hl)
 have hlen : ∀ a, a < 100000 → (dig B16 a).length ≤ 2 ∧ (a0t a).length ≤ 5 := fun a ha => ⟨by rw [a0h a0e]; unfold B16; omega, (b0e a 5 (by omega)).2 (by omega)⟩
 have l1 := hlen n.toNat (by omega)
 have l2 := hlen (-n).toNat (by omega)
 have e : e0m n = if n < 0 then 45 :: a0t (-n).toNat else a0t n.toNat := rfl
 have I := Inv.start w [] True.intro
 refine a0g [.v (.int .i64 n)] I Tryz.func120 ?_
 rcases bTF (decide (n < 0)) with f4 | f4
 · refine zb I 4 (decide (n < 0)) (true) (f4) fun Al W I => zi I 6 .i64 (0 - n) ((-n)) ((by rw [Int.zero_sub]; exact iwo)) fun Al W I => zqr I (fun Al W I => have hzW := I.bel.size; (HF (-n) (-n).toNat W (by have := oTr f4; omega) (by omega)).out) fun Al W p7 c7 I => zq I (fun Al W I => have hzW := I.bel.size; (HDe p7 c7 (-n).toNat W I.fa.1.rd (by omega)).out) fun Al W I => zbin I 9 _ (fun _ _ _ _ _ => (c0l [45] (a0t (-n).toNat) (by simp; omega))) fun Al W I => zret I (v := fun Al => .string (a0d (45 :: a0t (-n).toNat))) fun Al W I => ⟨by rw [e, if_pos (oTr f4)], I.below⟩
 refine zb I 4 (decide (n < 0)) (false) (f4) fun Al W I => zqr I (fun Al W I => have hzW := I.bel.size; (HF n n.toNat W (by have := oFa f4; omega) (by omega)).out) fun Al W p11 c11 I => zq I (fun Al W I => have hzW := I.bel.size; (HDe p11 c11 n.toNat W I.fa.1.rd (by omega)).out) fun Al W I => zret I (v := fun Al => .string (a0d (a0t n.toNat))) fun Al W I => ⟨by rw [e, if_neg (oFa f4)], I.below⟩
theorem n0w (g : Bool) (s : List Nat) (p : Int) (w : World) (hs : Byt s) (h0 : s ≠ []) (hl : s.length ≤ 100) (hp : -100000 < p ∧ p < 100000) :
 Calls Tryz.prog 68 #[.bool g, .string (a0d s), .int .i64 p] w fun en w' => en = .returned (.string (a0d (numT g s p))) ∧ Below w.heap.size w w' := by
 have hz := a0k s
 have h1 := h0b hs 0 1
 have h2 : (a0d s).extract 1 (a0d s).size = a0d (s.drop 1) := by rw [h0b hs, hz, List.take_length]
 have hI := fun W => hi0 (q0s p W hp)
 have hil : (e0m p).length ≤ 6 := by
  have h : (a0t p.natAbs).length ≤ 5 := (b0e _ 5 (by omega)).2 (by omega)
  unfold e0m
  split
  · rw [List.length_cons, show (-p).toNat = p.natAbs by omega]; omega
  · rw [show p.toNat = p.natAbs by omega]; omega
 have hl0 : 0 < s.length := List.length_pos_iff.2 h0
 have ha : (s.take 1).length = 1 := by rw [List.length_take]; omega
 have hb : (s.drop 1).length = s.length - 1 := by rw [List.length_drop]
 have eN : numT g s p = (if g then [45] else []) ++ (s.take 1 ++ ((if 1 < s.length then 46 :: s.drop 1 else []) ++ 101 :: e0m p)) := rfl
 rw [List.drop_zero] at h1
 generalize s.take 1 = a at *
 generalize s.drop 1 = b at *
 generalize e0m p = ip at *
 generalize a0d s = S at *
 obtain ⟨q, hq⟩ : ∃ q, decide ((S.size : Int) > 1) = q := ⟨_, rfl⟩
 have I := Inv.start w [] True.intro
 refine a0g [.v (.bool g), .v (.string S), .v (.int .i64 p)] I Tryz.func68 ?_
 refine zx I 9 (fun _ => .string (a0d a)) (fun Al W I => (by rw [← h1]; exact g0q uSt (.inl ⟨rfl, rfl⟩) (.inr rfl) (Nat.zero_le _) (by omega))) fun Al W I => zb I 12 (decide ((S.size : Int) > 1)) (q) (hq) fun Al W I => zcut I (some 2000012) (fun fr bx gs => ∃ (U1 : Nat → Value) (Y : LN), fr = (.v (.bool g) :: .v (.string S) :: .v (vI p) :: su 3 (.v (Go.Value.string (ByteArray.mk #[])) :: .v (.string (a0d Y)) :: sw U1 8 4 (.v (.bool q) :: sw U1 13 5 (vu :: sw U1 19 7 []))) : List SV) ∧ bx = [] ∧ gs = [] ∧ (Y = a ++ (if 1 < s.length then 46 :: b else [])) ∧ (Y.length ≤ 200)) ?_ ?_
 · intro J hJ Al W I
   rcases bTF q with rfl | rfl
   · refine zx I 15 (fun _ => .string (a0d b)) (fun Al W I => (by rw [← h2]; exact g0q uSt (.inr rfl) (.inl ⟨rfl, rfl⟩) (by omega) (Nat.le_refl _))) fun Al W I => zbin I 16 _ (fun _ _ _ _ _ => (c0l [46] b (by simp; omega))) fun Al W I => zbin I 17 _ (fun _ _ _ _ _ => (c0l a (46 :: b) (by simp; omega))) fun Al W I => a0i I J fun Al W U I => hJ _ _ _ _ _ ⟨U, (a ++ 46 :: b), rfl, rfl, rfl, (by rw [if_pos (by have := oTr hq; omega)]), (by rw [List.length_append, List.length_cons]; omega)⟩ (I.pick [])
   exact a0i I J fun Al W U I => hJ _ _ _ _ _ ⟨U, a, rfl, rfl, rfl, (by rw [if_neg (by have := oFa hq; omega), List.append_nil]), (by omega)⟩ (I.pick [])
 rintro _ _ _ ⟨U1, Y, rfl, rfl, rfl, hY, hYl⟩ Al W I
 refine zcut I (some 2000018) (fun fr bx gs => ∃ (U2 : Nat → Value) (X : LN), fr = (.v (.bool g) :: .v (.string S) :: .v (vI p) :: su 3 (.v (Go.Value.string (ByteArray.mk #[])) :: .v (.string (a0d X)) :: sw U2 8 4 (.v (.bool q) :: sw U2 13 5 (.v (.bool g) :: sw U2 19 7 []))) : List SV) ∧ bx = [] ∧ gs = [] ∧ (X ++ 101 :: ip = numT g s p) ∧ (X.length ≤ 300)) ?_ ?_
 · intro J hJ Al W I
   rcases bTF g with rfl | rfl
   · refine zbin I 20 _ (fun _ _ _ _ _ => (c0l [45] Y (by simp; omega))) fun Al W I => a0i I J fun Al W U I => hJ _ _ _ _ _ ⟨U, (45 :: Y), rfl, rfl, rfl, (by rw [eN, if_pos rfl, hY]; simp), (by rw [List.length_cons]; omega)⟩ (I.pick [])
   exact a0i I J fun Al W U I => hJ _ _ _ _ _ ⟨U, Y, rfl, rfl, rfl, (by rw [eN, if_neg Bool.false_ne_true, hY]; simp), (by omega)⟩ (I.pick [])
 rintro _ _ _ ⟨U2, X, rfl, rfl, rfl, hX, hXl⟩ Al W I
 refine zbin I 22 _ (fun _ _ _ _ _ => (c0l X [101] (by simp; omega))) fun Al W I => zq I (fun Al W I => (hI W).out) fun Al W I => zbin I 25 _ (fun _ _ _ _ _ => (c0l (X ++ [101]) ip (by simp; omega))) fun Al W I => zret I (v := fun Al => .string (a0d (X ++ [101] ++ ip))) fun Al W I => ⟨by rw [← hX]; simp, I.below⟩
theorem m0l (v : Vr) (p : OA) (c : Nat) (w : World) (hc : 1 ≤ v.cls ∧ v.cls ≤ 5) : Calls Tryz.prog 28 #[.agg #[.int .i64 (v.cls : Int), .bool v.neg, .bool v.x.neg, .slice p (dig B16 v.x.m).length c, .int .i64 v.x.e]] w fun en w' => en = .returned (.string (a0d (e0l v.cls v.neg))) ∧ Below w.heap.size w w' := by
 have hw : ∀ k, v.cls = k → e0l v.cls v.neg = e0l k v.neg := fun k h => by rw [h]
 obtain ⟨k, g, x⟩ := v
 simp only at hc hw ⊢
 have hg : ∀ S : List Nat, k ≠ 2 → S = n0e k → e0l k g = (if g then [45] else []) ++ S := fun S h2 hS => by
  subst hS
  unfold e0l n0e
  rw [if_neg h2]
  congr 1
  by_cases h1 : k = 1
  · rw [if_pos h1, if_pos h1]
  · by_cases h3 : k = 3
    · rw [if_neg h1, if_neg h1, if_pos h3, if_pos h3]
    · by_cases h4 : k = 4
      · rw [if_neg h1, if_neg h1, if_neg h3, if_neg h3, if_pos h4, if_pos h4]
      · rw [if_neg h1, if_neg h1, if_neg h3, if_neg h3, if_neg h4, if_neg h4, if_pos (by omega)]
 have I := Inv.start w [] True.intro
 refine a0g [.v (.agg #[.int .i64 (k : Int), .bool g, .bool x.neg, .slice p (dig B16 x.m).length c, .int .i64 x.e])] I Tryz.func28 ?_
 refine zcut I (some 1000000) (fun fr bx gs => ∃ (U1 : Nat → Value) (S : LN), fr = (.v (.agg #[vI (k : Int), .bool g, .bool x.neg, vS (dig B16 x.m) p c, vI x.e]) :: .p 0 0 :: .v (U1 2) :: .v (.string (a0d S)) :: .v (U1 4) :: .v (vI (k : Int)) :: sw U1 6 9 (vu :: sw U1 16 3 []) : List SV) ∧ bx = [⟨30, [.v (vI (k : Int)), .v (.bool g), .v (.bool x.neg), .v (vS (dig B16 x.m) p c), .v (vI x.e)], false⟩] ∧ gs = [] ∧ (k ≠ 2 ∧ S = n0e k ∧ S.length ≤ 8)) ?_ ?_
 · intro J hJ Al W I
   rcases bTF ((k : Int) == 1) with f7 | f7
   · refine zb I 7 ((k : Int) == 1) (true) (f7) fun Al W I => a0i I J fun Al W U I => hJ _ _ _ _ _ ⟨U, [48], rfl, rfl, rfl, (by have : k = 1 := (by have := beq_iff_eq.1 f7; omega); subst this; exact ⟨by decide, rfl, by decide⟩)⟩ (I.pick [])
   refine zb I 7 ((k : Int) == 1) (false) (f7) fun Al W I => ?_
   rcases bTF ((k : Int) == 3) with f9 | f9
   · refine zb I 9 ((k : Int) == 3) (true) (f9) fun Al W I => a0i I J fun Al W U I => hJ _ _ _ _ _ ⟨U, [105, 110, 102], rfl, rfl, rfl, (by have : k = 3 := (by have := beq_iff_eq.1 f9; omega); subst this; exact ⟨by decide, rfl, by decide⟩)⟩ (I.pick [])
   refine zb I 9 ((k : Int) == 3) (false) (f9) fun Al W I => ?_
   rcases bTF ((k : Int) == 4) with f11 | f11
   · refine zb I 11 ((k : Int) == 4) (true) (f11) fun Al W I => a0i I J fun Al W U I => hJ _ _ _ _ _ ⟨U, [110, 111, 110, 101], rfl, rfl, rfl, (by have : k = 4 := (by have := beq_iff_eq.1 f11; omega); subst this; exact ⟨by decide, rfl, by decide⟩)⟩ (I.pick [])
   refine zb I 11 ((k : Int) == 4) (false) (f11) fun Al W I => ?_
   rcases bTF ((k : Int) == 5) with f13 | f13
   · refine zb I 13 ((k : Int) == 5) (true) (f13) fun Al W I => a0i I J fun Al W U I => hJ _ _ _ _ _ ⟨U, [114, 101, 115, 101, 114, 118, 101, 100], rfl, rfl, rfl, (by have : k = 5 := (by have := beq_iff_eq.1 f13; omega); subst this; exact ⟨by decide, rfl, by decide⟩)⟩ (I.pick [])
   refine zb I 13 ((k : Int) == 5) (false) (f13) fun Al W I => zret I (v := fun Al => Go.Value.string (ByteArray.mk #[])) fun Al W I => ?_
   (have h2 : k = 2 := (by have := bnF f7; have := bnF f9; have := bnF f11; have := bnF f13; omega); subst h2; exact ⟨rfl, I.below⟩)
 rintro _ _ _ ⟨U1, S, rfl, rfl, rfl, hS⟩ Al W I
 rcases bTF (g) with f15 | f15
 · refine zb I 15 (g) (true) (f15) fun Al W I => zbin I 17 _ (fun _ _ _ _ _ => (c0l [45] S (by simp; omega))) fun Al W I => zret I (v := fun Al => .string (a0d (45 :: S))) fun Al W I => ?_
   (rw [hg S hS.1 hS.2.1, f15]; exact ⟨rfl, I.below⟩)
 refine zb I 15 (g) (false) (f15) fun Al W I => zret I (v := fun Al => .string (a0d S)) fun Al W I => ?_
 (rw [hg S hS.1 hS.2.1, f15]; exact ⟨rfl, I.below⟩)
theorem q0t (r : Vr) (k : Nat) (p : OA) (c b : Nat) (w : World) (hp : Rf w b p c (dig B16 r.x.m)) (F : VrOk r) (hk : 1 ≤ k ∧ k ≤ 60) : Calls Tryz.prog 30 #[.agg #[.int .i64 (r.cls : Int), .bool r.neg, .bool r.x.neg, .slice p (dig B16 r.x.m).length c, .int .i64 r.x.e], .int .i64 (k : Int)] w fun en w' => en = .returned (.string (a0d (e0o r k))) ∧ Below w.heap.size w w' := by
 have HW := fun W => hi0 (m0l r p c W F.c)
 have HD := fun (h : r.cls = 2) b W hp => hi0 (q0g r.x k p c b W hp (F.x2 h).1 F.len ⟨F.lo, F.hi⟩ (by omega))
 have HN := fun (h : r.cls = 2) W => hi0 (by
   have A := j0u (k := k) (F.x2 h).1 F.len hk.1
   have B := b1c (k := k) (F.x2 h).1 F.len ⟨F.lo, F.hi⟩ hk.1
   exact n0w r.neg (numX r.x k).1 (numX r.x k).2 W (u0r A.2.1) (fun h => by have := A.1; rw [h, List.length_nil] at this; omega) (by omega) (by omega))
 have h2 : r.cls = 2 → e0o r k = numT r.neg (numX r.x k).1 (numX r.x k).2 := fun h => by unfold e0o; rw [if_pos h]
 have h3 : r.cls ≠ 2 → e0o r k = e0l r.cls r.neg := fun h => by unfold e0o; rw [if_neg h]
 obtain ⟨wb, hwb⟩ : ∃ wb : Bool, (e0l r.cls r.neg = [] ↔ wb = false) := ⟨decide (r.cls ≠ 2), by rw [b0z]; simp⟩
 generalize e0o r k = R at *
 have I := Inv.start w [rfF b p c (dig B16 r.x.m)] ⟨hp, True.intro⟩
 refine a0g [.v (.agg #[.int .i64 (r.cls : Int), .bool r.neg, .bool r.x.neg, .slice p (dig B16 r.x.m).length c, .int .i64 r.x.e]), .v (.int .i64 (k : Int))] I Tryz.func30 ?_
 refine zq I (fun Al W I => (HW W).out) fun Al W I => ?_
 rcases bTF (wb) with f11 | f11
 · refine zbin I 11 (.bool true) (fun _ _ _ _ W => ((k0a (h0p _ _) hwb)).trans (congrArg (fun z => Result.ok (Value.bool z) W) (show (wb) = true from f11))) fun Al W I => zret I (v := fun Al => .string (a0d (e0l r.cls r.neg))) fun Al W I => ?_
   first | (rw [h2 hc]; exact ⟨rfl, I.below⟩) | (rw [h3 (fun h => (by have := hwb.1 (b0z.2 h); rw [this] at f11; cases f11))]; exact ⟨rfl, I.below⟩)
 refine zbin I 11 (.bool false) (fun _ _ _ _ W => ((k0a (h0p _ _) hwb)).trans (congrArg (fun z => Result.ok (Value.bool z) W) (show (wb) = false from f11))) fun Al W I => ?_
 have hc : r.cls = 2 := b0z.1 (hwb.2 f11)
 refine zq I (fun Al W I => (HD hc _ W I.fa.1).out) fun Al W I => zq I (fun Al W I => (HN hc W).out) fun Al W I => zret I (v := fun Al => .string (a0d (numT r.neg (numX r.x k).1 (numX r.x k).2))) fun Al W I => ?_
 first | (rw [h2 hc]; exact ⟨rfl, I.below⟩) | (rw [h3 (fun h => (by have := hwb.1 (b0z.2 h); rw [this] at f11; cases f11))]; exact ⟨rfl, I.below⟩)
end Go.Proofs.YtpgomglbaacmdaaGreatDoor
namespace Go.Slip
theorem x0l {a b : Dv} (ha : Bare a) (hb : Bare b) : rCmp a b = 0 ↔ a = b := by
 have h1 : min a.e b.e ≤ a.e := Int.min_le_left _ _
 have h2 : min a.e b.e ≤ b.e := Int.min_le_right _ _
 rw [a1n a b h1 h2, Int.sign_eq_zero_iff_zero]
 constructor
 · intro hh
   have h3 := a1l ha h1
   have h4 := a1l hb h2
   rw [show zOf a (min a.e b.e) = zOf b (min a.e b.e) by omega] at h3
   exact h3.symm.trans h4
 · intro h; rw [h]; omega
end Go.Slip
namespace Go.Proofs.YtpgomglbaacmdaaGreatDoor
open Go.RowKit Go.Slip
structure m1m (n : Int) (r : Vr) (k : Nat) : Prop where
 er : errT (a0b (a0d (e0o r k))).length (numl (a0b (a0d (e0o r k)))) = 0
 rt : ratL (a0b (a0d (e0o r k))) = ratX r.x k
 ok : z0c (ratX r.x k)
 len : (dig B16 (b0v (fmt n) r.x k).x.m).length ≤ 100000
 e : -100000 ≤ (b0v (fmt n) r.x k).x.e ∧ (b0v (fmt n) r.x k).x.e ≤ 100000
 same : okX (fmt n) r.x k = true ↔ (b0v (fmt n) r.x k).cls = 2 ∧ rCmp (b0v (fmt n) r.x k).x r.x = 0
theorem u1x {n : Int} {r : Vr} {k : Nat} (hn : IsFm n) (F : VrOk r) (hc : r.cls = 2) (hin : a0p r.x (fmt n).g = true) (hk : 1 ≤ k ∧ k ≤ 60) : m1m n r k := by
 obtain ⟨h0, hng⟩ := F.x2 hc
 have A := q0d hn h0 F hin hk
 have B := z0p hn h0 F hin hk
 have C := (x0g hn h0 F hin hk).1
 have hp : e0o r k = numT r.x.neg (numX r.x k).1 (numX r.x k).2 := by unfold e0o; rw [if_pos hc, hng]
 rw [← hp] at A
 refine ⟨A.1, A.2, B.1, ?_, ?_, ?_⟩
 · by_cases h2 : (b0v (fmt n) r.x k).cls = 2
   · have := k1c (b0j hn).g (C.c2 h2).1
     have := h0i (b0v (fmt n) r.x k).x.m
     omega
   · rw [C.x0 h2]; show (dig B16 0).length ≤ _; rw [a0c]; exact Nat.zero_le _
 · by_cases h2 : (b0v (fmt n) r.x k).cls = 2
   · have := a1o (b0j hn).g (C.c2 h2).2.1 (C.c2 h2).1
     omega
   · rw [C.x0 h2]; show (-100000 : Int) ≤ 0 ∧ (0 : Int) ≤ 100000; omega
 · unfold okX
   rw [decide_eq_true_iff]
   constructor
   · rintro ⟨q1, q2, q3, q4⟩
     refine ⟨q1, (x0l (C.c2 q1).2.1 F.bare).2 ?_⟩
     cases hq : (b0v (fmt n) r.x k).x; cases hq' : r.x
     rw [hq, hq'] at q2 q3 q4
     simp only at q2 q3 q4
     rw [q2, q3, q4]
   · rintro ⟨q1, q2⟩
     have := (x0l (C.c2 q1).2.1 F.bare).1 q2
     exact ⟨q1, by rw [this], by rw [this], by rw [this]⟩
theorem n0f (n : Int) (s : ByteArray) (p : OA) (c b : Nat) (w : World) (hp : Rf w b p c (dig B16 (refD n s).x.m)) (h0 : b0m n s = 0) :
 Calls Tryz.prog 7 #[.int .i64 n, .agg #[.int .i64 (((refD n s).cls : Nat) : Int), .bool (refD n s).neg, .bool (refD n s).x.neg, .slice p (dig B16 (refD n s).x.m).length c, .int .i64 (refD n s).x.e]] w fun en w' => en = .returned (.tuple #[.string (b0x n s), .int .i64 (b0h n s)]) ∧ Below w.heap.size w w' := by
 have hn := (b0l.1 h0).1
 have F := (q0c (s := s) hn).ok
 have G := b0o (b0j hn).g
 have e2 : (refD n s).cls = 2 → a0p (refD n s).x (fmt n).g = false → b0h n s = 4 ∧ b0x n s = a0d [] := fun h' h'' => by
  have h1 : b0h n s = 4 := by unfold b0h; rw [if_pos h0, if_pos ⟨h', h''⟩]
  unfold b0x
  rw [h1]
  exact ⟨rfl, rfl⟩
 have e3 : ((refD n s).cls = 2 → a0p (refD n s).x (fmt n).g = true) → b0h n s = 0 ∧ b0x n s = a0d (k0k (fmt n) (refD n s)) := fun h' => by
  have h1 : b0h n s = 0 := by unfold b0h; rw [if_pos h0, if_neg (fun k => by have := h' k.1; rw [k.2] at this; cases this)]
  unfold b0x
  rw [h1]
  exact ⟨rfl, rfl⟩
 have hS := fun hc hin => p0p (f := fmt n) (x := (refD n s).x) (b0j hn).g (h1j hn) F.bare hin (F.x2 hc).1
 have hB := fun hc hin k hk => u1x (n := n) (r := refD n s) (k := k) hn F hc hin hk
 generalize b0h n s = eo at *
 generalize b0x n s = oo at *
 generalize refD n s = r at *
 have hsv : r.cls = 2 → k0k (fmt n) r = e0o r (f0f (fmt n) r.x) := fun h => by unfold k0k e0o; rw [if_pos h]
 have hsw : r.cls ≠ 2 → k0k (fmt n) r = e0l r.cls r.neg := fun h => by unfold k0k; rw [if_neg h]
 generalize k0k (fmt n) r = sv at *
 have lx : (dig B16 r.x.m).length ≤ 40 := by have := h0i r.x.m; have := F.len; omega
 have HW := fun W => hi0 (m0l r p c W F.c)
 have HFm := fun W => hi0 (b0w n W)
 rw [decide_eq_true hn] at HFm
 have HG := fun W hp => hi0 (u0a r.x.neg p _ c r.x.e r.x.m (fmt n).g W hp rfl (by omega) (by have := F.lo; have := F.hi; omega) G)
 have HP := fun k hk b W hp => hi0 (q0t r k p c b W hp F hk)
 have HRa := fun (k : Nat) (B : m1m n r k) W => hi0 (by
   have h := x0j (a0d (e0o r k)) W
   rw [B.er, B.rt] at h
   exact h : Calls Tryz.prog 31 #[.string (a0d (e0o r k))] W (m0k W 0 (ratX r.x k)))
 have HFt := fun (k : Nat) (B : m1m n r k) p q c d b1 b2 W h1 h2 => hi0 (u0v n 1 (ratX r.x k).1 p q c d b1 b2 (ratX r.x k).2.1 (ratX r.x k).2.2.1 (ratX r.x k).2.2.2 W hn (by omega) h1 h2 (by have := B.ok.ln; have := h0i (ratX r.x k).2.1; omega) (by have := B.ok.ld; have := h0i (ratX r.x k).2.2.1; omega) B.ok.d0 (by have := B.ok.e; omega))
 have hbk : ∀ k, ((fmt n).placedM (a0m (ratX r.x k).1 (ratX r.x k).2.1 (ratX r.x k).2.2.1 (ratX r.x k).2.2.2 (fmt n).g 1) 1).1 = b0v (fmt n) r.x k := fun k => rfl
 have HC := fun (k : Nat) (B : m1m n r k) p q c c' W h1 h2 h3 => hi0 (u1n (b0v (fmt n) r.x k).x r.x p q c c' W h1 h2 h3 ⟨by have := B.len; omega, by have := B.e; omega, by have := B.e; omega⟩ ⟨by omega, by have := F.lo; omega, by have := F.hi; omega⟩)
 obtain ⟨wb, hwb⟩ : ∃ wb : Bool, (e0l r.cls r.neg = [] ↔ wb = false) := ⟨decide (r.cls ≠ 2), by rw [b0z]; simp⟩
 let aA : Box := ⟨62, [.v (.int .i64 (((fmt n).size : Nat) : Int)), .v (.int .i64 (((fmt n).E : Nat) : Int)), .v (.int .i64 (((fmt n).F : Nat) : Int)), .v (.int .i64 ((fmt n).g.rad)), .v (.int .i64 ((fmt n).g.digs)), .v (.int .i64 ((fmt n).g.lo)), .v (.int .i64 ((fmt n).g.hi)), .v (.bool ((fmt n).g.grad)), .v (.int .i64 (((fmt n).fam : Nat) : Int))], false⟩
 let aB : Box := ⟨30, [.v (.int .i64 (r.cls : Int)), .v (.bool r.neg), .v (.bool r.x.neg), .v (.slice p (dig B16 r.x.m).length c), .v (.int .i64 r.x.e)], false⟩
 let aC : SV := .v (.agg #[.int .i64 (r.cls : Int), .bool r.neg, .bool r.x.neg, .slice p (dig B16 r.x.m).length c, .int .i64 r.x.e])
 have I := Inv.start w [rfF b p c (dig B16 r.x.m)] ⟨hp, True.intro⟩
 refine a0g [.v (.int .i64 n), .v (.agg #[.int .i64 (r.cls : Int), .bool r.neg, .bool r.x.neg, .slice p (dig B16 r.x.m).length c, .int .i64 r.x.e])] I Tryz.func7 ?_
 refine zq I (fun Al W I => (HW W).out) fun Al W I => zq I (fun Al W I => (HFm W).out) fun Al W I => ?_
 rcases bTF (wb) with f23 | f23
 · refine zbin I 23 (.bool true) (fun _ _ _ _ W => ((k0a (h0p _ _) hwb)).trans (congrArg (fun z => Result.ok (Value.bool z) W) (show (wb) = true from f23))) fun Al W I => zret I (v := fun Al => .tuple #[.string (a0d (e0l r.cls r.neg)), vI 0]) fun Al W I => ?_
   (have hc : r.cls ≠ 2 := fun h => (by have := hwb.1 (b0z.2 h); rw [this] at f23; cases f23); obtain ⟨q1, q2⟩ := e3 (fun h => absurd h hc); rw [q1, q2, hsw hc]; exact ⟨rfl, I.below⟩)
 refine zbin I 23 (.bool false) (fun _ _ _ _ W => ((k0a (h0p _ _) hwb)).trans (congrArg (fun z => Result.ok (Value.bool z) W) (show (wb) = false from f23))) fun Al W I => ?_
 by_cases hin : a0p ⟨r.x.neg, r.x.m, r.x.e⟩ (fmt n).g = true
 · have hc : r.cls = 2 := b0z.1 (hwb.2 f23)
   refine zqd I (fun Al W I => (HG W I.fa.1.rd).out) (show (a0p ⟨r.x.neg, r.x.m, r.x.e⟩ (fmt n).g) = true from hin) fun Al W I => ?_
   obtain ⟨s1, s2, s3, s4⟩ := hS hc hin
   have hB := hB hc hin
   refine g0e I (fun gk fr bx gs => ∃ (U900 : Nat → Value) (k : Nat), fr = (.v (.int .i64 n) :: aC :: .v undef :: .p 0 0 :: sw U900 4 2 (.v (.string (a0d (e0l r.cls r.neg))) :: .p 1 0 :: .v (U900 8) :: .v (.int .i64 (k : Int)) :: sw U900 10 13 (.v (.bool false) :: sw U900 24 6 (.v (.bool false) :: sw U900 31 28 []))) : List SV) ∧ bx = [aB, aA] ∧ gs = [rfF b p c (dig B16 r.x.m)] ∧ (1 ≤ k ∧ k ≤ f0f (fmt n) r.x) ∧ (gk + k = 31)) 30 (fun Al W U I => ⟨_, ⟨U, 1, rfl, rfl, rfl, (by omega), rfl⟩, I.pick [0]⟩) ?_
   rintro J0 gk0 _ _ _ ⟨U900, k, rfl, rfl, rfl, hk1, hgk⟩ hJ0 Al W I
   have B := hB k (by omega)
   refine zq I (fun Al W I => have hzW := I.bel.size; (HP k (by omega) _ W I.fa.1).out) fun Al W I => zg I (fun Al W I => (HRa k B W).out) fun Al V Iv _ hB _ kz => ?_
   rintro _ W ⟨p38, c38, q38, d38, rfl, o38, r38, hb⟩
   refine ⟨_, rfl, kz _ _ hb fun I => ?_⟩
   have I := I.rf o38 (hB _) Iv
   have I := I.rf r38 (hB _) Iv
   refine zqr I (fun Al W I => (HFt k B p38 q38 c38 d38 _ _ W I.fa.2.1 I.fa.1).out) fun Al W p44 c44 I => zcut I (some 3000012) (fun fr bx gs => ∃ (U1 : Nat → Value) (okb : Bool), fr = (.v (vI n) :: aC :: vu :: .p 0 0 :: sw U900 4 2 (.v (.string (a0d (e0l r.cls r.neg))) :: .p 1 0 :: .v (U1 8) :: .v (vI (k : Int)) :: .v (.string (a0d (e0o r k))) :: .p 2 0 :: .v (U1 12) :: .p 3 0 :: sw U1 14 9 (.v (.bool false) :: sw U1 24 6 (.v (.bool false) :: sw U1 31 26 (.v (.bool okb) :: .v (U1 58) :: [])))) : List SV) ∧ bx = [aB, aA, ⟨78, [.v (.bool ((ratX r.x k).1)), .v (vS (dig B16 (ratX r.x k).2.1) p38 c38), .v (vS (dig B16 (ratX r.x k).2.2.1) q38 d38), .v (vI ((ratX r.x k).2.2.2))], false⟩, ⟨30, [.v (vI (((b0v (fmt n) r.x k).cls : Nat) : Int)), .v (.bool ((b0v (fmt n) r.x k).neg)), .v (.bool ((b0v (fmt n) r.x k).x.neg)), .v (vS (dig B16 (b0v (fmt n) r.x k).x.m) p44 c44), .v (vI ((b0v (fmt n) r.x k).x.e))], false⟩] ∧ gs = [rfF w.heap.size p44 c44 (dig B16 (b0v (fmt n) r.x k).x.m), rfF w.heap.size q38 d38 (dig B16 (ratX r.x k).2.2.1), rfF w.heap.size p38 c38 (dig B16 (ratX r.x k).2.1), rfF b p c (dig B16 r.x.m)] ∧ (okX (fmt n) r.x k = okb)) ?_ ?_
   · intro J hJ Al W I
     rcases bTF ((((b0v (fmt n) r.x k).cls : Nat) : Int) == 2) with f49 | f49
     · refine zb I 49 ((((b0v (fmt n) r.x k).cls : Nat) : Int) == 2) (true) (f49) fun Al W I => zq I (fun Al W I => (HC k B p44 p c44 c W I.fa.1.rd I.fa.2.2.2.1.rd I.fa.2.2.2.1.cap).out) fun Al W I => ?_
       rcases bTF ((rCmp (b0v (fmt n) r.x k).x r.x) == 0) with f56 | f56
       · refine zb I 56 ((rCmp (b0v (fmt n) r.x k).x r.x) == 0) (true) (f56) fun Al W I => a0i I J fun Al W U I => hJ _ _ _ _ _ ⟨U, true, rfl, rfl, rfl, (by exact B.same.2 ⟨by have := beq_iff_eq.1 f49; omega, beq_iff_eq.1 f56⟩)⟩ (I.pick [0, 1, 2, 3])
       refine zb I 56 ((rCmp (b0v (fmt n) r.x k).x r.x) == 0) (false) (f56) fun Al W I => a0i I J fun Al W U I => hJ _ _ _ _ _ ⟨U, false, rfl, rfl, rfl, (by exact Bool.eq_false_iff.2 (fun h => bnF f56 (B.same.1 h).2))⟩ (I.pick [0, 1, 2, 3])
     refine zb I 49 ((((b0v (fmt n) r.x k).cls : Nat) : Int) == 2) (false) (f49) fun Al W I => a0i I J fun Al W U I => hJ _ _ _ _ _ ⟨U, false, rfl, rfl, rfl, (by exact Bool.eq_false_iff.2 (fun h => by have := (B.same.1 h).1; have := bnF f49; omega))⟩ (I.pick [0, 1, 2, 3])
   rintro _ _ _ ⟨U1, okb, rfl, rfl, rfl, hok⟩ Al W I
   refine zcut I (some 2000057) (fun fr bx gs => ∃ (U2 : Nat → Value) , fr = (.v (vI n) :: aC :: vu :: .p 0 0 :: sw U2 4 2 (.v (.string (a0d (e0l r.cls r.neg))) :: .p 1 0 :: .v (U2 8) :: .v (vI (k : Int)) :: .v (.string (a0d (e0o r k))) :: .p 2 0 :: .v (U2 12) :: .p 3 0 :: sw U2 14 9 (.v (.bool false) :: sw U2 24 6 (.v (.bool false) :: sw U2 31 26 (.v (.bool okb) :: .v (U2 58) :: [])))) : List SV) ∧ bx = [aB, aA, ⟨78, [.v (.bool ((ratX r.x k).1)), .v (vS (dig B16 (ratX r.x k).2.1) p38 c38), .v (vS (dig B16 (ratX r.x k).2.2.1) q38 d38), .v (vI ((ratX r.x k).2.2.2))], false⟩, ⟨30, [.v (vI (((b0v (fmt n) r.x k).cls : Nat) : Int)), .v (.bool ((b0v (fmt n) r.x k).neg)), .v (.bool ((b0v (fmt n) r.x k).x.neg)), .v (vS (dig B16 (b0v (fmt n) r.x k).x.m) p44 c44), .v (vI ((b0v (fmt n) r.x k).x.e))], false⟩] ∧ gs = [rfF w.heap.size p44 c44 (dig B16 (b0v (fmt n) r.x k).x.m), rfF w.heap.size q38 d38 (dig B16 (ratX r.x k).2.2.1), rfF w.heap.size p38 c38 (dig B16 (ratX r.x k).2.1), rfF b p c (dig B16 r.x.m)] ∧ (okX (fmt n) r.x k = false)) ?_ ?_
   · intro J hJ Al W I
     rcases bTF okb with rfl | rfl
     · refine zret I (v := fun Al => .tuple #[.string (a0d (e0o r k)), vI 0]) fun Al W I => ?_
       first | (have hc : r.cls ≠ 2 := fun h => (by have := hwb.1 (b0z.2 h); rw [this] at f23; cases f23); obtain ⟨q1, q2⟩ := e3 (fun h => absurd h hc); rw [q1, q2, hsw hc]; exact ⟨rfl, I.below⟩) | (have hkk : k = f0f (fmt n) r.x := (by rcases Nat.lt_or_ge k (f0f (fmt n) r.x) with h | h; (have := s4 k hk1.1 h; rw [this] at hok; cases hok); omega); obtain ⟨q1, q2⟩ := e3 (fun _ => hin); rw [q1, q2, hsv hc, ← hkk]; exact ⟨rfl, I.below⟩) | (obtain ⟨h1, h2⟩ := e2 hc (by simpa using hin); rw [h1, h2]; exact ⟨rfl, I.below⟩)
     exact a0i I J fun Al W U I => hJ _ _ _ _ _ ⟨U, rfl, rfl, rfl, hok⟩ (I.pick [0, 1, 2, 3])
   rintro _ _ _ ⟨U2, rfl, rfl, rfl, hok2⟩ Al W I
   refine zi I 32 .i64 ((k : Int) + 1) ((k : Int) + 1) (iwo) fun Al W I => g1c 2 I J0 fun Al W U I => hJ0 (gk0 - 1) _ _ _ _ _ ((by omega)) ⟨U, k + 1, rfl, rfl, rfl, (by have : k ≠ f0f (fmt n) r.x := fun h => (by rw [h, s3] at hok2; cases hok2); omega), (by omega)⟩ (I.pick [3])
 have hc : r.cls = 2 := b0z.1 (hwb.2 f23)
 refine zqd I (fun Al W I => (HG W I.fa.1.rd).out) (show (a0p ⟨r.x.neg, r.x.m, r.x.e⟩ (fmt n).g) = false from (by simpa using hin)) fun Al W I => zret I (v := fun Al => .tuple #[Go.Value.string (ByteArray.mk #[]), vI 4]) fun Al W I => ?_
 first | (have hc : r.cls ≠ 2 := fun h => (by have := hwb.1 (b0z.2 h); rw [this] at f23; cases f23); obtain ⟨q1, q2⟩ := e3 (fun h => absurd h hc); rw [q1, q2, hsw hc]; exact ⟨rfl, I.below⟩) | (have hkk : k = f0f (fmt n) r.x := (by rcases Nat.lt_or_ge k (f0f (fmt n) r.x) with h | h; (have := s4 k hk1.1 h; rw [this] at hok; cases hok); omega); obtain ⟨q1, q2⟩ := e3 (fun _ => hin); rw [q1, q2, hsv hc, ← hkk]; exact ⟨rfl, I.below⟩) | (obtain ⟨h1, h2⟩ := e2 hc (by simpa using hin); rw [h1, h2]; exact ⟨rfl, I.below⟩)
theorem n0g (n : Int) (s : ByteArray) (w : World) (hT : TabW w) (hP : PowW w) : Calls Tryz.prog 3 #[.int .i64 n, .string s] w fun en w' => en = .returned (.bool true) ∧ Below w.heap.size w w' := by
 have HB := fun W h h2 => hi0 (u0s W h h2)
 have HS := fun W h h2 => hi0 (n0s n s W h h2)
 have HO := fun W => hi0 (z0e n s W)
 by_cases h0 : b0m n s = 0
 · obtain ⟨hn, hs⟩ := b0l.1 h0
   have HD := fun W => hi0 (p0z n s W hn hs)
   have HR := fun p c b W hp => hi0 (n0f n s p c b W hp h0)
   rw [h0] at HO
   rw [show (fmt n).refN (a0w (fmt n) s) = refD n s from rfl] at HD
   generalize b0h n s = eo at *
   generalize b0x n s = oo at *
   generalize refD n s = r at *
   generalize (fmt n).neg (a0w (fmt n) s) = g at *
   have I := Inv.start w [tabF, powF] ⟨hT, hP, True.intro⟩
   refine a0g [.v (.int .i64 n), .v (.string s)] I Tryz.func3 ?_
   refine zq I (fun Al W I => (HS W I.fa.1 I.fa.2.1).out) fun Al W I => zq I (fun Al W I => (HO W).out) fun Al W I => zqr I (fun Al W I => (HD W).out) fun Al W p25 c25 I => zq I (fun Al W I => (HR p25 c25 _ W I.fa.1).out) fun Al W I => zq I (fun Al W I => (HB W I.fa.2.1 I.fa.2.2.1).out) fun Al W I => zb I 38 (eo == eo) (true) (beq_self_eq_true _) fun Al W I => zbin I 43 _ (fun _ _ _ _ _ => (j0x (s := oo) (r := oo) (iff_of_true rfl rfl))) fun Al W I => zrb I
 · have h1 : b0h n s = b0m n s := by unfold b0h; rw [if_neg h0]
   have h2 : b0x n s = a0d [] := by unfold b0x; rw [h1, if_neg h0]
   rw [h1, h2] at HS
   generalize b0m n s = er at *
   have I := Inv.start w [tabF, powF] ⟨hT, hP, True.intro⟩
   refine a0g [.v (.int .i64 n), .v (.string s)] I Tryz.func3 ?_
   refine zq I (fun Al W I => (HS W I.fa.1 I.fa.2.1).out) fun Al W I => zq I (fun Al W I => (HO W).out) fun Al W I => zb I 21 (er == 0) (false) (bFn h0) fun Al W I => zq I (fun Al W I => (HB W I.fa.1 I.fa.2.1).out) fun Al W I => zb I 38 (er == er) (true) (beq_self_eq_true _) fun Al W I => zbin I 43 _ (fun _ _ _ _ _ => (j0x (s := a0d []) (r := ⟨#[]⟩) (iff_of_true rfl rfl))) fun Al W I => zrb I
end Go.Proofs.YtpgomglbaacmdaaGreatDoor
