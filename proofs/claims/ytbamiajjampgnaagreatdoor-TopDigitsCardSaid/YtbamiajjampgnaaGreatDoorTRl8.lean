/- conv: FromInt. -/
import Derived.Deep.RegionHeld3
import Derived.Deep.LoopGhost
import Derived.LoopN
import Derived.Test.YtbamiajjampgnaaGreatDoorTRl1
import Derived.Test.YtbamiajjampgnaaGreatDoorTRl2
import Derived.Test.YtbamiajjampgnaaGreatDoorTRl3
import Derived.Test.YtbamiajjampgnaaGreatDoorTRl4
import Derived.Test.YtbamiajjampgnaaGreatDoorTRl5
import Derived.Test.YtbamiajjampgnaaGreatDoorTRl6
import Derived.Test.YtbamiajjampgnaaGreatDoorTRl7
set_option maxHeartbeats 8000000
set_option maxRecDepth 100000
namespace Go.Proofs.YtbamiajjampgnaaGreatDoor
open Go.RowKit Go.Slip
theorem g1r {n : Int} (h : -9223372036854775808 ≤ n ∧ n ≤ 9223372036854775807) : (dig B32 (intD n).m).length ≤ 2 ∧ -100 ≤ (intD n).e ∧ (intD n).e ≤ 100 ∧ Bare (intD n) := by
 have hl : (dig B32 n.natAbs).length ≤ 2 := (a0e a0a _ 2).2 (by unfold B32; omega)
 have h1 := j0o a0a ⟨decide (n < 0), n.natAbs, 0⟩
 have h2 := t0d ⟨decide (n < 0), n.natAbs, 0⟩ (n := 2) hl (lo := -1) (hi := 1) (by simp only; omega) (by simp only; omega) (by omega) (by omega)
 have h3 := f0e ⟨decide (n < 0), n.natAbs, 0⟩
 have e : intD n = bare ⟨decide (n < 0), n.natAbs, 0⟩ := rfl
 rw [← e] at h1 h2 h3
 simp only at h1
 exact ⟨by omega, by omega, by omega, h3⟩
theorem h0w {m : Nat} {e : Int} (h : m < 18446744073709551616) (he : 0 ≤ e ∧ e ≤ 62) : SmD (norm (m : Int) e) ∧ Bare (norm (m : Int) e) := by
 have hl : (dig B32 m).length ≤ 2 := (a0e a0a _ 2).2 (by unfold B32; omega)
 have h1 := j0o a0a ⟨false, m, e⟩
 have h2 := t0d ⟨false, m, e⟩ (n := 2) hl (lo := -1) (hi := 100) (by simp only; omega) (by simp only; omega) (by omega) (by omega)
 rw [s0n] at h1 h2
 simp only at h1
 exact ⟨⟨by omega, by omega, by omega⟩, by rw [← s0n]; exact f0e _⟩
theorem o0c (n fm way : Int) (w : World) (hr : -9223372036854775808 ≤ n ∧ n ≤ 9223372036854775807) (hT : TabW w) :
 Calls Tryz.prog 34 #[.int .i64 n, .int .i64 fm, .int .i64 way] w (s0l fm way [] ((fmt fm).numM (intD n) way) w) := by
 unfold s0l
 by_cases hok : IsFm fm ∧ 1 ≤ way ∧ way ≤ 5
 · obtain ⟨hn, hw⟩ := hok
   have h0 : errR fm way [] = 0 := by unfold errR; rw [if_pos hn, if_pos (show errL fm [] = 0 from rfl), if_pos hw]
   simp only [h0, if_true]
   have HO := fun W => hi0 (x0q fm way W hn hw)
   have RS : ResF (fmt fm) ((fmt fm).numM (intD n) way).1 := g1h (b0w hn) _ _
   obtain ⟨b1, b2, b3, b4⟩ := g1r hr
   have HNU := fun (x : Dv) (hx : x = intD n) W p c u (h1 : Bt W u 223 #[.int .i64 fm, .int .i64 way, .int .i64 (fmt fm).g.rad, .int .i64 (fmt fm).g.digs, .int .i64 (fmt fm).g.lo, .int .i64 (fmt fm).g.hi, .bool (fmt fm).g.grad, .int .u8 (famB (fmt fm)), .int .i64 0]) (h2 : Rd W .u32 p (dig B32 x.m)) => hi0 (show Calls Tryz.prog 92 #[.pointer (some ⟨u, 0, none⟩), .agg #[.bool x.neg, .slice p (dig B32 x.m).length c, .int .i64 x.e]] W (l0l (fmt fm) fm way u W W.heap.size ((fmt fm).numM (intD n) way)) from by
     subst hx; exact k1n (fmt fm) fm way _ p c u W h1 h2 (by omega) (by omega) (b0w hn) hw)
   obtain ⟨rS, flS, hS⟩ : ∃ rS flS, (fmt fm).numM (intD n) way = (rS, flS) := ⟨_, _, rfl⟩
   rw [hS] at HNU RS ⊢
   have HTL := fun W (v : Vl) p c b u h1 h2 h3 h4 => hi0 (g1g fm way (flS : Int) ⟨v, p, c⟩ rS b u W h1 h2 hn h3 RS h4)
   rw [show a0c ((fmt fm).strP ((fmt fm).encP rS.cls rS.neg rS.x)) = strR fm rS from rfl] at HTL
   clear hS RS h0
   generalize strR fm rS = str at *
   generalize fmt fm = f at *
   -- the lower bits
   obtain ⟨N1, hN1⟩ : ∃ N1 : Nat, (N1 : Int) = n % 4611686018427387904 := ⟨(n % 4611686018427387904).toNat, by omega⟩
   have HW := fun (m : Nat) (e : Int) (hm : m < 18446744073709551616) (he : 0 ≤ e ∧ e ≤ 62) W p c h1 h2 h3 => hi0 ((s0n m e) ▸ n0i p _ c e m W h1 rfl h2 (by have : (dig B32 m).length ≤ 2 := (a0e a0a _ 2).2 (by unfold B32; omega); omega) (by omega) h3)
   have HPL := fun (m k : Nat) (e : Int) (hm : m < 18446744073709551616) (hk : k < 18446744073709551616) (he : 0 ≤ e ∧ e ≤ 62) W p q c d b h1 h2 h3 h4 => hi0 (v0f (norm (m : Int) e) (norm (k : Int) 0) p q c d b W (h0w hm he).2 (h0w hk (by omega)).2 (h0w hm he).1 (h0w hk (by omega)).1 h1 h2 h3 h4)
   have HPR := fun (m k : Nat) (hm : m < 18446744073709551616) (hk : k < 18446744073709551616) W p q c d b h1 h2 h3 h4 => hi0 (v0f (norm (m : Int) 0) (norm (k : Int) 62) p q c d b W (h0w hm (by omega)).2 (h0w hk (by omega)).2 (h0w hm (by omega)).1 (h0w hk (by omega)).1 h1 h2 h3 h4)
   have hI : ∀ z : Int, norm z 0 = intD z := fun _ => rfl
   have eP : ∀ m : Nat, (m : Int) < 4611686018427387904 → (m : Int) = n → norm (m : Int) 0 = intD n := fun m _ h => by rw [h]; rfl
   have e2 : ∀ a b : Nat, (a : Int) * 2 + b = -n → c0v (e0r (norm (a : Int) 1) (norm (b : Int) 0)) = intD n := fun a b h => by
    have := l0m a b 1 0
    simp only [Int.natCast_one, Int.natCast_zero, Int.pow_succ, Int.pow_zero, Int.one_mul, Int.mul_one] at this
    rw [this, x0g, h, Int.neg_neg]
    rfl
   have e3 : ∀ m : Nat, (m : Int) + 4611686018427387904 = n → e0r (norm (m : Int) 0) (norm ((1 : Nat) : Int) 62) = intD n := fun m h => by
    have := l0m m 1 0 62
    simp only [Int.natCast_zero, Int.pow_zero, Int.mul_one] at this
    rw [show ((1 : Nat) : Int) = 1 from rfl, show (62 : Int) = ((62 : Nat) : Int) from rfl, this, show (m : Int) + 1 * 2 ^ 62 = n by omega]
    rfl
   have hN2 : (N1 : Int) < 4611686018427387904 ∧ 0 ≤ (N1 : Int) := by omega
   have HAND := hi0 ((s1t n).trans hN1.symm)
   have td : n < 0 → n.tdiv 2 = -((-n) / 2) ∧ n.tmod 2 = -((-n) % 2) := fun h => by
    have a1 := Int.neg_tdiv (-n) 2
    have a2 := Int.neg_tmod (-n) 2
    rw [Int.neg_neg] at a1 a2
    rw [a1, a2, Int.tdiv_eq_ediv_of_nonneg (by omega), Int.tmod_eq_emod_of_nonneg (by omega)]
    exact ⟨rfl, rfl⟩
   obtain ⟨qa, hqa⟩ : ∃ qa : Nat, n < 0 → (qa : Int) = -(n.tdiv 2) := ⟨(-(n.tdiv 2)).toNat, fun h => by have := td h; omega⟩
   obtain ⟨qb, hqb⟩ : ∃ qb : Nat, n < 0 → (qb : Int) = -(n.tmod 2) := ⟨(-(n.tmod 2)).toNat, fun h => by have := td h; omega⟩
   have hq3 : n < 0 → (qa : Int) * 2 + qb = -n := fun h => by have := hqa h; have := hqb h; have := td h; omega
   have I := Inv.start w [tabF] ⟨hT, True.intro⟩
   refine a0g [.v (.int .i64 n), .v (.int .i64 fm), .v (.int .i64 way)] I Tryz.func34 ?_
   refine zg I (fun Al W I => (HO W).out) fun Al V Iv _ hB _ kz => ?_
   rintro _ W ⟨u15, rfl, hge, hB, hb⟩
   refine ⟨_, rfl, kz _ _ hb fun I => ?_⟩
   refine n1s Iv hb 0 u15 223 [(.int .i64 fm), (.int .i64 way), (.int .i64 f.g.rad), (.int .i64 f.g.digs), (.int .i64 f.g.lo), (.int .i64 f.g.hi), (.bool f.g.grad), (.int .u8 (famB f)), (.int .i64 0)] hge hB fun Al hAl_15 I => ?_
   refine n1t I 16 0 u15 hAl_15 fun Al W I => zbin I 22 _ (fun _ _ _ _ _ => l0a .i64 (n) (4611686018427387903) ((N1 : Int)) ((HAND.out))) fun Al W I => zqo I (fun Al W I => have hzW := I.bel.size; sof (N1 : Int) N1 rfl (by omega) W) fun Al W p23 c23 I => zqo I (fun Al W I => have hzW := I.bel.size; (HW N1 0 (by omega) (by omega) W p23 c23 I.fa.1.rd I.fa.1.le_cap I.fa.2.1).out) fun Al W p24 c24 I => ?_
   by_cases hneg : n < 0
   · refine zb I 26 (decide (n < 0)) (true) (dTr hneg) fun Al W I => zbin I 28 _ (fun _ _ _ _ _ => k0z .i64 (n) (2) ((n.tdiv 2)) (by omega) ((by exact IntWalk.i64_in _ (by have := td hneg; omega)))) fun Al W I => zi I 29 .i64 (0 - (n.tdiv 2)) (-(n.tdiv 2)) ((iwo).trans (by omega)) fun Al W I => zqo I (fun Al W I => have hzW := I.bel.size; sof _ qa (by first | exact (hqa hneg).symm | omega) (by have := hqa hneg; have := td hneg; omega) W) fun Al W p30 c30 I => zqo I (fun Al W I => have hzW := I.bel.size; (HW qa 1 (by have := hqa hneg; have := td hneg; omega) (by omega) W p30 c30 I.fa.1.rd I.fa.1.le_cap I.fa.2.2.2.1).out) fun Al W p31 c31 I => zbin I 33 _ (fun _ _ _ _ _ => w0f .i64 (n) (2) ((n.tmod 2)) (by omega) (rfl)) fun Al W I => zi I 34 .i64 (0 - (n.tmod 2)) (-(n.tmod 2)) ((iwo).trans (by omega)) fun Al W I => zqo I (fun Al W I => have hzW := I.bel.size; sof _ qb (by first | exact (hqb hneg).symm | omega) (by have := hqb hneg; have := td hneg; omega) W) fun Al W p35 c35 I => zqo I (fun Al W I => have hzW := I.bel.size; (HW qb 0 (by have := hqb hneg; have := td hneg; omega) (by omega) W p35 c35 I.fa.1.rd I.fa.1.le_cap I.fa.2.2.2.2.2.1).out) fun Al W p36 c36 I => zqo I (fun Al W I => have hzW := I.bel.size; (HPL qa qb 1 (by have := hqa hneg; have := td hneg; omega) (by have := hqb hneg; have := td hneg; omega) (by omega) W p31 p36 c31 c36 _ I.fa.2.2.1 I.fa.1 I.fa.2.2.2.2.2.2.1 I.bel.size).out) fun Al W p37 c37 I => zq I (fun Al W I => w0s (e0r (norm (qa : Int) 1) (norm (qb : Int) 0)).neg p37 _ c37 (e0r (norm (qa : Int) 1) (norm (qb : Int) 0)).e (e0r (norm (qa : Int) 1) (norm (qb : Int) 0)).m W rfl) fun Al W I => zge I 0 223 (fun Al W I => (HNU _ (e2 qa qb (hq3 hneg)) W p37 c37 _ (I.box 0 223 _) I.fa.1.rd).out) fun Al V Iv _ _ kz => ?_
     rintro _ W ⟨v48, hR48, p48, c48, rfl, o48, hO, hB⟩
     refine ⟨_, rfl, kz _ (uS f fm way (flS : Int)) _ hO hB fun I => ?_⟩
     have I := I.own o48
     refine zq I (fun Al W I => (HTL W v48 p48 c48 _ _ (I.box 0 223 _) I.fa.1 hR48 I.fa.2.2.2.2.2.2.2.2.1).out) fun Al W I => zrb I
   refine zb I 26 (decide (n < 0)) (false) (dFa hneg) fun Al W I => ?_
   by_cases hbig : n ≥ 4611686018427387904
   · refine zb I 40 (decide (n ≥ 4611686018427387904)) (true) (dTr hbig) fun Al W I => zcut I none (fun fr bx gs => ∃ (U1 : Nat → Value) (p44 : OA) (c44 : Nat), fr = (.v (vI n) :: .v (vI fm) :: .v (vI way) :: su 3 (.v (Go.Value.string (ByteArray.mk #[])) :: .v (vI 0) :: .v (vI 0) :: .p 0 0 :: .v (vI 0) :: .p 1 0 :: sw U1 12 7 (.v (.bool false) :: sw U1 20 6 (.v (.bool false) :: sw U1 27 13 (.v (.bool true) :: sw U1 41 12 [])))) : List SV) ∧ bx = [⟨223, (uS f fm way 0), false⟩, ⟨150, [.v (.bool ((e0r (norm (N1 : Int) 0) (norm ((1 : Nat) : Int) 62)).neg)), .v (vS (dig B32 (e0r (norm (N1 : Int) 0) (norm ((1 : Nat) : Int) 62)).m) p44 c44), .v (vI ((e0r (norm (N1 : Int) 0) (norm ((1 : Nat) : Int) 62)).e))], false⟩] ∧ gs = [ownF w.heap.size .u32 143 p44 c44 (dig B32 (e0r (norm (N1 : Int) 0) (norm ((1 : Nat) : Int) 62)).m), ownF w.heap.size .u32 143 p24 c24 (dig B32 (norm (N1 : Int) 0).m), ownF w.heap.size .u32 143 p23 c23 (dig B32 N1), tabF]) ?_ ?_
     · intro J hJ Al W I
       refine zd [1] I fun Al W I => zo2 0 1 I (fun I => ?_) (fun I => ?_)
       · refine zn I fun Al W I => zo 1 I fun I => zqo I (fun Al W I => r0r W) fun Al W p42 c42 I => zo 2 I fun I => zqo I (fun Al W I => have hzW := I.bel.size; (HW 1 62 (by omega) (by omega) W p42 c42 I.fa.1.rd I.fa.1.le_cap I.fa.2.2.2.1).out) fun Al W p43 c43 I => zo 3 I fun I => zqo I (fun Al W I => have hzW := I.bel.size; (HPR N1 1 (by omega) (by omega) W p24 p43 c24 c43 _ I.fa.2.2.1 I.fa.1 I.fa.2.2.2.2.1 I.bel.size).out) fun Al W p44 c44 I => zo 4 I fun I => zn I fun Al W I => a0r I J fun Al W U I => hJ _ _ _ _ _ ⟨U, p44, c44, rfl, rfl, rfl⟩ (I.pick [0, 3, 4, 5])
       refine zqo I (fun Al W I => r0r W) fun Al W p42 c42 I => zo2 0 2 I (fun I => ?_) (fun I => ?_)
       · refine zn I fun Al W I => zo 2 I fun I => zqo I (fun Al W I => have hzW := I.bel.size; (HW 1 62 (by omega) (by omega) W p42 c42 I.fa.1.rd I.fa.1.le_cap I.fa.2.2.2.1).out) fun Al W p43 c43 I => zo 3 I fun I => zqo I (fun Al W I => have hzW := I.bel.size; (HPR N1 1 (by omega) (by omega) W p24 p43 c24 c43 _ I.fa.2.2.1 I.fa.1 I.fa.2.2.2.2.1 I.bel.size).out) fun Al W p44 c44 I => zo 4 I fun I => zn I fun Al W I => a0r I J fun Al W U I => hJ _ _ _ _ _ ⟨U, p44, c44, rfl, rfl, rfl⟩ (I.pick [0, 3, 4, 5])
       refine zqo I (fun Al W I => have hzW := I.bel.size; (HW 1 62 (by omega) (by omega) W p42 c42 I.fa.1.rd I.fa.1.le_cap I.fa.2.2.2.1).out) fun Al W p43 c43 I => zo 0 I fun I => zn I fun Al W I => zo 3 I fun I => zqo I (fun Al W I => have hzW := I.bel.size; (HPR N1 1 (by omega) (by omega) W p24 p43 c24 c43 _ I.fa.2.2.1 I.fa.1 I.fa.2.2.2.2.1 I.bel.size).out) fun Al W p44 c44 I => zo 4 I fun I => zn I fun Al W I => a0r I J fun Al W U I => hJ _ _ _ _ _ ⟨U, p44, c44, rfl, rfl, rfl⟩ (I.pick [0, 3, 4, 5])
     rintro _ _ _ ⟨U1, p44, c44, rfl, rfl, rfl⟩ Al W I
     refine zge I 0 223 (fun Al W I => have hzW := I.bel.size; (HNU _ (e3 N1 (by omega)) W p44 c44 _ (I.box 0 223 _) I.fa.1.rd).out) fun Al V Iv _ _ kz => ?_
     rintro _ W ⟨v48, hR48, p48, c48, rfl, o48, hO, hB⟩
     refine ⟨_, rfl, kz _ (uS f fm way (flS : Int)) _ hO hB fun I => ?_⟩
     have I := I.own o48
     refine zq I (fun Al W I => (HTL W v48 p48 c48 _ _ (I.box 0 223 _) I.fa.1 hR48 I.fa.2.2.2.2.1).out) fun Al W I => zrb I
   refine zb I 40 (decide (n ≥ 4611686018427387904)) (false) (dFa hbig) fun Al W I => zge I 0 223 (fun Al W I => have hzW := I.bel.size; (HNU _ (eP N1 (by omega) (by omega)) W p24 c24 _ (I.box 0 223 _) I.fa.1.rd).out) fun Al V Iv _ _ kz => ?_
   rintro _ W ⟨v48, hR48, p48, c48, rfl, o48, hO, hB⟩
   refine ⟨_, rfl, kz _ (uS f fm way (flS : Int)) _ hO hB fun I => ?_⟩
   have I := I.own o48
   refine zq I (fun Al W I => (HTL W v48 p48 c48 _ _ (I.box 0 223 _) I.fa.1 hR48 I.fa.2.2.2.1).out) fun Al W I => zrb I
 · have h0 : errR fm way [] = 6 := by
    unfold errR
    by_cases hn : IsFm fm
    · rw [if_pos hn, if_pos (show errL fm [] = 0 from rfl), if_neg (fun h => hok ⟨hn, h⟩)]
    · rw [if_neg hn]
   simp only [h0, show ((6 : Int) = 0) = False by simp, if_false]
   have HO := fun W => hi0 (z0e fm way W hok)
   have I := Inv.start w [] True.intro
   refine a0g [.v (.int .i64 n), .v (.int .i64 fm), .v (.int .i64 way)] I Tryz.func34 ?_
   refine zq I (fun Al W I => (HO W).out) fun Al W I => zrb I
def x0s (v : Nat) (neg : Bool) : Int × Bool := if v < 9223372036854775808 then (if neg = true then -(v : Int) else v, true) else (-9223372036854775808, neg && decide (v = 9223372036854775808))
theorem p1b {v i : Nat} (hi : i < 2) : bits .or .u64 (((v % B32 ^ i : Nat) : Int)) (((v / B32 ^ i % B32 * 2 ^ (32 * i) : Nat)) : Int) = ((v % B32 ^ (i + 1) : Nat) : Int) := by
 have hB : B32 = 4294967296 := rfl
 have hx : v / B32 ^ i % B32 < B32 := Nat.mod_lt _ (by unfold B32; omega)
 rcases (show i = 0 ∨ i = 1 by omega) with rfl | rfl
 · simp only [Nat.pow_zero, Nat.mod_one, Nat.div_one, Nat.mul_zero, Nat.mul_one, Nat.zero_add, Nat.pow_one]
   rw [u64_or_nat 0 (v % B32) (by omega) (by rw [hB]; omega), Nat.zero_or]
 · simp only [Nat.pow_one, Nat.mul_one]
   have h1 : v % B32 < 4294967296 := by rw [hB]; omega
   have h2 : v / B32 % B32 * 2 ^ 32 < 18446744073709551616 := by rw [hB]; omega
   rw [u64_or_nat _ _ (by omega) h2, Nat.or_comm, nat_join 32 (v / B32 % B32 * 2 ^ 32) (v % B32) (by omega) (by omega)]
   have : v % B32 ^ (1 + 1) = v % B32 + B32 * (v / B32 % B32) := by
    rw [show (1 + 1) = 2 from rfl, Nat.pow_two, Nat.mod_mul]
   rw [this, hB]
   omega
theorem p1c {v i : Nat} : dg (dig B32 v) i = v / B32 ^ i % B32 := r1k a0a v i
theorem x0t (p : OA) (c : Nat) (v : Nat) (neg : Bool) (w : World) (hp : Rd w .u32 p (dig B32 v)) (hv : v < 18446744073709551616) :
 Calls Tryz.prog 101 #[.slice p (dig B32 v).length c, .bool neg] w fun en w' => en = .returned (.tuple #[.int .i64 (x0s v neg).1, .bool (x0s v neg).2]) ∧ Below w.heap.size w w' := by
 have hl : (dig B32 v).length ≤ 2 := (a0e a0a _ 2).2 (by unfold B32; omega)
 have HL := fun W h => hi0 (stay (g0u p _ c v W h rfl (by omega)))
 have hbl : blen v < 64 ↔ v < 9223372036854775808 := by
  have := a0u v 63
  omega
 have hfull : v % B32 ^ (dig B32 v).length = v := Nat.mod_eq_of_lt ((a0e a0a v _).1 (Nat.le_refl _))
 have hstep : ∀ i, i < (dig B32 v).length → bits .or .u64 (((v % B32 ^ i : Nat) : Int)) (((dg (dig B32 v) i * 2 ^ (32 * i) : Nat)) : Int) = ((v % B32 ^ (i + 1) : Nat) : Int) := fun i h => by rw [p1c]; exact p1b (by omega)
 have hsh : ∀ i, i < (dig B32 v).length → IntKind.u64.wrap (((dg (dig B32 v) i : Nat) : Int) * 2 ^ (min (32 * (i : Int)).toNat IntKind.u64.bits)) = ((dg (dig B32 v) i * 2 ^ (32 * i) : Nat) : Int) := fun i h => by
  have hx : dg (dig B32 v) i < 4294967296 := by rw [p1c]; exact Nat.mod_lt _ (by unfold B32; omega)
  rcases (show i = 0 ∨ i = 1 by omega) with rfl | rfl
  · simp only [Nat.mul_zero, Nat.pow_zero, Nat.mul_one]
    rw [show min (32 * ((0 : Nat) : Int)).toNat IntKind.u64.bits = 0 from rfl, Int.pow_zero, Int.mul_one]
    exact IntWalk.u64_in _ (by omega)
  · rw [show min (32 * ((1 : Nat) : Int)).toNat IntKind.u64.bits = 32 from rfl, Nat.mul_one]
    rw [IntWalk.u64_in _ (by omega)]
    simp
 have HU : ∀ X : Int, 0 ≤ X → X < 9223372036854775808 → IntKind.i64.wrap X = X := fun X h1 h2 => iwo
 have hM : x0s v neg = if v < 9223372036854775808 then (if neg = true then -(v : Int) else v, true) else (-9223372036854775808, neg && decide (v = 9223372036854775808)) := rfl
 have hdg : ∀ i, dg (dig B32 v) i < 4294967296 := fun i => by rw [p1c]; exact Nat.mod_lt _ (by unfold B32; omega)
 generalize blen v = bl at *
 have I := Inv.start w [rdF .u32 p (dig B32 v)] ⟨hp, True.intro⟩
 refine a0g [.v (.slice p (dig B32 v).length c), .v (.bool neg)] I Tryz.func101 ?_
 refine o0h I (fun gk fr bx gs => ∃ (U900 : Nat → Value) (i : Nat) (u : Nat), fr = (.v (.slice p (dig B32 v).length c) :: .v (.bool neg) :: su 2 (.v (.int .i64 0) :: .v (.bool false) :: .v (.int .u64 (u : Int)) :: sw U900 7 2 (.v (.slice p (dig B32 v).length c) :: .v (.int .i64 (((dig B32 v).length : Nat) : Int)) :: .v (.int .i64 (i : Int)) :: sw U900 12 12 (.v undef :: sw U900 25 9 (.v undef :: sw U900 35 10 [])))) : List SV) ∧ bx = [] ∧ gs = [rdF .u32 p (dig B32 v)] ∧ (u = v % B32 ^ i) ∧ (gk + i = (dig B32 v).length)) ((dig B32 v).length) (fun Al W U I => ⟨_, ⟨U, 0, 0, rfl, rfl, rfl, (by rw [Nat.pow_zero, Nat.mod_one]), (by omega)⟩, I.pick [0]⟩) ?_
 rintro J0 gk0 _ _ _ ⟨U900, i, u, rfl, rfl, rfl, hu, hgk⟩ hJ0 Al W I
 rcases bTF (decide ((i : Int) < (((dig B32 v).length : Nat) : Int))) with f12 | f12
 · refine zb I 12 (decide ((i : Int) < (((dig B32 v).length : Nat) : Int))) (true) (f12) fun Al W I => zx I 14 (fun _ => .pointer (some (at_ p i))) (fun Al W I => (j0n (m := i) (n := (dig B32 v).length) (c := c) a1o I.fa.1.solid (by have := oTr f12; omega))) fun Al W I => zx I 15 (fun _ => .int .u32 ((dg (dig B32 v) i : Nat) : Int)) (fun Al W I => (p0o I.fa.1 r1a (by have := oTr f12; omega))) fun Al W I => zi I 18 .u64 ((dg (dig B32 v) i : Nat) : Int) (((dg (dig B32 v) i : Nat) : Int)) ((by exact IntWalk.u64_in _ (by have := hdg i; omega))) fun Al W I => zi I 20 .i64 ((32 : Int) * (i : Int)) ((32 : Int) * (i : Int)) (iwo) fun Al W I => zbin I 21 _ (fun _ _ _ _ _ => f0i .u64 (((dg (dig B32 v) i : Nat) : Int)) .i64 ((32 : Int) * (i : Int)) (((dg (dig B32 v) i * 2 ^ (32 * i) : Nat) : Int)) (by omega) ((hsh i (by have := oTr f12; omega)))) fun Al W I => zbin I 22 _ (fun _ _ _ _ _ => c1z .u64 (u : Int) (((dg (dig B32 v) i * 2 ^ (32 * i) : Nat) : Int)) (((v % B32 ^ (i + 1) : Nat) : Int)) ((by rw [hu]; exact hstep i (by have := oTr f12; omega)))) fun Al W I => zi I 23 .i64 ((i : Int) + 1) ((i : Int) + 1) (iwo) fun Al W I => a0r I J0 fun Al W U I => hJ0 (gk0 - 1) _ _ _ _ _ ((by have := oTr f12; omega)) ⟨U, i + 1, v % B32 ^ (i + 1), rfl, rfl, rfl, rfl, (by have := oTr f12; omega)⟩ (I.pick [0])
 refine zb I 12 (decide ((i : Int) < (((dig B32 v).length : Nat) : Int))) (false) (f12) fun Al W I => ?_
 by_cases hs : v < 9223372036854775808
 · by_cases ng : neg = true
   · have hi : i = (dig B32 v).length := by have := oFa f12; omega
     rw [hi, hfull] at hu
     refine zq I (fun Al W I => (HL W I.fa.1).out) fun Al W I => zb I 27 (decide ((bl : Int) < 64)) (true) (dTr (by omega)) fun Al W I => zb I 29 (neg) (true) (ng) fun Al W I => zi I 32 .i64 (u : Int) (u : Int) (iwo) fun Al W I => zi I 33 .i64 (0 - (u : Int)) (-(u : Int)) ((iwo).trans (by omega)) fun Al W I => zret I (v := fun Al => .tuple #[vI (-(u : Int)), .bool true]) fun Al W I => ⟨by rw [hM, if_pos hs, if_pos ng, hu], I.below⟩
   have hi : i = (dig B32 v).length := by have := oFa f12; omega
   rw [hi, hfull] at hu
   refine zq I (fun Al W I => (HL W I.fa.1).out) fun Al W I => zb I 27 (decide ((bl : Int) < 64)) (true) (dTr (by omega)) fun Al W I => zb I 29 (neg) (false) ((by simpa using ng)) fun Al W I => zq I (fun Al W I => (HL W I.fa.1).out) fun Al W I => zb I 37 (decide ((bl : Int) < 64)) (true) (dTr (by omega)) fun Al W I => zi I 39 .i64 (u : Int) (u : Int) (iwo) fun Al W I => zret I (v := fun Al => .tuple #[vI (u : Int), .bool true]) fun Al W I => ⟨by rw [hM, if_pos hs, if_neg ng, hu], I.below⟩
 by_cases ng : neg = true
 · have hi : i = (dig B32 v).length := by have := oFa f12; omega
   rw [hi, hfull] at hu
   refine zq I (fun Al W I => (HL W I.fa.1).out) fun Al W I => zb I 27 (decide ((bl : Int) < 64)) (false) (dFa (by omega)) fun Al W I => zq I (fun Al W I => (HL W I.fa.1).out) fun Al W I => zb I 37 (decide ((bl : Int) < 64)) (false) (dFa (by omega)) fun Al W I => zb I 41 (neg) (true) (ng) fun Al W I => zret I (v := fun Al => .tuple #[vI (-9223372036854775808), .bool ((u : Int) == 9223372036854775808)]) fun Al W I => ⟨by rw [hM, if_neg hs, ng, Bool.true_and, hu]; exact congrArg (fun b => Ending.returned (.tuple #[vI (-9223372036854775808), .bool b])) (Bool.eq_iff_iff.2 (by simp; omega)), I.below⟩
 have hi : i = (dig B32 v).length := by have := oFa f12; omega
 rw [hi, hfull] at hu
 refine zq I (fun Al W I => (HL W I.fa.1).out) fun Al W I => zb I 27 (decide ((bl : Int) < 64)) (false) (dFa (by omega)) fun Al W I => zq I (fun Al W I => (HL W I.fa.1).out) fun Al W I => zb I 37 (decide ((bl : Int) < 64)) (false) (dFa (by omega)) fun Al W I => zb I 41 (neg) (false) ((by simpa using ng)) fun Al W I => zret I (v := fun Al => .tuple #[vI (-9223372036854775808), .bool false]) fun Al W I => ⟨by rw [hM, if_neg hs, show neg = false by simpa using ng]; rfl, I.below⟩
def e0l : Gd := ⟨2, 64, 0, 0, true⟩
theorem v0j : d0r e0l := ⟨.inl rfl, by decide, by decide, by decide, by decide, by decide, by decide, by decide⟩
def v0k (x : Dv) (way : Int) : Int × Nat :=
 if (x0s (a0h x.neg x.m 1 x.e e0l way).d (a0h x.neg x.m 1 x.e e0l way).neg).2 = true ∧ (a0h x.neg x.m 1 x.e e0l way).over = false then
  ((x0s (a0h x.neg x.m 1 x.e e0l way).d (a0h x.neg x.m 1 x.e e0l way).neg).1, if (a0h x.neg x.m 1 x.e e0l way).exact = true then 0 else 1) else (0, 16)
def o0d (r : Vr) (way : Int) : Int × Nat := if r.cls = 1 then (0, 0) else if r.cls ≠ 2 then (0, 16) else v0k r.x way
def z0k (n way : Int) (s : ByteArray) (w : World) (en : Ending) (w' : World) : Prop :=
 en = .returned (.tuple #[.int .i64 (if errR n way [s] = 0 then (o0d (refD n s) way).1 else 0), .int .i64 (if errR n way [s] = 0 then ((o0d (refD n s) way).2 : Int) else 0), .int .i64 (errR n way [s])]) ∧ Below w.heap.size w w'
theorem v0l (n way : Int) (s : ByteArray) (w : World) (hT : TabW w) : Calls Tryz.prog 40 #[.int .i64 n, .string s, .int .i64 way] w (z0k n way s w) := by
 unfold z0k
 have HD := fun W h => hi0 (l0i n s W h)
 by_cases hp : b0m n s = 0
 · have hn := (b0q.1 hp).1
   have hL : errL n [s] = 0 := by unfold errL errL; simp [hp]
   rw [hp] at HD
   by_cases hw : 1 ≤ way ∧ way ≤ 5
   · have h0 : errR n way [s] = 0 := by unfold errR; rw [if_pos hn, if_pos hL, if_pos hw]
     simp only [h0, if_true]
     have HO := fun W => hi0 (x0q n way W hn hw)
     have F := o0a (s := s) hn
     have V := i0g hp
     have HX := fun W p c b h1 h2 => hi0 (k1t n (decP n s) (refD n s) p c b W hn h1 V F.ok h2)
     have hcl := V.cls
     have hc := F.ok.c
     have hx2 := F.ok.x2
     have sm := F.ok.sm
     have hT0 : o0d (refD n s) way = if (refD n s).cls = 1 then (0, 0) else if (refD n s).cls ≠ 2 then (0, 16) else v0k (refD n s).x way := rfl
     generalize o0d (refD n s) way = TT at *
     generalize decP n s = v at *
     generalize refD n s = r at *
     generalize fmt n = f at *
     have s1 := sm.len
     have s2 := sm.lo
     have s3 := sm.hi
     have d1 : (dig B32 1).length ≤ 1 := by rw [n0k a0a (by omega) (by unfold B32; omega)]; simp
     have HF := fun (h : r.cls = 2) W p q c d h1 h2 => hi0 (n0y r.x.neg p q c d r.x.m 1 r.x.e e0l way W h1 h2 (by omega) (by omega) (by have := (hx2 h).1; omega) (by omega) (by omega) v0j hw.1 hw.2)
     have hlt : r.cls = 2 → (a0h r.x.neg r.x.m 1 r.x.e e0l way).d < 18446744073709551616 := fun h => by
      have h0 := (hx2 h).1
      unfold a0h
      rw [if_neg h0]
      exact y0m (show 0 < 1 by omega) v0j (h0o (by omega) (by omega) _ (b0f _).1 (by decide))
     unfold v0k at hT0
     generalize a0h r.x.neg r.x.m 1 r.x.e e0l way = P at *
     have HMa := fun (h : r.cls = 2) W p c h1 => hi0 (x0t p c P.d P.neg W h1 (hlt h))
     obtain ⟨mi, mb, hm⟩ : ∃ mi mb, x0s P.d P.neg = (mi, mb) := ⟨_, _, rfl⟩
     rw [hm] at HMa hT0
     simp only at HMa hT0
     clear hm hlt F V sm
     have I := Inv.start w [tabF] ⟨hT, True.intro⟩
     refine a0g [.v (.int .i64 n), .v (.string s), .v (.int .i64 way)] I Tryz.func40 ?_
     refine zqo I (fun Al W I => (HD W I.fa.1).out) fun Al W p22 c22 I => zg I (fun Al W I => (HO W).out) fun Al V Iv _ hB _ kz => ?_
     rintro _ W ⟨u31, rfl, hge, hB, hb⟩
     refine ⟨_, rfl, kz _ _ hb fun I => ?_⟩
     by_cases h1 : r.cls = 1
     · refine zb I 39 ((v.cls : Int) == 1) (true) (dTr (by omega)) fun Al W I => zret I (v := fun Al => .tuple #[vI 0, vI 0, vI 0]) fun Al W I => ⟨by rw [hT0, if_pos h1]; rfl, I.below⟩
     refine zb I 39 ((v.cls : Int) == 1) (false) (dFa (by omega)) fun Al W I => ?_
     by_cases h2 : r.cls = 2
     · refine zb I 42 ((v.cls : Int) != 2) (false) (bne_eq_false_iff_eq.2 (by omega)) fun Al W I => zqo I (fun Al W I => (HX W p22 c22 _ I.fa.1 I.fa.2.1).out) fun Al W p45 c45 I => zd [] I fun Al W I => zk [0, 1, 2, 3, 4, 5, 7, 8, 9, 11, 12] I fun I => zo2 6 14 I (fun I => ?_) (fun I => ?_)
       · refine zqo I (fun Al W I => r0r W) fun Al W p53 c53 I => zk [10] I fun I => zo2 13 14 I (fun I => ?_) (fun I => ?_)
         · refine zqo I (fun Al W I => (HF h2 W p45 p53 c45 c53 I.fa.2.1.rd I.fa.1.rd).out) fun Al W p60 c60 I => zo 14 I fun I => zn I fun Al W I => zo 15 I fun I => zn I fun Al W I => zq I (fun Al W I => (HMa h2 W p60 c60 I.fa.1.rd).out) fun Al W I => ?_
           by_cases hmb : mb = true
           · by_cases hov : P.over = true
             · refine zb I 70 (mb) (true) (hmb) fun Al W I => zb I 72 (P.over) (true) (hov) fun Al W I => zret I (v := fun Al => .tuple #[vI 0, vI 16, vI 0]) fun Al W I => ?_
               first | exact ⟨by rw [hT0, if_pos h1]; rfl, I.below⟩ | exact ⟨by rw [hT0, if_neg h1, if_pos h2]; rfl, I.below⟩ | exact ⟨by rw [hT0, if_neg h1, if_neg (by omega), if_neg (fun h => hmb h.1)]; rfl, I.below⟩ | exact ⟨by rw [hT0, if_neg h1, if_neg (by omega), if_neg (fun h => absurd (h.2.symm.trans hov) (by decide))]; rfl, I.below⟩
             refine zb I 70 (mb) (true) (hmb) fun Al W I => zb I 72 (P.over) (false) ((by simpa using hov)) fun Al W I => ?_
             by_cases hex : P.exact = true
             · refine zb I 76 (P.exact) (true) (hex) fun Al W I => zret I (v := fun Al => .tuple #[vI mi, vI 0, vI 0]) fun Al W I => ?_
               first | exact ⟨by rw [hT0, if_pos h1]; rfl, I.below⟩ | exact ⟨by rw [hT0, if_neg h1, if_pos h2]; rfl, I.below⟩ | exact ⟨by rw [hT0, if_neg h1, if_neg (by omega), if_neg (fun h => hmb h.1)]; rfl, I.below⟩ | exact ⟨by rw [hT0, if_neg h1, if_neg (by omega), if_neg (fun h => absurd (h.2.symm.trans hov) (by decide))]; rfl, I.below⟩ | exact ⟨by rw [hT0, if_neg h1, if_neg (by omega), if_pos ⟨hmb, by simpa using hov⟩, if_pos hex]; rfl, I.below⟩ | exact ⟨by rw [hT0, if_neg h1, if_neg (by omega), if_pos ⟨hmb, by simpa using hov⟩, if_neg hex]; rfl, I.below⟩
             refine zb I 76 (P.exact) (false) ((by simpa using hex)) fun Al W I => zret I (v := fun Al => .tuple #[vI mi, vI 1, vI 0]) fun Al W I => ?_
             first | exact ⟨by rw [hT0, if_pos h1]; rfl, I.below⟩ | exact ⟨by rw [hT0, if_neg h1, if_pos h2]; rfl, I.below⟩ | exact ⟨by rw [hT0, if_neg h1, if_neg (by omega), if_neg (fun h => hmb h.1)]; rfl, I.below⟩ | exact ⟨by rw [hT0, if_neg h1, if_neg (by omega), if_neg (fun h => absurd (h.2.symm.trans hov) (by decide))]; rfl, I.below⟩ | exact ⟨by rw [hT0, if_neg h1, if_neg (by omega), if_pos ⟨hmb, by simpa using hov⟩, if_pos hex]; rfl, I.below⟩ | exact ⟨by rw [hT0, if_neg h1, if_neg (by omega), if_pos ⟨hmb, by simpa using hov⟩, if_neg hex]; rfl, I.below⟩
           by_cases hov : P.over = true
           · refine zb I 70 (mb) (false) ((by simpa using hmb)) fun Al W I => zret I (v := fun Al => .tuple #[vI 0, vI 16, vI 0]) fun Al W I => ?_
             first | exact ⟨by rw [hT0, if_pos h1]; rfl, I.below⟩ | exact ⟨by rw [hT0, if_neg h1, if_pos h2]; rfl, I.below⟩ | exact ⟨by rw [hT0, if_neg h1, if_neg (by omega), if_neg (fun h => hmb h.1)]; rfl, I.below⟩ | exact ⟨by rw [hT0, if_neg h1, if_neg (by omega), if_neg (fun h => absurd (h.2.symm.trans hov) (by decide))]; rfl, I.below⟩
           refine zb I 70 (mb) (false) ((by simpa using hmb)) fun Al W I => zret I (v := fun Al => .tuple #[vI 0, vI 16, vI 0]) fun Al W I => ?_
           first | exact ⟨by rw [hT0, if_pos h1]; rfl, I.below⟩ | exact ⟨by rw [hT0, if_neg h1, if_pos h2]; rfl, I.below⟩ | exact ⟨by rw [hT0, if_neg h1, if_neg (by omega), if_neg (fun h => hmb h.1)]; rfl, I.below⟩ | exact ⟨by rw [hT0, if_neg h1, if_neg (by omega), if_neg (fun h => absurd (h.2.symm.trans hov) (by decide))]; rfl, I.below⟩
         refine zn I fun Al W I => zo 13 I fun I => zqo I (fun Al W I => (HF h2 W p45 p53 c45 c53 I.fa.2.1.rd I.fa.1.rd).out) fun Al W p60 c60 I => zo 15 I fun I => zn I fun Al W I => zq I (fun Al W I => (HMa h2 W p60 c60 I.fa.1.rd).out) fun Al W I => ?_
         by_cases hmb : mb = true
         · by_cases hov : P.over = true
           · refine zb I 70 (mb) (true) (hmb) fun Al W I => zb I 72 (P.over) (true) (hov) fun Al W I => zret I (v := fun Al => .tuple #[vI 0, vI 16, vI 0]) fun Al W I => ?_
             first | exact ⟨by rw [hT0, if_pos h1]; rfl, I.below⟩ | exact ⟨by rw [hT0, if_neg h1, if_pos h2]; rfl, I.below⟩ | exact ⟨by rw [hT0, if_neg h1, if_neg (by omega), if_neg (fun h => hmb h.1)]; rfl, I.below⟩ | exact ⟨by rw [hT0, if_neg h1, if_neg (by omega), if_neg (fun h => absurd (h.2.symm.trans hov) (by decide))]; rfl, I.below⟩
           refine zb I 70 (mb) (true) (hmb) fun Al W I => zb I 72 (P.over) (false) ((by simpa using hov)) fun Al W I => ?_
           by_cases hex : P.exact = true
           · refine zb I 76 (P.exact) (true) (hex) fun Al W I => zret I (v := fun Al => .tuple #[vI mi, vI 0, vI 0]) fun Al W I => ?_
             first | exact ⟨by rw [hT0, if_pos h1]; rfl, I.below⟩ | exact ⟨by rw [hT0, if_neg h1, if_pos h2]; rfl, I.below⟩ | exact ⟨by rw [hT0, if_neg h1, if_neg (by omega), if_neg (fun h => hmb h.1)]; rfl, I.below⟩ | exact ⟨by rw [hT0, if_neg h1, if_neg (by omega), if_neg (fun h => absurd (h.2.symm.trans hov) (by decide))]; rfl, I.below⟩ | exact ⟨by rw [hT0, if_neg h1, if_neg (by omega), if_pos ⟨hmb, by simpa using hov⟩, if_pos hex]; rfl, I.below⟩ | exact ⟨by rw [hT0, if_neg h1, if_neg (by omega), if_pos ⟨hmb, by simpa using hov⟩, if_neg hex]; rfl, I.below⟩
           refine zb I 76 (P.exact) (false) ((by simpa using hex)) fun Al W I => zret I (v := fun Al => .tuple #[vI mi, vI 1, vI 0]) fun Al W I => ?_
           first | exact ⟨by rw [hT0, if_pos h1]; rfl, I.below⟩ | exact ⟨by rw [hT0, if_neg h1, if_pos h2]; rfl, I.below⟩ | exact ⟨by rw [hT0, if_neg h1, if_neg (by omega), if_neg (fun h => hmb h.1)]; rfl, I.below⟩ | exact ⟨by rw [hT0, if_neg h1, if_neg (by omega), if_neg (fun h => absurd (h.2.symm.trans hov) (by decide))]; rfl, I.below⟩ | exact ⟨by rw [hT0, if_neg h1, if_neg (by omega), if_pos ⟨hmb, by simpa using hov⟩, if_pos hex]; rfl, I.below⟩ | exact ⟨by rw [hT0, if_neg h1, if_neg (by omega), if_pos ⟨hmb, by simpa using hov⟩, if_neg hex]; rfl, I.below⟩
         by_cases hov : P.over = true
         · refine zb I 70 (mb) (false) ((by simpa using hmb)) fun Al W I => zret I (v := fun Al => .tuple #[vI 0, vI 16, vI 0]) fun Al W I => ?_
           first | exact ⟨by rw [hT0, if_pos h1]; rfl, I.below⟩ | exact ⟨by rw [hT0, if_neg h1, if_pos h2]; rfl, I.below⟩ | exact ⟨by rw [hT0, if_neg h1, if_neg (by omega), if_neg (fun h => hmb h.1)]; rfl, I.below⟩ | exact ⟨by rw [hT0, if_neg h1, if_neg (by omega), if_neg (fun h => absurd (h.2.symm.trans hov) (by decide))]; rfl, I.below⟩
         refine zb I 70 (mb) (false) ((by simpa using hmb)) fun Al W I => zret I (v := fun Al => .tuple #[vI 0, vI 16, vI 0]) fun Al W I => ?_
         first | exact ⟨by rw [hT0, if_pos h1]; rfl, I.below⟩ | exact ⟨by rw [hT0, if_neg h1, if_pos h2]; rfl, I.below⟩ | exact ⟨by rw [hT0, if_neg h1, if_neg (by omega), if_neg (fun h => hmb h.1)]; rfl, I.below⟩ | exact ⟨by rw [hT0, if_neg h1, if_neg (by omega), if_neg (fun h => absurd (h.2.symm.trans hov) (by decide))]; rfl, I.below⟩
       refine zn I fun Al W I => zo 6 I fun I => zqo I (fun Al W I => r0r W) fun Al W p53 c53 I => zk [10] I fun I => zo 13 I fun I => zqo I (fun Al W I => (HF h2 W p45 p53 c45 c53 I.fa.2.1.rd I.fa.1.rd).out) fun Al W p60 c60 I => zo 15 I fun I => zn I fun Al W I => zq I (fun Al W I => (HMa h2 W p60 c60 I.fa.1.rd).out) fun Al W I => ?_
       by_cases hmb : mb = true
       · by_cases hov : P.over = true
         · refine zb I 70 (mb) (true) (hmb) fun Al W I => zb I 72 (P.over) (true) (hov) fun Al W I => zret I (v := fun Al => .tuple #[vI 0, vI 16, vI 0]) fun Al W I => ?_
           first | exact ⟨by rw [hT0, if_pos h1]; rfl, I.below⟩ | exact ⟨by rw [hT0, if_neg h1, if_pos h2]; rfl, I.below⟩ | exact ⟨by rw [hT0, if_neg h1, if_neg (by omega), if_neg (fun h => hmb h.1)]; rfl, I.below⟩ | exact ⟨by rw [hT0, if_neg h1, if_neg (by omega), if_neg (fun h => absurd (h.2.symm.trans hov) (by decide))]; rfl, I.below⟩
         refine zb I 70 (mb) (true) (hmb) fun Al W I => zb I 72 (P.over) (false) ((by simpa using hov)) fun Al W I => ?_
         by_cases hex : P.exact = true
         · refine zb I 76 (P.exact) (true) (hex) fun Al W I => zret I (v := fun Al => .tuple #[vI mi, vI 0, vI 0]) fun Al W I => ?_
           first | exact ⟨by rw [hT0, if_pos h1]; rfl, I.below⟩ | exact ⟨by rw [hT0, if_neg h1, if_pos h2]; rfl, I.below⟩ | exact ⟨by rw [hT0, if_neg h1, if_neg (by omega), if_neg (fun h => hmb h.1)]; rfl, I.below⟩ | exact ⟨by rw [hT0, if_neg h1, if_neg (by omega), if_neg (fun h => absurd (h.2.symm.trans hov) (by decide))]; rfl, I.below⟩ | exact ⟨by rw [hT0, if_neg h1, if_neg (by omega), if_pos ⟨hmb, by simpa using hov⟩, if_pos hex]; rfl, I.below⟩ | exact ⟨by rw [hT0, if_neg h1, if_neg (by omega), if_pos ⟨hmb, by simpa using hov⟩, if_neg hex]; rfl, I.below⟩
         refine zb I 76 (P.exact) (false) ((by simpa using hex)) fun Al W I => zret I (v := fun Al => .tuple #[vI mi, vI 1, vI 0]) fun Al W I => ?_
         first | exact ⟨by rw [hT0, if_pos h1]; rfl, I.below⟩ | exact ⟨by rw [hT0, if_neg h1, if_pos h2]; rfl, I.below⟩ | exact ⟨by rw [hT0, if_neg h1, if_neg (by omega), if_neg (fun h => hmb h.1)]; rfl, I.below⟩ | exact ⟨by rw [hT0, if_neg h1, if_neg (by omega), if_neg (fun h => absurd (h.2.symm.trans hov) (by decide))]; rfl, I.below⟩ | exact ⟨by rw [hT0, if_neg h1, if_neg (by omega), if_pos ⟨hmb, by simpa using hov⟩, if_pos hex]; rfl, I.below⟩ | exact ⟨by rw [hT0, if_neg h1, if_neg (by omega), if_pos ⟨hmb, by simpa using hov⟩, if_neg hex]; rfl, I.below⟩
       by_cases hov : P.over = true
       · refine zb I 70 (mb) (false) ((by simpa using hmb)) fun Al W I => zret I (v := fun Al => .tuple #[vI 0, vI 16, vI 0]) fun Al W I => ?_
         first | exact ⟨by rw [hT0, if_pos h1]; rfl, I.below⟩ | exact ⟨by rw [hT0, if_neg h1, if_pos h2]; rfl, I.below⟩ | exact ⟨by rw [hT0, if_neg h1, if_neg (by omega), if_neg (fun h => hmb h.1)]; rfl, I.below⟩ | exact ⟨by rw [hT0, if_neg h1, if_neg (by omega), if_neg (fun h => absurd (h.2.symm.trans hov) (by decide))]; rfl, I.below⟩
       refine zb I 70 (mb) (false) ((by simpa using hmb)) fun Al W I => zret I (v := fun Al => .tuple #[vI 0, vI 16, vI 0]) fun Al W I => ?_
       first | exact ⟨by rw [hT0, if_pos h1]; rfl, I.below⟩ | exact ⟨by rw [hT0, if_neg h1, if_pos h2]; rfl, I.below⟩ | exact ⟨by rw [hT0, if_neg h1, if_neg (by omega), if_neg (fun h => hmb h.1)]; rfl, I.below⟩ | exact ⟨by rw [hT0, if_neg h1, if_neg (by omega), if_neg (fun h => absurd (h.2.symm.trans hov) (by decide))]; rfl, I.below⟩
     refine zb I 42 ((v.cls : Int) != 2) (true) (bne_iff_ne.2 (by omega)) fun Al W I => zret I (v := fun Al => .tuple #[vI 0, vI 16, vI 0]) fun Al W I => ?_
     first | exact ⟨by rw [hT0, if_pos h1]; rfl, I.below⟩ | exact ⟨by rw [hT0, if_neg h1, if_pos h2]; rfl, I.below⟩
   · have h0 : errR n way [s] = 6 := by unfold errR; rw [if_pos hn, if_pos hL, if_neg hw]
     simp only [h0, show ((6 : Int) = 0) = False by simp, if_false]
     have HO := fun W => hi0 (z0e n way W (fun h => hw h.2))
     generalize decP n s = v at *
     have I := Inv.start w [tabF] ⟨hT, True.intro⟩
     refine a0g [.v (.int .i64 n), .v (.string s), .v (.int .i64 way)] I Tryz.func40 ?_
     refine zqo I (fun Al W I => (HD W I.fa.1).out) fun Al W p22 c22 I => zq I (fun Al W I => (HO W).out) fun Al W I => zrb I
 · have h0 : errR n way [s] = b0m n s := by
    unfold errR
    by_cases hn : IsFm n
    · have : errL n [s] = b0m n s := by unfold errL errL; simp [hp]
      rw [if_pos hn, this, if_neg hp]
    · rw [if_neg hn]
      unfold b0m
      rw [if_neg hn]
   simp only [h0, if_neg hp]
   generalize decP n s = v at *
   generalize b0m n s = ep at *
   have I := Inv.start w [tabF] ⟨hT, True.intro⟩
   refine a0g [.v (.int .i64 n), .v (.string s), .v (.int .i64 way)] I Tryz.func40 ?_
   refine zqo I (fun Al W I => (HD W I.fa.1).out) fun Al W p22 c22 I => zb I 26 (ep != 0) (true) (bne_iff_ne.2 hp) fun Al W I => zrb I
theorem s0o (w : World) (hT : TabW w) : Calls Tryz.prog 32 #[] w fun en w' => en = .returned (.bool true) ∧ Below w.heap.size w w' := by
 have R3 : ResF (fmt 4) ((fmt 4).numM (intD 3) 1).1 := g1h (b0w (by decide)) _ _
 obtain ⟨q1, q2⟩ := m0g (n := 4) (by decide) R3
 have hA : ((fmt 4).numM (intD 3) 1).2 = 0 ∧ o0d ((fmt 4).numM (intD 3) 1).1 1 = (3, 0) := by decide +kernel
 have h0 : errR 4 1 [] = 0 := by decide
 have h1 : errR 4 1 [strR 4 ((fmt 4).numM (intD 3) 1).1] = 0 := by
  unfold errR
  have : errL 4 [strR 4 ((fmt 4).numM (intD 3) 1).1] = 0 := by unfold errL errL; simp [q1]
  rw [if_pos (by decide), if_pos this, if_pos (by decide)]
 have HF := fun W h => hi0 (g1q (o0c 3 4 1 W (by decide) h))
 have HI := fun W h => hi0 (v0l 4 1 (strR 4 ((fmt 4).numM (intD 3) 1).1) W h)
 unfold z0k at HI
 unfold outS outF at HF
 simp only [h0, h1, q2, hA.1, hA.2, if_true] at HF HI
 clear q1 q2 hA h0 h1 R3
 generalize strR 4 ((fmt 4).numM (intD 3) 1).1 = str at *
 have I := Inv.start w [tabF] ⟨hT, True.intro⟩
 refine a0g [] I Tryz.func32 ?_
 refine zq I (fun Al W I => (HF W I.fa.1).out) fun Al W I => zq I (fun Al W I => (HI W I.fa.1).out) fun Al W I => zb I 22 (((0 : Nat) : Int) == 0) (true) (rfl) fun Al W I => zb I 34 (((0 : Nat) : Int) == 0) (true) (rfl) fun Al W I => zrb I
theorem r1x {a : Dv} {e : Int} (h : zOf a e = 0) : a.m = 0 := by
 unfold zOf sg at h
 have hp : 0 < 2 ^ (a.e - e).toNat := Nat.pow_pos (by omega)
 rcases Nat.eq_zero_or_pos a.m with k | k
 · exact k
 · have hq := Nat.mul_pos k hp
   have hz : (a.m : Int) * 2 ^ (a.e - e).toNat ≠ 0 := by
    have : (((a.m * 2 ^ (a.e - e).toNat : Nat)) : Int) ≠ 0 := by omega
    simpa using this
   split at h <;> first | exact absurd h hz | (exfalso; apply hz; simpa using h)
end Go.Proofs.YtbamiajjampgnaaGreatDoor
namespace Go.Slip
end Go.Slip
namespace Go.Proofs.YtbamiajjampgnaaGreatDoor
open Go.RowKit Go.Slip
/-! ### The number 1 -/
theorem b1k (x : Dv) : (e0r x (c0v x)).m = 0 := by
 have := d1i x (c0v x) (e := min x.e 0) (by omega) (show min x.e 0 ≤ x.e by omega)
 rw [p0a, Int.add_right_neg] at this
 exact r1x this
theorem sub_self {f : Fm} {r : Vr} (hc : r.cls ≤ 2) (way : Int) : ∃ g, f.addM r r.opp way = (f.zeroM g, 0) := by
 have ho : r.opp = ⟨r.cls, !r.neg, c0v r.x⟩ := by unfold Vr.opp; rw [if_pos (by omega)]
 rw [ho]
 unfold Fm.addM
 rw [if_neg (by simp only; omega), if_neg (by simp only; omega)]
 unfold Fm.sumM
 rw [if_neg (by rw [b1k]; simp)]
 split
 · exact ⟨_, rfl⟩
 · exact ⟨_, rfl⟩
structure TnD (a : Dv) : Prop where
 len : (dig B32 a.m).length ≤ 40
 lo : -38000 ≤ a.e
 hi : a.e ≤ 38000
theorem VrOk.tn {r : Vr} (R : VrOk r) : TnD r.x := ⟨by have := R.len; omega, by have := R.lo; omega, by have := R.hi; omega⟩
theorem TnD.sm {a : Dv} (h : TnD a) : SmD a := ⟨by have := h.len; omega, by have := h.lo; omega, by have := h.hi; omega⟩
def lowB : Dv := ⟨true, 9223372036854775809, 0⟩
theorem q_ge {m t : Nat} {n : Int} (hm : 0 < m) (h : (t : Int) ≤ blen m - 1 + n) : 2 ^ t ≤ qP m 1 n := by
 have hb := e0q m hm
 have h1 := (c0r m).2 hm
 unfold qP numP denP
 rw [Nat.one_mul]
 by_cases hn : 0 ≤ n
 · rw [show (-n).toNat = 0 by omega, Nat.pow_zero, Nat.div_one]
   refine Nat.le_trans ?_ (Nat.mul_le_mul_right _ hb)
   rw [← Nat.pow_add]
   exact Nat.pow_le_pow_right (by decide) (by omega)
 · rw [show n.toNat = 0 by omega, Nat.pow_zero, Nat.mul_one, Nat.le_div_iff_mul_le (Nat.two_pow_pos _), ← Nat.pow_add]
   exact Nat.le_trans (Nat.pow_le_pow_right (by decide) (by omega)) hb
theorem q_lt {m t : Nat} {n : Int} (h : (blen m : Int) + n ≤ t) : qP m 1 n < 2 ^ t := by
 unfold qP numP denP
 rw [Nat.one_mul]
 by_cases hn : 0 ≤ n
 · rw [show (-n).toNat = 0 by omega, Nat.pow_zero, Nat.div_one]
   refine Nat.lt_of_lt_of_le (Nat.mul_lt_mul_of_pos_right ((a0u m _).1 (Nat.le_refl _)) (Nat.two_pow_pos _)) ?_
   rw [← Nat.pow_add]
   exact Nat.pow_le_pow_right (by decide) (by omega)
 · rw [show n.toNat = 0 by omega, Nat.pow_zero, Nat.mul_one, Nat.div_lt_iff_lt_mul (Nat.two_pow_pos _), ← Nat.pow_add]
   exact (a0u m _).1 (by omega)
theorem k1u : blen 1 = 1 := by
 have h1 := (c0r 1).2 (by omega)
 have h2 := (a0u 1 1).2 (by decide)
 omega
theorem k1v {m D : Nat} {e : Int} (hm : 0 < m) (hD : 1 ≤ D) : theK m 1 e 1 D = blen m + e - D := by
 unfold theK
 rw [k1u, Int.natCast_one, Int.ediv_one, if_pos]
 · omega
 · unfold d0s
   rw [Nat.one_mul]
   exact q_ge hm (by omega)
theorem s1u (g : Gd) (h : g.lo = 0) (h2 : g.grad = true) (K : Int) : powK g K = if K < 0 then 0 else K := by
 unfold powK
 rw [h, h2]
 by_cases k : K < 0
 · rw [if_pos ⟨k, rfl⟩, if_pos k]
 · rw [if_neg (fun q => k q.1), if_neg k]
end Go.Proofs.YtbamiajjampgnaaGreatDoor
namespace Go.Slip
theorem k1w {neg : Bool} {m : Nat} {e : Int} {g : Gd} {way : Int} (hm : 0 < m) (G : d0r g) (h : (a0h neg m 1 e g way).exact = true) : rv neg m 1 e g way = bare ⟨neg, m, e⟩ := by
 rw [y0p hm (by omega) G]
 unfold a0h at h
 rw [if_neg (by omega)] at h
 have hr : rP m 1 (e - wid g * powK g (theK m 1 e (wid g) g.digs.toNat)) = 0 := oTr h
 generalize powK g (theK m 1 e (wid g) g.digs.toNat) = k at *
 have hd : dUp neg m 1 e (wid g) way k = qP m 1 (e - wid g * k) := by unfold dUp upP; rw [hr]; simp
 rw [hd]
 unfold rP at hr
 have hq : qP m 1 (e - wid g * k) * denP 1 (e - wid g * k) = numP m (e - wid g * k) := by
  unfold qP
  exact Nat.div_mul_cancel (Nat.dvd_of_mod_eq_zero hr)
 generalize qP m 1 (e - wid g * k) = q at *
 unfold numP denP at hq
 rw [Nat.one_mul] at hq
 rcases Int.le_total (wid g * k) e with c | c
 · obtain ⟨n, hn⟩ : ∃ n : Nat, e = wid g * k + n := ⟨(e - wid g * k).toNat, by omega⟩
   rw [show (-(e - wid g * k)).toNat = 0 by omega, show (e - wid g * k).toNat = n by omega, Nat.pow_zero, Nat.mul_one] at hq
   rw [hq, hn, c0o]
 · obtain ⟨n, hn⟩ : ∃ n : Nat, (wid g : Int) * k = e + n := ⟨(wid g * k - e).toNat, by omega⟩
   rw [show (-(e - wid g * k)).toNat = n by omega, show (e - wid g * k).toNat = 0 by omega, Nat.pow_zero, Nat.mul_one] at hq
   rw [← hq, hn, c0o]
end Go.Slip
namespace Go.Proofs.YtbamiajjampgnaaGreatDoor
open Go.RowKit Go.Slip
def intL (n : Int) : List Nat := if n < 0 then 45 :: a0o n.natAbs else a0o n.natAbs
theorem z0l (n : Int) : Byt (intL n) := by
 unfold intL
 split
 · intro x hx
   rcases List.mem_cons.1 hx with rfl | hx
   · omega
   · exact k0k _ x hx
 · exact k0k _
theorem k1x {n : Int} (h : n.natAbs ≤ 9223372036854775808) : (intL n).length ≤ 21 := by
 have h1 := (b0d n.natAbs 20 (by omega)).2 (Nat.lt_of_le_of_lt h (by decide))
 unfold intL
 split
 · rw [List.length_cons]; omega
 · omega
theorem k1y (n : Int) : numl (intL n) = some ⟨decide (n < 0), a0o n.natAbs, 0⟩ := by
 have hd := d0q n.natAbs
 have hdg : ∀ x ∈ a0o n.natAbs, isDg x = true := fun x hx => e0b.2 (hd x hx)
 obtain ⟨c, r, hc, hc1, hc2⟩ := p0g n.natAbs
 have e1 : (mayT 45 (intL n)) = (decide (n < 0), a0o n.natAbs) := by
  unfold intL
  by_cases h : n < 0
  · rw [if_pos h, decide_eq_true h]; rfl
  · rw [if_neg h, decide_eq_false h, hc]
    show (if c = 45 then (true, r) else (false, c :: r)) = _
    rw [if_neg (by omega)]
 have tw : ∀ l : List Nat, (∀ x ∈ l, isDg x = true) → l.takeWhile isDg = l ∧ l.dropWhile isDg = [] := fun l => by
  induction l with
  | nil => exact fun _ => ⟨rfl, rfl⟩
  | cons a l ih =>
   intro h
   have h1 := h a List.mem_cons_self
   obtain ⟨i1, i2⟩ := ih fun x hx => h x (List.mem_cons_of_mem a hx)
   rw [List.takeWhile_cons, List.dropWhile_cons, if_pos h1, if_pos h1, i1, i2]
   exact ⟨rfl, rfl⟩
 obtain ⟨t1, t2⟩ := tw _ hdg
 rw [x0l, e1]
 simp only
 rw [t1, t2, show o0i [] = some ([], []) from rfl]
 simp only
 unfold numE
 rw [List.append_nil, if_neg (by rw [hc]; simp), show powT [] = some (0, []) from rfl]
 simp
theorem z0m {n : Int} (h : n.natAbs ≤ 9223372036854775808) : errT (intL n).length (numl (intL n)) = 0 ∧ ratL (intL n) = d0m ⟨decide (n < 0), a0o n.natAbs, 0⟩ :=
 z0c (by have := k1x h; omega) (k1y n) (by simp)
theorem s0p {n : Int} (h : n ≠ 0) : intD n = ⟨decide (n < 0), n.natAbs / 2 ^ tz n.natAbs, ((tz n.natAbs : Nat) : Int)⟩ := by
 unfold intD norm ofZ bare
 rw [if_neg (by simp only; omega)]
 simp
theorem p1d {fm n way : Int} (h : n.natAbs ≤ 9223372036854775808) : fitQ fm (ratL (intL n)) way = (fmt fm).numM (intD n) way := by
 rw [(z0m h).2]
 by_cases h0 : n = 0
 · subst h0
   have e : d0m ⟨decide ((0 : Int) < 0), a0o (0 : Int).natAbs, 0⟩ = (false, 0, 1, 0) := by
    unfold d0m
    simp only [h0m]
    rw [if_pos (by decide)]
   rw [e]
   unfold fitQ Fm.numM Fm.zeroM
   rw [if_pos rfl, if_pos (by decide)]
   simp
 · have e : d0m ⟨decide (n < 0), a0o n.natAbs, 0⟩ = (decide (n < 0), n.natAbs / 2 ^ tz n.natAbs, 1, ((tz n.natAbs : Nat) : Int)) := by
    unfold d0m
    simp only [h0m]
    rw [if_neg (by omega), if_pos (by decide)]
    simp
   have hp := (b0k n.natAbs (by omega)).2
   have hm : (n.natAbs / 2 ^ tz n.natAbs) ≠ 0 := fun k => by rw [k] at hp; simp at hp
   rw [e, s0p h0]
   unfold fitQ Fm.numM
   simp only
   rw [if_neg hm, if_neg hm]
theorem b1l (n : Int) : i0m (intD n) = n.natAbs := by
 by_cases h0 : n = 0
 · subst h0; decide
 · rw [s0p h0]
   unfold i0m
   rw [if_pos (by simp only; omega)]
   simp only [Int.toNat_natCast]
   rw [Nat.mul_comm]
   exact (b0k n.natAbs (by omega)).1
theorem g1s {f : Fm} (G : c0n f) {n way : Int} (hf : (f.numM (intD n) way).2 = 0) : (n = 0 ∧ (f.numM (intD n) way).1.cls = 1) ∨ (n ≠ 0 ∧ (f.numM (intD n) way).1.cls = 2 ∧ (f.numM (intD n) way).1.x = intD n) := by
 by_cases h0 : n = 0
 · subst h0
   left
   refine ⟨rfl, ?_⟩
   unfold Fm.numM
   rw [if_pos (by decide)]
   rfl
 · right
   refine ⟨h0, ?_⟩
   have hp := (b0k n.natAbs (by omega)).2
   have hm : (n.natAbs / 2 ^ tz n.natAbs) ≠ 0 := fun k => by rw [k] at hp; simp at hp
   have hb : Bare (intD n) := d1g _ _
   have hi := s0p h0
   generalize intD n = x at *
   have hxm : x.m ≠ 0 := by rw [hi]; exact hm
   unfold Fm.numM at hf ⊢
   rw [if_neg hxm] at hf ⊢
   have hre := fun hx => k1w (neg := x.neg) (m := x.m) (e := x.e) (g := f.g) (way := way) (by omega) (b0x G.g) hx
   rw [show bare ⟨x.neg, x.m, x.e⟩ = x from k0t hb] at hre
   unfold rv at hre
   generalize a0h x.neg x.m 1 x.e f.g way = p at *
   unfold Fm.placedM at hf ⊢
   by_cases h1 : p.over = true
   · rw [if_pos h1] at hf; simp at hf
   · rw [if_neg h1] at hf ⊢
     by_cases h2 : p.under = true ∧ f.fam ≠ 1 ∧ p.pow < f.g.lo
     · rw [if_pos h2] at hf; simp at hf
     · rw [if_neg h2] at hf ⊢
       have hfl : f.flP p = 0 → p.exact = true := fun h => by
        unfold Fm.flP at h
        cases he : p.exact
        · rw [he] at h; simp at h; split at h <;> omega
        · rfl
       by_cases h3 : p.d = 0
       · rw [if_pos h3] at hf
         have := hre (hfl hf)
         rw [h3] at this
         rw [← this] at hxm
         exact absurd rfl hxm
       · rw [if_neg h3] at hf ⊢
         exact ⟨rfl, hre (hfl hf)⟩
theorem g1t {n way : Int} (h0 : n ≠ 0) (hr : -9223372036854775808 ≤ n ∧ n ≤ 9223372036854775807) : v0k (intD n) way = (n, 0) := by
 have hs := b0k n.natAbs (by omega)
 have hi := s0p h0
 generalize hM : n.natAbs = M at *
 have hm : 0 < M / 2 ^ tz M := by
  rcases Nat.eq_zero_or_pos (M / 2 ^ tz M) with k | k
  · rw [k] at hs; simp at hs
  · exact k
 have hbl : blen (M / 2 ^ tz M) + tz M ≤ 64 := by
  have h1 := e0q _ hm
  have h2 := (c0r _).2 hm
  rcases Nat.lt_or_ge 64 (blen (M / 2 ^ tz M) + tz M) with q | q
  · have h3 : 2 ^ (blen (M / 2 ^ tz M) - 1) * 2 ^ tz M ≤ M := by
     rw [Nat.mul_comm]
     exact Nat.le_trans (Nat.mul_le_mul_left _ h1) (Nat.le_of_eq hs.1)
    rw [← Nat.pow_add] at h3
    have h4 : 2 ^ 64 ≤ 2 ^ (blen (M / 2 ^ tz M) - 1 + tz M) := Nat.pow_le_pow_right (by omega) (by omega)
    omega
  · exact q
 obtain ⟨m, hme⟩ : ∃ m, M / 2 ^ tz M = m := ⟨_, rfl⟩
 obtain ⟨z, hze⟩ : ∃ z, tz M = z := ⟨_, rfl⟩
 rw [hze] at hs hi hbl hme hm
 rw [hme] at hs hi hbl hm
 have hq : qP m 1 ((z : Int) - ((1 : Nat) : Int) * 0) = M ∧ rP m 1 ((z : Int) - ((1 : Nat) : Int) * 0) = 0 := by
  unfold qP rP numP denP
  rw [show (z : Int) - ((1 : Nat) : Int) * 0 = (z : Int) by omega, Int.toNat_natCast, show (-(z : Int)).toNat = 0 by omega, Nat.pow_zero, Nat.mul_one, Nat.div_one, Nat.mod_one, Nat.mul_comm]
  exact ⟨hs.1, rfl⟩
 have hup : upP (decide (n < 0)) m 1 (z : Int) 1 way 0 = false := by unfold upP; rw [hq.2]; simp
 have hdu : dUp (decide (n < 0)) m 1 (z : Int) 1 way 0 = M := by unfold dUp; rw [hup, hq.1]; simp
 have hnl : ¬ g0r (decide (n < 0)) m 1 (z : Int) 1 64 way 0 := fun h => by have := h.1; rw [hup] at this; cases this
 have hdg : digP (decide (n < 0)) m 1 (z : Int) 1 64 way 0 = M := by unfold digP; rw [if_neg hnl, hdu]
 have hpw : powP (decide (n < 0)) m 1 (z : Int) 1 64 way 0 = 0 := by unfold powP; rw [if_neg hnl]
 have hK2 : theK m 1 (z : Int) (wid e0l) e0l.digs.toNat = blen m + (z : Int) - (64 : Nat) := k1v hm (by decide)
 have hE := s1u e0l rfl rfl (blen m + (z : Int) - (64 : Nat))
 rw [show (if blen m + (z : Int) - (64 : Nat) < 0 then 0 else blen m + (z : Int) - (64 : Nat)) = (0 : Int) by split <;> omega] at hE
 have hP : a0h (decide (n < 0)) m 1 (z : Int) e0l way = ⟨decide (n < 0), M, if M = 0 then 0 else 0, decide ((0 : Nat) = 0), decide (e0l.hi < 0), decide (blen m + (z : Int) - (64 : Nat) < e0l.lo)⟩ := by
  unfold a0h
  rw [if_neg (by omega), hK2]
  exact q0x (g := e0l) rfl rfl hE hdg hpw hq.2
 rw [hi]
 unfold v0k
 simp only
 rw [hP]
 simp only
 unfold x0s
 by_cases h : M < 9223372036854775808
 · rw [if_pos h, if_pos ⟨rfl, by decide⟩]
   by_cases hn : n < 0
   · rw [decide_eq_true hn]
     simp
     omega
   · rw [decide_eq_false hn]
     simp
     omega
 · have hn : n < 0 := by omega
   rw [if_neg h, decide_eq_true hn, if_pos ⟨by rw [decide_eq_true (show M = 9223372036854775808 by omega)]; rfl, by decide⟩]
   simp
   omega
theorem b1m {f : Fm} (G : c0n f) {n way way2 : Int} (hr : -9223372036854775808 ≤ n ∧ n ≤ 9223372036854775807) (hf : (f.numM (intD n) way).2 = 0) : o0d (f.numM (intD n) way).1 way2 = (n, 0) := by
 unfold o0d
 rcases g1s G hf with ⟨h1, h2⟩ | ⟨h1, h2, h3⟩
 · rw [if_pos h2, h1]
 · rw [if_neg (by omega), if_neg (by omega), h3, g1t h1 hr]
theorem k1z {m n : Nat} (h : (dig B16 m).length ≤ n) : (dig B32 m).length ≤ n := (a0e a0a _ _).2 (Nat.lt_of_lt_of_le ((a0e a0l _ _).1 h) (Nat.pow_le_pow_left (by unfold B16 B32; omega) n))
theorem m1f {n : Int} (h : n < 0) : n.tdiv 2 = -((-n) / 2) ∧ n.tmod 2 = -((-n) % 2) := by
 have a1 := Int.neg_tdiv (-n) 2
 have a2 := Int.neg_tmod (-n) 2
 rw [Int.neg_neg] at a1 a2
 rw [a1, a2, Int.tdiv_eq_ediv_of_nonneg (by omega), Int.tmod_eq_emod_of_nonneg (by omega)]
 exact ⟨rfl, rfl⟩
theorem g1u {n : Int} {a b : Nat} (ha : (a : Int) = max (n.tdiv 2) (-(n.tdiv 2))) (hb : (b : Int) = max (n.tmod 2) (-(n.tmod 2))) : e0r (bare ⟨decide (n < 0), a, 1⟩) (bare ⟨decide (n < 0), b, 0⟩) = intD n := by
 have := l0m (sg (decide (n < 0)) a) (sg (decide (n < 0)) b) 1 0
 rw [← f0v, ← f0v]
 refine this.trans ?_
 rw [Int.pow_one, Int.pow_zero, Int.mul_one]
 unfold intD
 congr 1
 unfold sg
 by_cases h : n < 0
 · obtain ⟨a1, a2⟩ := m1f h
   rw [decide_eq_true h, if_pos rfl, if_pos rfl]
   omega
 · rw [Int.tdiv_eq_ediv_of_nonneg (by omega)] at ha
   rw [Int.tmod_eq_emod_of_nonneg (by omega)] at hb
   rw [decide_eq_false h, if_neg (by decide), if_neg (by decide)]
   omega
theorem b1n (n : Int) (w : World) (hr : -9223372036854775808 ≤ n ∧ n ≤ 9223372036854775807) : Calls Tryz.prog 37 #[.int .i64 n] w (GNf w w.heap.size (intD n)) := by
 have td : ∃ q r : Int, n.tdiv 2 = q ∧ n.tmod 2 = r ∧ -4611686018427387904 ≤ q ∧ q ≤ 4611686018427387904 ∧ -1 ≤ r ∧ r ≤ 1 := by
  refine ⟨_, _, rfl, rfl, ?_⟩
  by_cases h : n < 0
  · obtain ⟨a1, a2⟩ := m1f h
    omega
  · rw [Int.tdiv_eq_ediv_of_nonneg (by omega), Int.tmod_eq_emod_of_nonneg (by omega)]; omega
 obtain ⟨q, r, hq, hrr, b1, b2, b3, b4⟩ := td
 obtain ⟨a, ha⟩ : ∃ a : Nat, (a : Int) = max q (-q) := ⟨(max q (-q)).toNat, by omega⟩
 obtain ⟨b, hb⟩ : ∃ b : Nat, (b : Int) = max r (-r) := ⟨(max r (-r)).toNat, by omega⟩
 have hs := g1u (n := n) (a := a) (b := b) (by rw [hq]; exact ha) (by rw [hrr]; exact hb)
 have la : (dig B16 a).length ≤ 4 := (a0e a0l _ 4).2 (by unfold B16; omega)
 have lb : (dig B16 b).length ≤ 4 := (a0e a0l _ 4).2 (by unfold B16; omega)
 have fit : ∀ (g : Bool) (m : Nat) (e : Int), (dig B16 m).length ≤ 4 → 0 ≤ e → e ≤ 1 → FitR (bare ⟨g, m, e⟩) := fun g m e h1 h2 h3 => by
  have k1 := j0o a0l ⟨g, m, e⟩
  have k2 := t0d ⟨g, m, e⟩ (n := 4) (k1z h1) (lo := -1) (hi := 1) (by simp only; omega) (by simp only; omega) (by omega) (by omega)
  simp only at k1
  exact ⟨by omega, by omega, by omega⟩
 have HF1 := fun W => hi0 (r1l (a : Int) a rfl (by omega) W)
 have HF2 := fun W => hi0 (r1l (b : Int) b rfl (by omega) W)
 have HB1 := fun W p c h => hi0 (m1c (decide (n < 0)) p _ c 1 a _ W h rfl (by omega) (by omega) rfl)
 have HB2 := fun W p c h => hi0 (m1c (decide (n < 0)) p _ c 0 b _ W h rfl (by omega) (by omega) rfl)
 have f1 := fit (decide (n < 0)) a 1 la (by omega) (by omega)
 have f2 := fit (decide (n < 0)) b 0 lb (by omega) (by omega)
 generalize bare ⟨decide (n < 0), a, 1⟩ = x at *
 generalize bare ⟨decide (n < 0), b, 0⟩ = y at *
 have HP := fun W p q c d h1 h2 => hi0 (r1m x y (intD n) p q c d W h1 h2 f1 f2 hs)
 have HQ := hi0 hq
 have HR := hi0 hrr
 generalize intD n = z at *
 clear hq hrr hs fit f1 f2
 have I := Inv.start w [] True.intro
 refine a0g [.v (.int .i64 n)] I Tryz.func37 ?_
 refine zbin I 8 _ (fun _ _ _ _ _ => k0z .i64 (n) (2) (q) (by omega) ((by rw [HQ.out]; exact iwo))) fun Al W I => zbin I 10 _ (fun _ _ _ _ _ => k0z .i64 (n) (2) (q) (by omega) ((by rw [HQ.out]; exact iwo))) fun Al W I => zi I 11 .i64 (0 - q) (-q) ((iwo).trans (by omega)) fun Al W I => zm I 12 .i64 (if ((-q) : Int) > q then (-q) else q) ((a : Int)) (((l1z _ _).trans ha.symm)) fun Al W I => zqr I (fun Al W I => (HF1 W).out) fun Al W p13 c13 I => zbin I 18 _ (fun _ _ _ _ _ => w0f .i64 (n) (2) (r) (by omega) (HR.out)) fun Al W I => zbin I 20 _ (fun _ _ _ _ _ => w0f .i64 (n) (2) (r) (by omega) (HR.out)) fun Al W I => zi I 21 .i64 (0 - r) (-r) ((iwo).trans (by omega)) fun Al W I => zm I 22 .i64 (if ((-r) : Int) > r then (-r) else r) ((b : Int)) (((l1z _ _).trans hb.symm)) fun Al W I => zqr I (fun Al W I => (HF2 W).out) fun Al W p23 c23 I => zd [0] I fun Al W I => zk [0, 2] I fun I => zo 1 I fun I => zqr I (fun Al W I => (HB1 W p13 c13 I.fa.2.1.rd).out) fun Al W p26 c26 I => zo 3 I fun I => zqr I (fun Al W I => (HB2 W p23 c23 I.fa.2.1.rd).out) fun Al W p28 c28 I => zo 4 I fun I => zqr I (fun Al W I => (HP W p26 p28 c26 c28 I.fa.2.1.rd I.fa.1.rd).out) fun Al W p29 c29 I => zo 5 I fun I => zn I fun Al W I => zret I fun Al W I => ⟨p29, c29, rfl, I.fa.1, I.below⟩
theorem l1a (a : Nat) (w : World) (h : (dig B32 a).length ≤ 1200) : Calls Tryz.prog 38 #[.string (a0c (a0o a))] w fun en w' => ∃ p c, en = .returned (.tuple #[.slice p (dig B32 a).length c, .int .i64 0]) ∧ Own w' w.heap.size .u32 143 p c (dig B32 a) ∧ Below w.heap.size w w' :=
 s0d a w h
theorem g1v (a : Nat) (p : OA) (c : Nat) (w : World) (hp : Rd w .u32 p (dig B32 a)) (h : (dig B32 a).length ≤ 1200) : Calls Tryz.prog 39 #[.slice p (dig B32 a).length c] w fun en w' => en = .returned (.tuple #[.string (a0c (a0o a)), .int .i64 0]) ∧ Below w.heap.size w w' := by
 have := l0u p _ c (dig B32 a) w hp rfl (by omega) (b0g a0a a)
 rw [g0a h, show k0i (dig B32 a) = a0c (a0o a) by unfold k0i; rw [if_pos (g0a h), b0e a0a]] at this
 exact this
theorem g1w (g : Bool) (m : Nat) (e : Int) (x : Nat) (p : OA) (c : Nat) (w : World) (hp : Rd w .i64 p (dig B16 m)) (hl : (dig B16 m).length ≤ 1000000) (he : -1000000 ≤ e ∧ e ≤ 1000000) (h : i0m ⟨g, m, e⟩ = x) :
 Calls Tryz.prog 36 #[.agg #[.bool g, .slice p (dig B16 m).length c, .int .i64 e]] w (GRf w (dig B16 x)) := by
 subst h
 exact (o0k g p _ c e m w hp rfl hl he).mono fun _ _ => g0h.grf
theorem s0q (n fm way : Int) (w : World) (hr : -9223372036854775808 ≤ n ∧ n ≤ 9223372036854775807) (hT : TabW w) (hP : PowW w) : Calls Tryz.prog 9 #[.int .i64 n, .int .i64 fm, .int .i64 way] w fun en w' => en = .returned (.bool true) ∧ Below w.heap.size w w' := by
 have HB0 := fun W h => hi0 (s0o W h)
 have HB := fun W h h2 => hi0 (s0m W h h2)
 have HN := fun W => hi0 (u0n W)
 have HA := fun W h => hi0 (g1q (o0c n fm way W hr h))
 by_cases h0 : errR fm way [] = 0
 · obtain ⟨ht, _, hw⟩ := g1j h0
   obtain ⟨b1, b2, b3, b4⟩ := g1r hr
   have hab : n.natAbs ≤ 9223372036854775808 := by omega
   unfold outS outF at HA
   rw [if_pos h0, if_pos h0, h0] at HA
   have RS := g1h (b0w ht) (intD n) way
   have hfi := p1d (fm := fm) (way := way) hab
   have hback := fun h => b1m (b0w ht) (way := way) (way2 := way) hr h
   have hfl := b1l n
   have HW := fun W => hi0 (b1n n W hr)
   have hL : (dig B16 (intD n).m).length ≤ 20000 := by
    have := d1f (intD n).m
    omega
   have lM : (dig B32 n.natAbs).length ≤ 1200 := by
    have := (a0e a0a n.natAbs 3).2 (by unfold B32; omega)
    omega
   have lM16 : (dig B16 n.natAbs).length ≤ 10000000 := by
    have := (a0e a0l n.natAbs 5).2 (by unfold B16; omega)
    omega
   have ePa : c0e fm way (a0b (a0c (intL n))) = 0 := by
    rw [a0v (z0l n)]
    unfold c0e errQ
    rw [if_pos ht, if_pos (z0m hab).1, if_pos ht, if_pos hw]
   have oPa : outP fm way (a0b (a0c (intL n))) = strR fm ((fmt fm).numM (intD n) way).1 ∧ flP' fm way (a0b (a0c (intL n))) = ((fmt fm).numM (intD n) way).2 := by
    unfold outP flP'
    rw [if_pos ePa, if_pos ePa, a0v (z0l n), hfi]
    exact ⟨rfl, rfl⟩
   have HPa := fun W h => hi0 (p0z fm (a0c (intL n)) way W h)
   rw [ePa, oPa.1, oPa.2] at HPa
   have HPb : ∀ t, t = a0c (intL n) → ∀ W, TabW W → Hid (Calls Tryz.prog 15 #[.int .i64 fm, .string t, .int .i64 way] W fun en w' => en = .returned (.tuple #[.string (strR fm ((fmt fm).numM (intD n) way).1), .int .i64 ((((fmt fm).numM (intD n) way).2 : Nat) : Int), .int .i64 0]) ∧ Below W.heap.size W w') := fun t h => by subst h; exact HPa
   clear ePa oPa hfi HPa
   have HTI := fun W h => hi0 (v0l fm way (strR fm ((fmt fm).numM (intD n) way).1) W h)
   obtain ⟨q1, q2⟩ := m0g ht RS
   have e1 : errR fm way [strR fm ((fmt fm).numM (intD n) way).1] = 0 := by
    unfold errR errL errL
    rw [if_pos ht, q1, if_pos rfl, if_pos rfl, if_pos hw]
   unfold z0k at HTI
   rw [e1, if_pos rfl, if_pos rfl, q2] at HTI
   clear e1 q1 q2 RS
   obtain ⟨rS, flS, hS⟩ : ∃ rS flS, (fmt fm).numM (intD n) way = (rS, flS) := ⟨_, _, rfl⟩
   simp only [hS] at HA HPb HTI hback
   have hlt : n < 0 → a0c (intL n) = a0c ([45] ++ a0o n.natAbs) := fun h => by unfold intL; rw [if_pos h]; rfl
   have hge : ¬ n < 0 → a0c (intL n) = a0c (a0o n.natAbs) := fun h => by unfold intL; rw [if_neg h]
   have hdl := (b0d n.natAbs 20 (by omega)).2 (Nat.lt_of_le_of_lt hab (by decide))
   generalize a0c (intL n) = tt at *
   generalize strR fm rS = str at *
   generalize intD n = x at *
   generalize n.natAbs = M at *
   clear hS h0
   have I := Inv.start w [tabF, powF] ⟨hT, hP, True.intro⟩
   refine a0g [.v (.int .i64 n), .v (.int .i64 fm), .v (.int .i64 way)] I Tryz.func9 ?_
   refine zq I (fun Al W I => (HB0 W I.fa.1).out) fun Al W I => zq I (fun Al W I => (HB W I.fa.1 I.fa.2.1).out) fun Al W I => zq I (fun Al W I => (HN W).out) fun Al W I => zq I (fun Al W I => (HA W I.fa.1).out) fun Al W I => zqr I (fun Al W I => (HW W).out) fun Al W p39 c39 I => zqr I (fun Al W I => have hzW := I.bel.size; g1w x.neg x.m x.e M p39 c39 W I.fa.1.rd (by omega) (by omega) hfl) fun Al W p40 c40 I => zq I (fun Al W I => n0w p40 _ c40 M W I.fa.1.rd rfl lM16) fun Al W I => zqo I (fun Al W I => l1a M W lM) fun Al W p44 c44 I => zq I (fun Al W I => g1v M p44 c44 W I.fa.1.rd lM) fun Al W I => zbin I 61 _ (fun _ _ _ _ _ => d1a (a0c (a0o M))) fun Al W I => ?_
   obtain ⟨sn, hsn⟩ : ∃ sn, decide (n < 0) = sn := ⟨_, rfl⟩
   refine zb I 64 (decide (n < 0)) (sn) (hsn) fun Al W I => zcut I (some 2000064) (fun fr bx gs => ∃ (U1 : Nat → Value) (t : ByteArray), fr = (.v (vI n) :: .v (vI fm) :: .v (vI way) :: su 3 (.v (.bool false) :: .v (.string str) :: .v (vI (flS : Int)) :: .v (vI 0) :: .v (.string t) :: .v (vS (dig B32 M) p44 c44) :: .v (vI 0) :: .v (.string (a0c (a0o M))) :: .v (vI 0) :: su 3 (sw U1 18 9 (.v (.bool false) :: sw U1 28 9 (.v (.bool false) :: sw U1 38 24 (.v (.bool false) :: .v (U1 63) :: .v (.bool sn) :: sw U1 65 21 (vu :: .v (U1 87) :: vu :: sw U1 89 19 [])))))) : List SV) ∧ bx = [] ∧ gs = [ownF w.heap.size .u32 143 p44 c44 (dig B32 M), rfF w.heap.size p40 c40 (dig B16 M), rfF w.heap.size p39 c39 (dig B16 x.m), tabF, powF] ∧ (t = tt)) ?_ ?_
   · intro J hJ Al W I
     rcases bTF sn with rfl | rfl
     · refine zbin I 66 _ (fun _ _ _ _ _ => f0t [45] (a0o M) (by simp only [List.length_cons, List.length_nil]; omega)) fun Al W I => a0r I J fun Al W U I => hJ _ _ _ _ _ ⟨U, a0c ([45] ++ a0o M), rfl, rfl, rfl, (hlt (oTr hsn)).symm⟩ (I.pick [0, 1, 2, 3, 4])
     exact a0r I J fun Al W U I => hJ _ _ _ _ _ ⟨U, a0c (a0o M), rfl, rfl, rfl, (hge (oFa hsn)).symm⟩ (I.pick [0, 1, 2, 3, 4])
   rintro _ _ _ ⟨U1, t, rfl, rfl, rfl, ht2⟩ Al W I
   refine zq I (fun Al W I => (HPb t ht2 W I.fa.2.2.2.1).out) fun Al W I => zbin I 80 _ (fun _ _ _ _ _ => d1a str) fun Al W I => zb I 85 ((flS : Int) != (flS : Int)) (false) (bne_self_eq_false _) fun Al W I => ?_
   rcases bTF ((flS : Int) != 0) with f88 | f88
   · refine zb I 88 ((flS : Int) != 0) (true) (f88) fun Al W I => zrb I
   refine zb I 88 ((flS : Int) != 0) (false) (f88) fun Al W I => ?_
   have hk : flS = 0 := by have := bne_eq_false_iff_eq.1 f88; omega
   have hb9 := hback hk
   rw [hb9] at HTI
   refine zq I (fun Al W I => (HTI W I.fa.2.2.2.1).out) fun Al W I => zb I 101 (((0 : Nat) : Int) == 0) (true) (rfl) fun Al W I => zb I 106 (n == n) (true) (beq_self_eq_true _) fun Al W I => zrb I
 · unfold outS outF at HA
   rw [if_neg h0, if_neg h0] at HA
   generalize errR fm way [] = er at *
   have I := Inv.start w [tabF, powF] ⟨hT, hP, True.intro⟩
   refine a0g [.v (.int .i64 n), .v (.int .i64 fm), .v (.int .i64 way)] I Tryz.func9 ?_
   refine zq I (fun Al W I => (HB0 W I.fa.1).out) fun Al W I => zq I (fun Al W I => (HB W I.fa.1 I.fa.2.1).out) fun Al W I => zq I (fun Al W I => (HN W).out) fun Al W I => zq I (fun Al W I => (HA W I.fa.1).out) fun Al W I => zb I 37 (er != 0) (true) (bne_iff_ne.2 h0) fun Al W I => zrb I
end Go.Proofs.YtbamiajjampgnaaGreatDoor
