/- conv: Exact. -/
import Derived.Carry
import Derived.Deep.LoopGhost
import Derived.Deep.RegionHeld3
import Derived.Test.YtmacohmclpnphaaDoorYh1
import Derived.Test.YtmacohmclpnphaaDoorYh2
import Derived.Test.YtmacohmclpnphaaDoorYh3
import Derived.Test.YtmacohmclpnphaaDoorYh4
import Derived.Test.YtmacohmclpnphaaDoorYh5
import Derived.Test.YtmacohmclpnphaaDoorYh6
import Derived.Test.YtmacohmclpnphaaDoorYh7
set_option maxHeartbeats 8000000
set_option maxRecDepth 100000
namespace Go.Proofs.YtmacohmclpnphaaDoor
open Go.RowKit Go.Slip
def exG (f : Fm) : Dv := bare ⟨false, 2 ^ (wid f.g * f.g.digs.toNat) - 1, wid f.g * f.g.hi⟩
def exL (f : Fm) : Dv := bare ⟨false, 2 ^ (wid f.g * f.g.digs.toNat) - 1, wid f.g * f.g.lo⟩
def exM (f : Fm) (b : Bool) : Dv := cond b (bare ⟨false, 1, wid f.g * (f.g.lo + f.g.digs - 1)⟩) (bare ⟨false, 1, wid f.g * f.g.lo⟩)
def i0w (f g : Fm) : Bool := a0h (exG f) g.g && (a0h (exL f) g.g && (a0h (exM f (!f.g.grad)) g.g && (!(g.g.rad == 16) || (decide (4 * (g.g.digs - 1) + 1 ≥ wid f.g * f.g.digs) || f.g.rad == 16))))
theorem o0z {m : Nat} {e : Int} (hl : (dig B32 m).length ≤ 16) (he : -80000 ≤ e ∧ e ≤ 80000) : (dig B32 (bare ⟨false, m, e⟩).m).length ≤ 16 ∧ -100000 ≤ (bare ⟨false, m, e⟩).e ∧ (bare ⟨false, m, e⟩).e ≤ 100000 := by
 have h1 := g0t a0a ⟨false, m, e⟩
 have h2 := m0k ⟨false, m, e⟩ (n := 16) hl (lo := -80000) (hi := 80000) (by simp only; omega) (by simp only; omega) (by omega) (by omega)
 simp only at h1
 omega
theorem c1n (fm tg : Int) (w : World) (hf : IsFm fm) (ht : IsFm tg) (hT : TabW w) :
 Calls Tryd.prog 30 #[.int .i64 fm, .int .i64 tg] w fun en w' => en = .returned (.tuple #[.bool (i0w (fmt fm) (fmt tg)), .int .i64 0]) ∧ Below w.heap.size w w' := by
 have HG1 := fun W => hi0 (i0r fm W)
 have HG2 := fun W => hi0 (i0r tg W)
 have e1 : d0i fm = 0 := by unfold d0i; rw [if_pos hf]
 have e2 : d0i tg = 0 := by unfold d0i; rw [if_pos ht]
 rw [e1] at HG1
 rw [e2] at HG2
 have F := b0h (c0e hf).g
 have G := b0h (c0e ht).g
 have hEx : i0w (fmt fm) (fmt tg) = (a0h (exG (fmt fm)) (fmt tg).g && (a0h (exL (fmt fm)) (fmt tg).g && (a0h (exM (fmt fm) (!(fmt fm).g.grad)) (fmt tg).g && (!((fmt tg).g.rad == 16) || (decide (4 * ((fmt tg).g.digs - 1) + 1 ≥ wid (fmt fm).g * (fmt fm).g.digs) || (fmt fm).g.rad == 16))))) := rfl
 generalize fmt fm = f at *
 generalize fmt tg = g at *
 generalize i0w f g = EX at *
 have d1 := F.d1
 have d2 := F.d2
 have f1 := F.l1
 have f2 := F.l2
 have f3 := F.h1
 have f4 := F.h2
 have g1 := G.d1
 have g2 := G.d2
 have wp := b0d f.g
 have hmd : ((wid f.g * f.g.digs.toNat : Nat) : Int) = (wid f.g : Nat) * f.g.digs := by rw [Int.natCast_mul, Int.toNat_of_nonneg (by omega)]
 have hmb : wid f.g * f.g.digs.toNat ≤ 4 * 120 := Nat.mul_le_mul wp.2 (by omega)
 have b1 := g0a (wd := wid f.g) (k := f.g.lo) (B := 17000) wp.2 ⟨by omega, by omega⟩
 have b2 := g0a (wd := wid f.g) (k := f.g.hi) (B := 17000) wp.2 ⟨by omega, by omega⟩
 have b3 := g0a (wd := wid f.g) (k := f.g.lo + f.g.digs - 1) (B := 17200) wp.2 ⟨by omega, by omega⟩
 have hwd : wid f.g = if f.g.rad = 16 then 4 else 1 := rfl
 have l1 : (dig B32 1).length ≤ 1 := by rw [a0e a0a]; unfold B32; omega
 have l2 : (dig B32 (2 ^ (wid f.g * f.g.digs.toNat))).length ≤ 16 := e0g (by omega)
 have h1 := Nat.one_le_two_pow (n := wid f.g * f.g.digs.toNat)
 have l3 : (dig B32 (2 ^ (wid f.g * f.g.digs.toNat) - 1)).length ≤ 16 := Nat.le_trans (a0n a0a (Nat.sub_le _ _)) l2
 have HW1 := fun W p c h1 h2 h3 => hi0 (e0p p _ c (wid f.g * f.g.hi) (2 ^ (wid f.g * f.g.digs.toNat) - 1) W h1 rfl h2 (by omega) (by omega) h3)
 have HW2 := fun W p c h1 h2 h3 => hi0 (e0p p _ c (wid f.g * f.g.lo) (2 ^ (wid f.g * f.g.digs.toNat) - 1) W h1 rfl h2 (by omega) (by omega) h3)
 have HW3 := fun W p c h1 h2 h3 => hi0 (e0p p _ c (wid f.g * f.g.lo) 1 W h1 rfl h2 (by omega) (by omega) h3)
 have HW4 := fun W p c h1 h2 h3 => hi0 (e0p p _ c (wid f.g * (f.g.lo + f.g.digs - 1)) 1 W h1 rfl h2 (by omega) (by omega) h3)
 have HKe := fun (x : Dv) (hB : Bare x) (hl : (dig B32 x.m).length ≤ 16) (he : -100000 ≤ x.e ∧ x.e ≤ 100000) W p c h => hi0 ((t0q hB G) ▸ j0v x.neg p c x.e x.m g.g W h (by omega) (by omega) G)
 have n1 := o0z (e := wid f.g * f.g.hi) l3 (by omega)
 have n2 := o0z (e := wid f.g * f.g.lo) l3 (by omega)
 have n3 := o0z (m := 1) (e := wid f.g * f.g.lo) (by omega) (by omega)
 have n4 := o0z (m := 1) (e := wid f.g * (f.g.lo + f.g.digs - 1)) (by omega) (by omega)
 have K1 := HKe _ (d0f ⟨false, 2 ^ (wid f.g * f.g.digs.toNat) - 1, wid f.g * f.g.hi⟩) n1.1 n1.2
 have K2 := HKe _ (d0f ⟨false, 2 ^ (wid f.g * f.g.digs.toNat) - 1, wid f.g * f.g.lo⟩) n2.1 n2.2
 have K3 : ∀ b : Bool, _ := fun b => HKe (cond b (bare ⟨false, 1, wid f.g * (f.g.lo + f.g.digs - 1)⟩) (bare ⟨false, 1, wid f.g * f.g.lo⟩)) (by cases b <;> exact d0f _) (by cases b; exact n3.1; exact n4.1) (by cases b; exact n3.2; exact n4.2)
 unfold exG exL exM at hEx
 generalize bare ⟨false, 2 ^ (wid f.g * f.g.digs.toNat) - 1, wid f.g * f.g.hi⟩ = D1 at *
 generalize bare ⟨false, 2 ^ (wid f.g * f.g.digs.toNat) - 1, wid f.g * f.g.lo⟩ = D2 at *
 generalize bare ⟨false, 1, wid f.g * f.g.lo⟩ = D3 at *
 generalize bare ⟨false, 1, wid f.g * (f.g.lo + f.g.digs - 1)⟩ = D4 at *
 obtain ⟨gb, hgb⟩ : ∃ gb, (!f.g.grad) = gb := ⟨_, rfl⟩
 rw [hgb] at hEx
 have K3 := K3 gb
 generalize a0h D1 g.g = k1 at *
 generalize a0h D2 g.g = k2 at *
 generalize a0h (cond gb D4 D3) g.g = k3 at *
 obtain ⟨rb, hrb⟩ : ∃ b, (f.g.rad == 16) = b := ⟨_, rfl⟩
 have HRB := hi0 hrb
 have HGB := hi0 hgb
 have h4 : rb = true → (4 : Int) = ((wid f.g : Nat) : Int) := fun h => by rw [h] at hrb; rw [hwd, if_pos (beq_iff_eq.1 hrb)]; rfl
 have h5 : rb = false → (1 : Int) = ((wid f.g : Nat) : Int) := fun h => by rw [h] at hrb; rw [hwd, if_neg (bnF hrb)]; rfl
 have HEX := hi0 hEx
 have HMD := hi0 hmd
 clear hrb hgb hwd n1 n2 n3 n4 hEx HKe hmd
 generalize hX : 2 ^ (wid f.g * f.g.digs.toNat) = X at *
 have HX := hi0 hX
 clear hX
 generalize wid f.g * f.g.digs.toNat = M at *
 have I := Inv.start w [tabF] ⟨hT, True.intro⟩
 refine a0d [.v (.int .i64 fm), .v (.int .i64 tg)] I Tryd.func30 ?_
 refine zq I (fun Al W I => (HG1 W).out) fun Al W I => ?_
 refine zq I (fun Al W I => (HG2 W).out) fun Al W I => ?_
 refine zb I 32 (f.g.rad == 16) (rb) (HRB.out) fun Al W I => ?_
 refine zcut I (some 2000032) (fun fr bx gs => ∃ (U1 : Nat → Value) (j1 : Int), fr = (.v (.int .i64 fm) :: .v (.int .i64 tg) :: su 2 (.v (.bool false) :: .v (.int .i64 0) :: .p 0 0 :: .v (.int .i64 0) :: .p 1 0 :: .v (.int .i64 j1) :: su 4 (sw U1 14 6 (.v (.bool false) :: sw U1 21 7 (.v (.bool false) :: sw U1 29 3 (.v (.bool rb) :: sw U1 33 16 (.v undef :: sw U1 50 23 (su 4 (sw U1 77 5 (.v undef :: sw U1 83 3 (.v undef :: sw U1 87 15 [])))))))))) : List SV) ∧ bx = [⟨51, [.v (.int .i64 f.g.rad), .v (.int .i64 f.g.digs), .v (.int .i64 f.g.lo), .v (.int .i64 f.g.hi), .v (.bool f.g.grad)], false⟩, ⟨51, [.v (.int .i64 g.g.rad), .v (.int .i64 g.g.digs), .v (.int .i64 g.g.lo), .v (.int .i64 g.g.hi), .v (.bool g.g.grad)], false⟩] ∧ gs = [tabF] ∧ (j1 = ((wid f.g : Nat) : Int))) ?_ ?_
 · intro J hJ Al W I
   rcases Bool.eq_false_or_eq_true rb with rfl | rfl
   · exact a0m I J fun Al W U I => hJ _ _ _ _ _ ⟨U, 4, rfl, rfl, rfl, h4 rfl⟩ (I.pick [0])
   exact a0m I J fun Al W U I => hJ _ _ _ _ _ ⟨U, 1, rfl, rfl, rfl, h5 rfl⟩ (I.pick [0])
 rintro _ _ _ ⟨U1, j1, rfl, rfl, rfl, hj1⟩ Al W I
 refine zd [] I fun Al W I => ?_
 refine zk [1, 2, 3] I fun I => ?_
 refine zki 4 I .i64 (j1 * f.g.digs) ((M : Int)) ((by rw [hj1, ← HMD.out]; exact iwo)) fun I => ?_
 refine zo 0 I fun I => ?_
 refine zqo I (fun Al W I => e0q W) fun Al W p33 c33 I => ?_
 refine zo 5 I fun I => ?_
 refine zqo I (fun Al W I => have hzW := I.bel.size; sshl p33 _ c33 1 M X _ W I.fa.1.rd rfl (by omega) (by omega) rfl (by rw [HX.out]; omega)) fun Al W p38 c38 I => ?_
 refine zo 6 I fun I => ?_
 refine zqo I (fun Al W I => e0q W) fun Al W p39 c39 I => ?_
 refine zo 7 I fun I => ?_
 refine zqo I (fun Al W I => have hzW := I.bel.size; ssub p38 p39 _ _ c38 c39 X 1 (X - 1) W I.fa.2.1.rd I.fa.1.rd rfl rfl (by omega) (by omega) rfl) fun Al W p40 c40 I => ?_
 refine zk [8] I fun I => ?_
 refine zd [] I fun Al W I => ?_
 refine zk [1, 2, 3] I fun I => ?_
 refine zki 4 I .i64 (j1 * f.g.lo) ((wid f.g * f.g.lo)) ((by rw [hj1]; exact iwo)) fun I => ?_
 refine zo2 0 6 I (fun I => ?_) (fun I => ?_)
 · refine zqo I (fun Al W I => e0q W) fun Al W p41 c41 I => ?_
   refine zo2 5 6 I (fun I => ?_) (fun I => ?_)
   · refine zqo I (fun Al W I => (HW3 W p41 c41 I.fa.1.rd I.fa.1.le_cap I.fa.2.2.2.2.2.1).out) fun Al W p46 c46 I => ?_
     refine zo 6 I fun I => ?_
     refine zn I fun Al W I => ?_
     refine zo 7 I fun I => ?_
     refine zn I fun Al W I => ?_
     refine zb I 49 (!f.g.grad) (gb) (HGB.out) fun Al W I => ?_
     refine zcut I (some 2000049) (fun fr bx gs => ∃ (U2 : Nat → Value) (px : Option Addr) (cx : Nat), fr = (.v (.int .i64 fm) :: .v (.int .i64 tg) :: su 2 (.v (.bool false) :: .v (.int .i64 0) :: .p 0 0 :: .v (.int .i64 0) :: .p 1 0 :: .v (.int .i64 j1) :: .v (.slice p40 (dig B32 (X - 1)).length c40) :: .p 2 0 :: su 2 (sw U2 14 6 (.v (.bool false) :: sw U2 21 7 (.v (.bool false) :: sw U2 29 3 (.v (.bool rb) :: sw U2 33 16 (.v (.bool gb) :: sw U2 50 23 (su 4 (sw U2 77 5 (.v undef :: sw U2 83 3 (.v undef :: sw U2 87 15 [])))))))))) : List SV) ∧ bx = [⟨51, [.v (.int .i64 f.g.rad), .v (.int .i64 f.g.digs), .v (.int .i64 f.g.lo), .v (.int .i64 f.g.hi), .v (.bool f.g.grad)], false⟩, ⟨51, [.v (.int .i64 g.g.rad), .v (.int .i64 g.g.digs), .v (.int .i64 g.g.lo), .v (.int .i64 g.g.hi), .v (.bool g.g.grad)], false⟩, ⟨87, [.v (.bool ((cond gb D4 D3).neg)), .v (.slice px (dig B32 (cond gb D4 D3).m).length cx), .v (.int .i64 ((cond gb D4 D3).e))], false⟩] ∧ gs = [ownF w.heap.size .u32 76 px cx (dig B32 (cond gb D4 D3).m), ownF w.heap.size .u32 76 p46 c46 (dig B32 D3.m), ownF w.heap.size .u32 76 p41 c41 (dig B32 1), ownF w.heap.size .u32 76 p40 c40 (dig B32 (X - 1)), ownF w.heap.size .u32 76 p39 c39 (dig B32 1), ownF w.heap.size .u32 76 p38 c38 (dig B32 X), ownF w.heap.size .u32 76 p33 c33 (dig B32 1), tabF]) ?_ ?_
     · intro J hJ Al W I
       rcases Bool.eq_false_or_eq_true gb with rfl | rfl
       · refine zd [2] I fun Al W I => ?_
         refine zk [1, 2, 3, 4, 5] I fun I => ?_
         refine zki 6 I .i64 (f.g.lo + f.g.digs) (f.g.lo + f.g.digs) (iwo) fun I => ?_
         refine zki 7 I .i64 ((f.g.lo + f.g.digs) - 1) ((f.g.lo + f.g.digs) - 1) (iwo) fun I => ?_
         refine zki 8 I .i64 (j1 * ((f.g.lo + f.g.digs) - 1)) ((wid f.g * (f.g.lo + f.g.digs - 1))) ((by rw [hj1]; exact iwo)) fun I => ?_
         refine zo 0 I fun I => ?_
         refine zqo I (fun Al W I => e0q W) fun Al W p50 c50 I => ?_
         refine zo 9 I fun I => ?_
         refine zqo I (fun Al W I => (HW4 W p50 c50 I.fa.1.rd I.fa.1.le_cap I.fa.2.2.2.2.2.2.2.1).out) fun Al W p59 c59 I => ?_
         refine zo 10 I fun I => ?_
         refine zn I fun Al W I => ?_
         exact a0m I J fun Al W U I => hJ _ _ _ _ _ ⟨U, p59, c59, rfl, rfl, rfl⟩ (I.pick [0, 2, 3, 4, 5, 6, 7, 8])
       exact a0m I J fun Al W U I => hJ _ _ _ _ _ ⟨U, p46, c46, rfl, rfl, rfl⟩ (I.pick [0, 0, 1, 2, 3, 4, 5, 6])
     rintro _ _ _ ⟨U2, px, cx, rfl, rfl, rfl⟩ Al W I
     refine zd [] I fun Al W I => ?_
     refine zk [0, 1, 2, 3] I fun I => ?_
     refine zki 4 I .i64 (j1 * f.g.hi) ((wid f.g * f.g.hi)) ((by rw [hj1]; exact iwo)) fun I => ?_
     refine zk [6, 7, 8, 9] I fun I => ?_
     refine zki 10 I .i64 (j1 * f.g.lo) ((wid f.g * f.g.lo)) ((by rw [hj1]; exact iwo)) fun I => ?_
     refine zk [12, 15] I fun I => ?_
     refine zo 5 I fun I => ?_
     refine zqo I (fun Al W I => (HW1 W p40 c40 I.fa.2.2.2.1.rd I.fa.2.2.2.1.le_cap I.fa.2.2.2.2.2.2.2.1).out) fun Al W p65 c65 I => ?_
     refine zo 11 I fun I => ?_
     refine zqo I (fun Al W I => (HW2 W p40 c40 I.fa.2.2.2.2.1.rd I.fa.2.2.2.2.1.le_cap I.fa.2.2.2.2.2.2.2.2.1).out) fun Al W p71 c71 I => ?_
     refine zo 13 I fun I => ?_
     refine zn I fun Al W I => ?_
     refine zk [14] I fun I => ?_
     refine zunr I 3 ?_
     rintro J0 hJ0 Al W I
     refine zq I (fun Al W I => (K1 W p65 c65 I.fa.2.1.rd).out) fun Al W I => ?_
     rcases Bool.eq_false_or_eq_true (!k1) with f81 | f81
     · refine zb I 82 (!k1) (true) (f81) fun Al W I => ?_
       refine zret I (v := fun Al => .tuple #[.bool false, .int .i64 0]) fun Al W I => ?_
       first | exact ⟨by rw [HEX.out, show k1 = false by simpa using f81]; rfl, I.below⟩ | exact ⟨by rw [HEX.out, show k1 = true by simpa using q3, show k2 = false by simpa using f81]; rfl, I.below⟩ | exact ⟨by rw [HEX.out, show k1 = true by simpa using q3, show k2 = true by simpa using q2, show k3 = false by simpa using f81]; rfl, I.below⟩ | exact ⟨by rw [HEX.out, show k1 = true by simpa using q3, show k2 = true by simpa using q2, show k3 = true by simpa using q1, f86]; rfl, I.below⟩ | exact ⟨by rw [HEX.out, show k1 = true by simpa using q3, show k2 = true by simpa using q2, show k3 = true by simpa using q1, f86, f96]; rfl, I.below⟩
     refine zb I 82 (!k1) (false) (f81) fun Al W I => ?_
     have q3 := f81
     refine a0m I (J0 3) (fr := fun Al U3 => (.v (.int .i64 fm) :: .v (.int .i64 tg) :: su 2 (.v (.bool false) :: .v (.int .i64 0) :: .p 0 0 :: .v (.int .i64 0) :: .p 1 0 :: .v (.int .i64 j1) :: .v (.slice p40 (dig B32 (X - 1)).length c40) :: .p 2 0 :: .v undef :: .p 4 0 :: sw U3 14 6 (.v (.bool false) :: sw U3 21 7 (.v (.bool false) :: sw U3 29 3 (.v (.bool rb) :: sw U3 33 16 (.v (.bool gb) :: sw U3 50 23 (.s 3 0 3 3 :: .v (.int .i64 ((3 : Nat) : Int)) :: .v (.int .i64 1) :: .v (.bool true) :: sw U3 77 5 (.v (.bool false) :: sw U3 83 3 (.v undef :: sw U3 87 15 [])))))))) : List SV)) (bx := fun Al U3 => [⟨51, [.v (.int .i64 f.g.rad), .v (.int .i64 f.g.digs), .v (.int .i64 f.g.lo), .v (.int .i64 f.g.hi), .v (.bool f.g.grad)], false⟩, ⟨51, [.v (.int .i64 g.g.rad), .v (.int .i64 g.g.digs), .v (.int .i64 g.g.lo), .v (.int .i64 g.g.hi), .v (.bool g.g.grad)], false⟩, ⟨87, [.v (.bool ((cond gb D4 D3).neg)), .v (.slice px (dig B32 (cond gb D4 D3).m).length cx), .v (.int .i64 ((cond gb D4 D3).e))], false⟩, ⟨87, [.v (.bool D1.neg), .v (.slice p65 (dig B32 D1.m).length c65), .v (.int .i64 D1.e), .v (.bool D2.neg), .v (.slice p71 (dig B32 D2.m).length c71), .v (.int .i64 D2.e), .v (.bool ((cond gb D4 D3).neg)), .v (.slice px (dig B32 (cond gb D4 D3).m).length cx), .v (.int .i64 ((cond gb D4 D3).e))], false⟩, ⟨87, [.v (.bool D1.neg), .v (.slice p65 (dig B32 D1.m).length c65), .v (.int .i64 D1.e)], false⟩]) fun Al W U3 I => hJ0 _ _ _ _ _ _ I fun I => ?_
     refine zq I (fun Al W I => (K2 W p71 c71 I.fa.1.rd).out) fun Al W I => ?_
     rcases Bool.eq_false_or_eq_true (!k2) with f81 | f81
     · refine zb I 82 (!k2) (true) (f81) fun Al W I => ?_
       refine zret I (v := fun Al => .tuple #[.bool false, .int .i64 0]) fun Al W I => ?_
       first | exact ⟨by rw [HEX.out, show k1 = false by simpa using f81]; rfl, I.below⟩ | exact ⟨by rw [HEX.out, show k1 = true by simpa using q3, show k2 = false by simpa using f81]; rfl, I.below⟩ | exact ⟨by rw [HEX.out, show k1 = true by simpa using q3, show k2 = true by simpa using q2, show k3 = false by simpa using f81]; rfl, I.below⟩ | exact ⟨by rw [HEX.out, show k1 = true by simpa using q3, show k2 = true by simpa using q2, show k3 = true by simpa using q1, f86]; rfl, I.below⟩ | exact ⟨by rw [HEX.out, show k1 = true by simpa using q3, show k2 = true by simpa using q2, show k3 = true by simpa using q1, f86, f96]; rfl, I.below⟩
     refine zb I 82 (!k2) (false) (f81) fun Al W I => ?_
     have q2 := f81
     refine a0m I (J0 2) (fr := fun Al U4 => (.v (.int .i64 fm) :: .v (.int .i64 tg) :: su 2 (.v (.bool false) :: .v (.int .i64 0) :: .p 0 0 :: .v (.int .i64 0) :: .p 1 0 :: .v (.int .i64 j1) :: .v (.slice p40 (dig B32 (X - 1)).length c40) :: .p 2 0 :: .v undef :: .p 5 0 :: sw U4 14 6 (.v (.bool false) :: sw U4 21 7 (.v (.bool false) :: sw U4 29 3 (.v (.bool rb) :: sw U4 33 16 (.v (.bool gb) :: sw U4 50 23 (.s 3 0 3 3 :: .v (.int .i64 ((3 : Nat) : Int)) :: .v (.int .i64 2) :: .v (.bool true) :: sw U4 77 5 (.v (.bool false) :: sw U4 83 3 (.v undef :: sw U4 87 15 [])))))))) : List SV)) (bx := fun Al U4 => [⟨51, [.v (.int .i64 f.g.rad), .v (.int .i64 f.g.digs), .v (.int .i64 f.g.lo), .v (.int .i64 f.g.hi), .v (.bool f.g.grad)], false⟩, ⟨51, [.v (.int .i64 g.g.rad), .v (.int .i64 g.g.digs), .v (.int .i64 g.g.lo), .v (.int .i64 g.g.hi), .v (.bool g.g.grad)], false⟩, ⟨87, [.v (.bool ((cond gb D4 D3).neg)), .v (.slice px (dig B32 (cond gb D4 D3).m).length cx), .v (.int .i64 ((cond gb D4 D3).e))], false⟩, ⟨87, [.v (.bool D1.neg), .v (.slice p65 (dig B32 D1.m).length c65), .v (.int .i64 D1.e), .v (.bool D2.neg), .v (.slice p71 (dig B32 D2.m).length c71), .v (.int .i64 D2.e), .v (.bool ((cond gb D4 D3).neg)), .v (.slice px (dig B32 (cond gb D4 D3).m).length cx), .v (.int .i64 ((cond gb D4 D3).e))], false⟩, ⟨87, [.v (.bool D1.neg), .v (.slice p65 (dig B32 D1.m).length c65), .v (.int .i64 D1.e)], false⟩, ⟨87, [.v (.bool D2.neg), .v (.slice p71 (dig B32 D2.m).length c71), .v (.int .i64 D2.e)], false⟩]) fun Al W U4 I => hJ0 _ _ _ _ _ _ I fun I => ?_
     refine zq I (fun Al W I => (K3 W px cx I.fa.2.2.1.rd).out) fun Al W I => ?_
     rcases Bool.eq_false_or_eq_true (!k3) with f81 | f81
     · refine zb I 82 (!k3) (true) (f81) fun Al W I => ?_
       refine zret I (v := fun Al => .tuple #[.bool false, .int .i64 0]) fun Al W I => ?_
       first | exact ⟨by rw [HEX.out, show k1 = false by simpa using f81]; rfl, I.below⟩ | exact ⟨by rw [HEX.out, show k1 = true by simpa using q3, show k2 = false by simpa using f81]; rfl, I.below⟩ | exact ⟨by rw [HEX.out, show k1 = true by simpa using q3, show k2 = true by simpa using q2, show k3 = false by simpa using f81]; rfl, I.below⟩ | exact ⟨by rw [HEX.out, show k1 = true by simpa using q3, show k2 = true by simpa using q2, show k3 = true by simpa using q1, f86]; rfl, I.below⟩ | exact ⟨by rw [HEX.out, show k1 = true by simpa using q3, show k2 = true by simpa using q2, show k3 = true by simpa using q1, f86, f96]; rfl, I.below⟩
     refine zb I 82 (!k3) (false) (f81) fun Al W I => ?_
     have q1 := f81
     refine a0m I (J0 1) (fr := fun Al U5 => (.v (.int .i64 fm) :: .v (.int .i64 tg) :: su 2 (.v (.bool false) :: .v (.int .i64 0) :: .p 0 0 :: .v (.int .i64 0) :: .p 1 0 :: .v (.int .i64 j1) :: .v (.slice p40 (dig B32 (X - 1)).length c40) :: .p 2 0 :: .v undef :: .p 6 0 :: sw U5 14 6 (.v (.bool false) :: sw U5 21 7 (.v (.bool false) :: sw U5 29 3 (.v (.bool rb) :: sw U5 33 16 (.v (.bool gb) :: sw U5 50 23 (.s 3 0 3 3 :: .v (.int .i64 ((3 : Nat) : Int)) :: .v (.int .i64 3) :: .v (.bool true) :: sw U5 77 5 (.v (.bool false) :: sw U5 83 3 (.v undef :: sw U5 87 15 [])))))))) : List SV)) (bx := fun Al U5 => [⟨51, [.v (.int .i64 f.g.rad), .v (.int .i64 f.g.digs), .v (.int .i64 f.g.lo), .v (.int .i64 f.g.hi), .v (.bool f.g.grad)], false⟩, ⟨51, [.v (.int .i64 g.g.rad), .v (.int .i64 g.g.digs), .v (.int .i64 g.g.lo), .v (.int .i64 g.g.hi), .v (.bool g.g.grad)], false⟩, ⟨87, [.v (.bool ((cond gb D4 D3).neg)), .v (.slice px (dig B32 (cond gb D4 D3).m).length cx), .v (.int .i64 ((cond gb D4 D3).e))], false⟩, ⟨87, [.v (.bool D1.neg), .v (.slice p65 (dig B32 D1.m).length c65), .v (.int .i64 D1.e), .v (.bool D2.neg), .v (.slice p71 (dig B32 D2.m).length c71), .v (.int .i64 D2.e), .v (.bool ((cond gb D4 D3).neg)), .v (.slice px (dig B32 (cond gb D4 D3).m).length cx), .v (.int .i64 ((cond gb D4 D3).e))], false⟩, ⟨87, [.v (.bool D1.neg), .v (.slice p65 (dig B32 D1.m).length c65), .v (.int .i64 D1.e)], false⟩, ⟨87, [.v (.bool D2.neg), .v (.slice p71 (dig B32 D2.m).length c71), .v (.int .i64 D2.e)], false⟩, ⟨87, [.v (.bool ((cond gb D4 D3).neg)), .v (.slice px (dig B32 (cond gb D4 D3).m).length cx), .v (.int .i64 ((cond gb D4 D3).e))], false⟩]) fun Al W U5 I => hJ0 _ _ _ _ _ _ I fun I => ?_
     rcases Bool.eq_false_or_eq_true (g.g.rad == 16) with f86 | f86
     · refine zb I 86 (g.g.rad == 16) (true) (f86) fun Al W I => ?_
       refine zi I 89 .i64 (g.g.digs - 1) (g.g.digs - 1) (iwo) fun Al W I => ?_
       refine zi I 90 .i64 ((4 : Int) * (g.g.digs - 1)) ((4 : Int) * (g.g.digs - 1)) (iwo) fun Al W I => ?_
       refine zi I 91 .i64 (((4 : Int) * (g.g.digs - 1)) + 1) (((4 : Int) * (g.g.digs - 1)) + 1) (iwo) fun Al W I => ?_
       refine zi I 95 .i64 (j1 * f.g.digs) ((wid f.g * f.g.digs)) ((by rw [hj1, ← HMD.out]; exact iwo)) fun Al W I => ?_
       rcases Bool.eq_false_or_eq_true (decide ((((4 : Int) * (g.g.digs - 1)) + 1) ≥ (wid f.g * f.g.digs))) with f96 | f96
       · refine zb I 96 (decide ((((4 : Int) * (g.g.digs - 1)) + 1) ≥ (wid f.g * f.g.digs))) (true) (f96) fun Al W I => ?_
         refine zret I (v := fun Al => .tuple #[.bool true, .int .i64 0]) fun Al W I => ?_
         first | exact ⟨by rw [HEX.out, show k1 = false by simpa using f81]; rfl, I.below⟩ | exact ⟨by rw [HEX.out, show k1 = true by simpa using q3, show k2 = false by simpa using f81]; rfl, I.below⟩ | exact ⟨by rw [HEX.out, show k1 = true by simpa using q3, show k2 = true by simpa using q2, show k3 = false by simpa using f81]; rfl, I.below⟩ | exact ⟨by rw [HEX.out, show k1 = true by simpa using q3, show k2 = true by simpa using q2, show k3 = true by simpa using q1, f86]; rfl, I.below⟩ | exact ⟨by rw [HEX.out, show k1 = true by simpa using q3, show k2 = true by simpa using q2, show k3 = true by simpa using q1, f86, f96]; rfl, I.below⟩
       refine zb I 96 (decide ((((4 : Int) * (g.g.digs - 1)) + 1) ≥ (wid f.g * f.g.digs))) (false) (f96) fun Al W I => ?_
       refine zret I (v := fun Al => .tuple #[.bool (f.g.rad == 16), .int .i64 0]) fun Al W I => ?_
       first | exact ⟨by rw [HEX.out, show k1 = false by simpa using f81]; rfl, I.below⟩ | exact ⟨by rw [HEX.out, show k1 = true by simpa using q3, show k2 = false by simpa using f81]; rfl, I.below⟩ | exact ⟨by rw [HEX.out, show k1 = true by simpa using q3, show k2 = true by simpa using q2, show k3 = false by simpa using f81]; rfl, I.below⟩ | exact ⟨by rw [HEX.out, show k1 = true by simpa using q3, show k2 = true by simpa using q2, show k3 = true by simpa using q1, f86]; rfl, I.below⟩ | exact ⟨by rw [HEX.out, show k1 = true by simpa using q3, show k2 = true by simpa using q2, show k3 = true by simpa using q1, f86, f96]; rfl, I.below⟩
     refine zb I 86 (g.g.rad == 16) (false) (f86) fun Al W I => ?_
     refine zret I (v := fun Al => .tuple #[.bool true, .int .i64 0]) fun Al W I => ?_
     first | exact ⟨by rw [HEX.out, show k1 = false by simpa using f81]; rfl, I.below⟩ | exact ⟨by rw [HEX.out, show k1 = true by simpa using q3, show k2 = false by simpa using f81]; rfl, I.below⟩ | exact ⟨by rw [HEX.out, show k1 = true by simpa using q3, show k2 = true by simpa using q2, show k3 = false by simpa using f81]; rfl, I.below⟩ | exact ⟨by rw [HEX.out, show k1 = true by simpa using q3, show k2 = true by simpa using q2, show k3 = true by simpa using q1, f86]; rfl, I.below⟩ | exact ⟨by rw [HEX.out, show k1 = true by simpa using q3, show k2 = true by simpa using q2, show k3 = true by simpa using q1, f86, f96]; rfl, I.below⟩
   refine zn I fun Al W I => ?_
   refine zo 5 I fun I => ?_
   refine zqo I (fun Al W I => (HW3 W p41 c41 I.fa.1.rd I.fa.1.le_cap I.fa.2.2.2.2.2.1).out) fun Al W p46 c46 I => ?_
   refine zo 7 I fun I => ?_
   refine zn I fun Al W I => ?_
   refine zb I 49 (!f.g.grad) (gb) (HGB.out) fun Al W I => ?_
   refine zcut I (some 2000049) (fun fr bx gs => ∃ (U2 : Nat → Value) (px : Option Addr) (cx : Nat), fr = (.v (.int .i64 fm) :: .v (.int .i64 tg) :: su 2 (.v (.bool false) :: .v (.int .i64 0) :: .p 0 0 :: .v (.int .i64 0) :: .p 1 0 :: .v (.int .i64 j1) :: .v (.slice p40 (dig B32 (X - 1)).length c40) :: .p 2 0 :: su 2 (sw U2 14 6 (.v (.bool false) :: sw U2 21 7 (.v (.bool false) :: sw U2 29 3 (.v (.bool rb) :: sw U2 33 16 (.v (.bool gb) :: sw U2 50 23 (su 4 (sw U2 77 5 (.v undef :: sw U2 83 3 (.v undef :: sw U2 87 15 [])))))))))) : List SV) ∧ bx = [⟨51, [.v (.int .i64 f.g.rad), .v (.int .i64 f.g.digs), .v (.int .i64 f.g.lo), .v (.int .i64 f.g.hi), .v (.bool f.g.grad)], false⟩, ⟨51, [.v (.int .i64 g.g.rad), .v (.int .i64 g.g.digs), .v (.int .i64 g.g.lo), .v (.int .i64 g.g.hi), .v (.bool g.g.grad)], false⟩, ⟨87, [.v (.bool ((cond gb D4 D3).neg)), .v (.slice px (dig B32 (cond gb D4 D3).m).length cx), .v (.int .i64 ((cond gb D4 D3).e))], false⟩] ∧ gs = [ownF w.heap.size .u32 76 px cx (dig B32 (cond gb D4 D3).m), ownF w.heap.size .u32 76 p46 c46 (dig B32 D3.m), ownF w.heap.size .u32 76 p41 c41 (dig B32 1), ownF w.heap.size .u32 76 p40 c40 (dig B32 (X - 1)), ownF w.heap.size .u32 76 p39 c39 (dig B32 1), ownF w.heap.size .u32 76 p38 c38 (dig B32 X), ownF w.heap.size .u32 76 p33 c33 (dig B32 1), tabF]) ?_ ?_
   · intro J hJ Al W I
     rcases Bool.eq_false_or_eq_true gb with rfl | rfl
     · refine zd [2] I fun Al W I => ?_
       refine zk [1, 2, 3, 4, 5] I fun I => ?_
       refine zki 6 I .i64 (f.g.lo + f.g.digs) (f.g.lo + f.g.digs) (iwo) fun I => ?_
       refine zki 7 I .i64 ((f.g.lo + f.g.digs) - 1) ((f.g.lo + f.g.digs) - 1) (iwo) fun I => ?_
       refine zki 8 I .i64 (j1 * ((f.g.lo + f.g.digs) - 1)) ((wid f.g * (f.g.lo + f.g.digs - 1))) ((by rw [hj1]; exact iwo)) fun I => ?_
       refine zo 0 I fun I => ?_
       refine zqo I (fun Al W I => e0q W) fun Al W p50 c50 I => ?_
       refine zo 9 I fun I => ?_
       refine zqo I (fun Al W I => (HW4 W p50 c50 I.fa.1.rd I.fa.1.le_cap I.fa.2.2.2.2.2.2.2.1).out) fun Al W p59 c59 I => ?_
       refine zo 10 I fun I => ?_
       refine zn I fun Al W I => ?_
       exact a0m I J fun Al W U I => hJ _ _ _ _ _ ⟨U, p59, c59, rfl, rfl, rfl⟩ (I.pick [0, 2, 3, 4, 5, 6, 7, 8])
     exact a0m I J fun Al W U I => hJ _ _ _ _ _ ⟨U, p46, c46, rfl, rfl, rfl⟩ (I.pick [0, 0, 1, 2, 3, 4, 5, 6])
   rintro _ _ _ ⟨U2, px, cx, rfl, rfl, rfl⟩ Al W I
   refine zd [] I fun Al W I => ?_
   refine zk [0, 1, 2, 3] I fun I => ?_
   refine zki 4 I .i64 (j1 * f.g.hi) ((wid f.g * f.g.hi)) ((by rw [hj1]; exact iwo)) fun I => ?_
   refine zk [6, 7, 8, 9] I fun I => ?_
   refine zki 10 I .i64 (j1 * f.g.lo) ((wid f.g * f.g.lo)) ((by rw [hj1]; exact iwo)) fun I => ?_
   refine zk [12, 15] I fun I => ?_
   refine zo 5 I fun I => ?_
   refine zqo I (fun Al W I => (HW1 W p40 c40 I.fa.2.2.2.1.rd I.fa.2.2.2.1.le_cap I.fa.2.2.2.2.2.2.2.1).out) fun Al W p65 c65 I => ?_
   refine zo 11 I fun I => ?_
   refine zqo I (fun Al W I => (HW2 W p40 c40 I.fa.2.2.2.2.1.rd I.fa.2.2.2.2.1.le_cap I.fa.2.2.2.2.2.2.2.2.1).out) fun Al W p71 c71 I => ?_
   refine zo 13 I fun I => ?_
   refine zn I fun Al W I => ?_
   refine zk [14] I fun I => ?_
   refine zunr I 3 ?_
   rintro J0 hJ0 Al W I
   refine zq I (fun Al W I => (K1 W p65 c65 I.fa.2.1.rd).out) fun Al W I => ?_
   rcases Bool.eq_false_or_eq_true (!k1) with f81 | f81
   · refine zb I 82 (!k1) (true) (f81) fun Al W I => ?_
     refine zret I (v := fun Al => .tuple #[.bool false, .int .i64 0]) fun Al W I => ?_
     first | exact ⟨by rw [HEX.out, show k1 = false by simpa using f81]; rfl, I.below⟩ | exact ⟨by rw [HEX.out, show k1 = true by simpa using q3, show k2 = false by simpa using f81]; rfl, I.below⟩ | exact ⟨by rw [HEX.out, show k1 = true by simpa using q3, show k2 = true by simpa using q2, show k3 = false by simpa using f81]; rfl, I.below⟩ | exact ⟨by rw [HEX.out, show k1 = true by simpa using q3, show k2 = true by simpa using q2, show k3 = true by simpa using q1, f86]; rfl, I.below⟩ | exact ⟨by rw [HEX.out, show k1 = true by simpa using q3, show k2 = true by simpa using q2, show k3 = true by simpa using q1, f86, f96]; rfl, I.below⟩
   refine zb I 82 (!k1) (false) (f81) fun Al W I => ?_
   have q3 := f81
   refine a0m I (J0 3) (fr := fun Al U3 => (.v (.int .i64 fm) :: .v (.int .i64 tg) :: su 2 (.v (.bool false) :: .v (.int .i64 0) :: .p 0 0 :: .v (.int .i64 0) :: .p 1 0 :: .v (.int .i64 j1) :: .v (.slice p40 (dig B32 (X - 1)).length c40) :: .p 2 0 :: .v undef :: .p 4 0 :: sw U3 14 6 (.v (.bool false) :: sw U3 21 7 (.v (.bool false) :: sw U3 29 3 (.v (.bool rb) :: sw U3 33 16 (.v (.bool gb) :: sw U3 50 23 (.s 3 0 3 3 :: .v (.int .i64 ((3 : Nat) : Int)) :: .v (.int .i64 1) :: .v (.bool true) :: sw U3 77 5 (.v (.bool false) :: sw U3 83 3 (.v undef :: sw U3 87 15 [])))))))) : List SV)) (bx := fun Al U3 => [⟨51, [.v (.int .i64 f.g.rad), .v (.int .i64 f.g.digs), .v (.int .i64 f.g.lo), .v (.int .i64 f.g.hi), .v (.bool f.g.grad)], false⟩, ⟨51, [.v (.int .i64 g.g.rad), .v (.int .i64 g.g.digs), .v (.int .i64 g.g.lo), .v (.int .i64 g.g.hi), .v (.bool g.g.grad)], false⟩, ⟨87, [.v (.bool ((cond gb D4 D3).neg)), .v (.slice px (dig B32 (cond gb D4 D3).m).length cx), .v (.int .i64 ((cond gb D4 D3).e))], false⟩, ⟨87, [.v (.bool D1.neg), .v (.slice p65 (dig B32 D1.m).length c65), .v (.int .i64 D1.e), .v (.bool D2.neg), .v (.slice p71 (dig B32 D2.m).length c71), .v (.int .i64 D2.e), .v (.bool ((cond gb D4 D3).neg)), .v (.slice px (dig B32 (cond gb D4 D3).m).length cx), .v (.int .i64 ((cond gb D4 D3).e))], false⟩, ⟨87, [.v (.bool D1.neg), .v (.slice p65 (dig B32 D1.m).length c65), .v (.int .i64 D1.e)], false⟩]) fun Al W U3 I => hJ0 _ _ _ _ _ _ I fun I => ?_
   refine zq I (fun Al W I => (K2 W p71 c71 I.fa.1.rd).out) fun Al W I => ?_
   rcases Bool.eq_false_or_eq_true (!k2) with f81 | f81
   · refine zb I 82 (!k2) (true) (f81) fun Al W I => ?_
     refine zret I (v := fun Al => .tuple #[.bool false, .int .i64 0]) fun Al W I => ?_
     first | exact ⟨by rw [HEX.out, show k1 = false by simpa using f81]; rfl, I.below⟩ | exact ⟨by rw [HEX.out, show k1 = true by simpa using q3, show k2 = false by simpa using f81]; rfl, I.below⟩ | exact ⟨by rw [HEX.out, show k1 = true by simpa using q3, show k2 = true by simpa using q2, show k3 = false by simpa using f81]; rfl, I.below⟩ | exact ⟨by rw [HEX.out, show k1 = true by simpa using q3, show k2 = true by simpa using q2, show k3 = true by simpa using q1, f86]; rfl, I.below⟩ | exact ⟨by rw [HEX.out, show k1 = true by simpa using q3, show k2 = true by simpa using q2, show k3 = true by simpa using q1, f86, f96]; rfl, I.below⟩
   refine zb I 82 (!k2) (false) (f81) fun Al W I => ?_
   have q2 := f81
   refine a0m I (J0 2) (fr := fun Al U4 => (.v (.int .i64 fm) :: .v (.int .i64 tg) :: su 2 (.v (.bool false) :: .v (.int .i64 0) :: .p 0 0 :: .v (.int .i64 0) :: .p 1 0 :: .v (.int .i64 j1) :: .v (.slice p40 (dig B32 (X - 1)).length c40) :: .p 2 0 :: .v undef :: .p 5 0 :: sw U4 14 6 (.v (.bool false) :: sw U4 21 7 (.v (.bool false) :: sw U4 29 3 (.v (.bool rb) :: sw U4 33 16 (.v (.bool gb) :: sw U4 50 23 (.s 3 0 3 3 :: .v (.int .i64 ((3 : Nat) : Int)) :: .v (.int .i64 2) :: .v (.bool true) :: sw U4 77 5 (.v (.bool false) :: sw U4 83 3 (.v undef :: sw U4 87 15 [])))))))) : List SV)) (bx := fun Al U4 => [⟨51, [.v (.int .i64 f.g.rad), .v (.int .i64 f.g.digs), .v (.int .i64 f.g.lo), .v (.int .i64 f.g.hi), .v (.bool f.g.grad)], false⟩, ⟨51, [.v (.int .i64 g.g.rad), .v (.int .i64 g.g.digs), .v (.int .i64 g.g.lo), .v (.int .i64 g.g.hi), .v (.bool g.g.grad)], false⟩, ⟨87, [.v (.bool ((cond gb D4 D3).neg)), .v (.slice px (dig B32 (cond gb D4 D3).m).length cx), .v (.int .i64 ((cond gb D4 D3).e))], false⟩, ⟨87, [.v (.bool D1.neg), .v (.slice p65 (dig B32 D1.m).length c65), .v (.int .i64 D1.e), .v (.bool D2.neg), .v (.slice p71 (dig B32 D2.m).length c71), .v (.int .i64 D2.e), .v (.bool ((cond gb D4 D3).neg)), .v (.slice px (dig B32 (cond gb D4 D3).m).length cx), .v (.int .i64 ((cond gb D4 D3).e))], false⟩, ⟨87, [.v (.bool D1.neg), .v (.slice p65 (dig B32 D1.m).length c65), .v (.int .i64 D1.e)], false⟩, ⟨87, [.v (.bool D2.neg), .v (.slice p71 (dig B32 D2.m).length c71), .v (.int .i64 D2.e)], false⟩]) fun Al W U4 I => hJ0 _ _ _ _ _ _ I fun I => ?_
   refine zq I (fun Al W I => (K3 W px cx I.fa.2.2.1.rd).out) fun Al W I => ?_
   rcases Bool.eq_false_or_eq_true (!k3) with f81 | f81
   · refine zb I 82 (!k3) (true) (f81) fun Al W I => ?_
     refine zret I (v := fun Al => .tuple #[.bool false, .int .i64 0]) fun Al W I => ?_
     first | exact ⟨by rw [HEX.out, show k1 = false by simpa using f81]; rfl, I.below⟩ | exact ⟨by rw [HEX.out, show k1 = true by simpa using q3, show k2 = false by simpa using f81]; rfl, I.below⟩ | exact ⟨by rw [HEX.out, show k1 = true by simpa using q3, show k2 = true by simpa using q2, show k3 = false by simpa using f81]; rfl, I.below⟩ | exact ⟨by rw [HEX.out, show k1 = true by simpa using q3, show k2 = true by simpa using q2, show k3 = true by simpa using q1, f86]; rfl, I.below⟩ | exact ⟨by rw [HEX.out, show k1 = true by simpa using q3, show k2 = true by simpa using q2, show k3 = true by simpa using q1, f86, f96]; rfl, I.below⟩
   refine zb I 82 (!k3) (false) (f81) fun Al W I => ?_
   have q1 := f81
   refine a0m I (J0 1) (fr := fun Al U5 => (.v (.int .i64 fm) :: .v (.int .i64 tg) :: su 2 (.v (.bool false) :: .v (.int .i64 0) :: .p 0 0 :: .v (.int .i64 0) :: .p 1 0 :: .v (.int .i64 j1) :: .v (.slice p40 (dig B32 (X - 1)).length c40) :: .p 2 0 :: .v undef :: .p 6 0 :: sw U5 14 6 (.v (.bool false) :: sw U5 21 7 (.v (.bool false) :: sw U5 29 3 (.v (.bool rb) :: sw U5 33 16 (.v (.bool gb) :: sw U5 50 23 (.s 3 0 3 3 :: .v (.int .i64 ((3 : Nat) : Int)) :: .v (.int .i64 3) :: .v (.bool true) :: sw U5 77 5 (.v (.bool false) :: sw U5 83 3 (.v undef :: sw U5 87 15 [])))))))) : List SV)) (bx := fun Al U5 => [⟨51, [.v (.int .i64 f.g.rad), .v (.int .i64 f.g.digs), .v (.int .i64 f.g.lo), .v (.int .i64 f.g.hi), .v (.bool f.g.grad)], false⟩, ⟨51, [.v (.int .i64 g.g.rad), .v (.int .i64 g.g.digs), .v (.int .i64 g.g.lo), .v (.int .i64 g.g.hi), .v (.bool g.g.grad)], false⟩, ⟨87, [.v (.bool ((cond gb D4 D3).neg)), .v (.slice px (dig B32 (cond gb D4 D3).m).length cx), .v (.int .i64 ((cond gb D4 D3).e))], false⟩, ⟨87, [.v (.bool D1.neg), .v (.slice p65 (dig B32 D1.m).length c65), .v (.int .i64 D1.e), .v (.bool D2.neg), .v (.slice p71 (dig B32 D2.m).length c71), .v (.int .i64 D2.e), .v (.bool ((cond gb D4 D3).neg)), .v (.slice px (dig B32 (cond gb D4 D3).m).length cx), .v (.int .i64 ((cond gb D4 D3).e))], false⟩, ⟨87, [.v (.bool D1.neg), .v (.slice p65 (dig B32 D1.m).length c65), .v (.int .i64 D1.e)], false⟩, ⟨87, [.v (.bool D2.neg), .v (.slice p71 (dig B32 D2.m).length c71), .v (.int .i64 D2.e)], false⟩, ⟨87, [.v (.bool ((cond gb D4 D3).neg)), .v (.slice px (dig B32 (cond gb D4 D3).m).length cx), .v (.int .i64 ((cond gb D4 D3).e))], false⟩]) fun Al W U5 I => hJ0 _ _ _ _ _ _ I fun I => ?_
   rcases Bool.eq_false_or_eq_true (g.g.rad == 16) with f86 | f86
   · refine zb I 86 (g.g.rad == 16) (true) (f86) fun Al W I => ?_
     refine zi I 89 .i64 (g.g.digs - 1) (g.g.digs - 1) (iwo) fun Al W I => ?_
     refine zi I 90 .i64 ((4 : Int) * (g.g.digs - 1)) ((4 : Int) * (g.g.digs - 1)) (iwo) fun Al W I => ?_
     refine zi I 91 .i64 (((4 : Int) * (g.g.digs - 1)) + 1) (((4 : Int) * (g.g.digs - 1)) + 1) (iwo) fun Al W I => ?_
     refine zi I 95 .i64 (j1 * f.g.digs) ((wid f.g * f.g.digs)) ((by rw [hj1, ← HMD.out]; exact iwo)) fun Al W I => ?_
     rcases Bool.eq_false_or_eq_true (decide ((((4 : Int) * (g.g.digs - 1)) + 1) ≥ (wid f.g * f.g.digs))) with f96 | f96
     · refine zb I 96 (decide ((((4 : Int) * (g.g.digs - 1)) + 1) ≥ (wid f.g * f.g.digs))) (true) (f96) fun Al W I => ?_
       refine zret I (v := fun Al => .tuple #[.bool true, .int .i64 0]) fun Al W I => ?_
       first | exact ⟨by rw [HEX.out, show k1 = false by simpa using f81]; rfl, I.below⟩ | exact ⟨by rw [HEX.out, show k1 = true by simpa using q3, show k2 = false by simpa using f81]; rfl, I.below⟩ | exact ⟨by rw [HEX.out, show k1 = true by simpa using q3, show k2 = true by simpa using q2, show k3 = false by simpa using f81]; rfl, I.below⟩ | exact ⟨by rw [HEX.out, show k1 = true by simpa using q3, show k2 = true by simpa using q2, show k3 = true by simpa using q1, f86]; rfl, I.below⟩ | exact ⟨by rw [HEX.out, show k1 = true by simpa using q3, show k2 = true by simpa using q2, show k3 = true by simpa using q1, f86, f96]; rfl, I.below⟩
     refine zb I 96 (decide ((((4 : Int) * (g.g.digs - 1)) + 1) ≥ (wid f.g * f.g.digs))) (false) (f96) fun Al W I => ?_
     refine zret I (v := fun Al => .tuple #[.bool (f.g.rad == 16), .int .i64 0]) fun Al W I => ?_
     first | exact ⟨by rw [HEX.out, show k1 = false by simpa using f81]; rfl, I.below⟩ | exact ⟨by rw [HEX.out, show k1 = true by simpa using q3, show k2 = false by simpa using f81]; rfl, I.below⟩ | exact ⟨by rw [HEX.out, show k1 = true by simpa using q3, show k2 = true by simpa using q2, show k3 = false by simpa using f81]; rfl, I.below⟩ | exact ⟨by rw [HEX.out, show k1 = true by simpa using q3, show k2 = true by simpa using q2, show k3 = true by simpa using q1, f86]; rfl, I.below⟩ | exact ⟨by rw [HEX.out, show k1 = true by simpa using q3, show k2 = true by simpa using q2, show k3 = true by simpa using q1, f86, f96]; rfl, I.below⟩
   refine zb I 86 (g.g.rad == 16) (false) (f86) fun Al W I => ?_
   refine zret I (v := fun Al => .tuple #[.bool true, .int .i64 0]) fun Al W I => ?_
   first | exact ⟨by rw [HEX.out, show k1 = false by simpa using f81]; rfl, I.below⟩ | exact ⟨by rw [HEX.out, show k1 = true by simpa using q3, show k2 = false by simpa using f81]; rfl, I.below⟩ | exact ⟨by rw [HEX.out, show k1 = true by simpa using q3, show k2 = true by simpa using q2, show k3 = false by simpa using f81]; rfl, I.below⟩ | exact ⟨by rw [HEX.out, show k1 = true by simpa using q3, show k2 = true by simpa using q2, show k3 = true by simpa using q1, f86]; rfl, I.below⟩ | exact ⟨by rw [HEX.out, show k1 = true by simpa using q3, show k2 = true by simpa using q2, show k3 = true by simpa using q1, f86, f96]; rfl, I.below⟩
 refine zn I fun Al W I => ?_
 refine zo 0 I fun I => ?_
 refine zqo I (fun Al W I => e0q W) fun Al W p41 c41 I => ?_
 refine zo 5 I fun I => ?_
 refine zqo I (fun Al W I => (HW3 W p41 c41 I.fa.1.rd I.fa.1.le_cap I.fa.2.2.2.2.2.1).out) fun Al W p46 c46 I => ?_
 refine zo 7 I fun I => ?_
 refine zn I fun Al W I => ?_
 refine zb I 49 (!f.g.grad) (gb) (HGB.out) fun Al W I => ?_
 refine zcut I (some 2000049) (fun fr bx gs => ∃ (U2 : Nat → Value) (px : Option Addr) (cx : Nat), fr = (.v (.int .i64 fm) :: .v (.int .i64 tg) :: su 2 (.v (.bool false) :: .v (.int .i64 0) :: .p 0 0 :: .v (.int .i64 0) :: .p 1 0 :: .v (.int .i64 j1) :: .v (.slice p40 (dig B32 (X - 1)).length c40) :: .p 2 0 :: su 2 (sw U2 14 6 (.v (.bool false) :: sw U2 21 7 (.v (.bool false) :: sw U2 29 3 (.v (.bool rb) :: sw U2 33 16 (.v (.bool gb) :: sw U2 50 23 (su 4 (sw U2 77 5 (.v undef :: sw U2 83 3 (.v undef :: sw U2 87 15 [])))))))))) : List SV) ∧ bx = [⟨51, [.v (.int .i64 f.g.rad), .v (.int .i64 f.g.digs), .v (.int .i64 f.g.lo), .v (.int .i64 f.g.hi), .v (.bool f.g.grad)], false⟩, ⟨51, [.v (.int .i64 g.g.rad), .v (.int .i64 g.g.digs), .v (.int .i64 g.g.lo), .v (.int .i64 g.g.hi), .v (.bool g.g.grad)], false⟩, ⟨87, [.v (.bool ((cond gb D4 D3).neg)), .v (.slice px (dig B32 (cond gb D4 D3).m).length cx), .v (.int .i64 ((cond gb D4 D3).e))], false⟩] ∧ gs = [ownF w.heap.size .u32 76 px cx (dig B32 (cond gb D4 D3).m), ownF w.heap.size .u32 76 p46 c46 (dig B32 D3.m), ownF w.heap.size .u32 76 p41 c41 (dig B32 1), ownF w.heap.size .u32 76 p40 c40 (dig B32 (X - 1)), ownF w.heap.size .u32 76 p39 c39 (dig B32 1), ownF w.heap.size .u32 76 p38 c38 (dig B32 X), ownF w.heap.size .u32 76 p33 c33 (dig B32 1), tabF]) ?_ ?_
 · intro J hJ Al W I
   rcases Bool.eq_false_or_eq_true gb with rfl | rfl
   · refine zd [2] I fun Al W I => ?_
     refine zk [1, 2, 3, 4, 5] I fun I => ?_
     refine zki 6 I .i64 (f.g.lo + f.g.digs) (f.g.lo + f.g.digs) (iwo) fun I => ?_
     refine zki 7 I .i64 ((f.g.lo + f.g.digs) - 1) ((f.g.lo + f.g.digs) - 1) (iwo) fun I => ?_
     refine zki 8 I .i64 (j1 * ((f.g.lo + f.g.digs) - 1)) ((wid f.g * (f.g.lo + f.g.digs - 1))) ((by rw [hj1]; exact iwo)) fun I => ?_
     refine zo 0 I fun I => ?_
     refine zqo I (fun Al W I => e0q W) fun Al W p50 c50 I => ?_
     refine zo 9 I fun I => ?_
     refine zqo I (fun Al W I => (HW4 W p50 c50 I.fa.1.rd I.fa.1.le_cap I.fa.2.2.2.2.2.2.2.1).out) fun Al W p59 c59 I => ?_
     refine zo 10 I fun I => ?_
     refine zn I fun Al W I => ?_
     exact a0m I J fun Al W U I => hJ _ _ _ _ _ ⟨U, p59, c59, rfl, rfl, rfl⟩ (I.pick [0, 2, 3, 4, 5, 6, 7, 8])
   exact a0m I J fun Al W U I => hJ _ _ _ _ _ ⟨U, p46, c46, rfl, rfl, rfl⟩ (I.pick [0, 0, 1, 2, 3, 4, 5, 6])
 rintro _ _ _ ⟨U2, px, cx, rfl, rfl, rfl⟩ Al W I
 refine zd [] I fun Al W I => ?_
 refine zk [0, 1, 2, 3] I fun I => ?_
 refine zki 4 I .i64 (j1 * f.g.hi) ((wid f.g * f.g.hi)) ((by rw [hj1]; exact iwo)) fun I => ?_
 refine zk [6, 7, 8, 9] I fun I => ?_
 refine zki 10 I .i64 (j1 * f.g.lo) ((wid f.g * f.g.lo)) ((by rw [hj1]; exact iwo)) fun I => ?_
 refine zk [12, 15] I fun I => ?_
 refine zo 5 I fun I => ?_
 refine zqo I (fun Al W I => (HW1 W p40 c40 I.fa.2.2.2.1.rd I.fa.2.2.2.1.le_cap I.fa.2.2.2.2.2.2.2.1).out) fun Al W p65 c65 I => ?_
 refine zo 11 I fun I => ?_
 refine zqo I (fun Al W I => (HW2 W p40 c40 I.fa.2.2.2.2.1.rd I.fa.2.2.2.2.1.le_cap I.fa.2.2.2.2.2.2.2.2.1).out) fun Al W p71 c71 I => ?_
 refine zo 13 I fun I => ?_
 refine zn I fun Al W I => ?_
 refine zk [14] I fun I => ?_
 refine zunr I 3 ?_
 rintro J0 hJ0 Al W I
 refine zq I (fun Al W I => (K1 W p65 c65 I.fa.2.1.rd).out) fun Al W I => ?_
 rcases Bool.eq_false_or_eq_true (!k1) with f81 | f81
 · refine zb I 82 (!k1) (true) (f81) fun Al W I => ?_
   refine zret I (v := fun Al => .tuple #[.bool false, .int .i64 0]) fun Al W I => ?_
   first | exact ⟨by rw [HEX.out, show k1 = false by simpa using f81]; rfl, I.below⟩ | exact ⟨by rw [HEX.out, show k1 = true by simpa using q3, show k2 = false by simpa using f81]; rfl, I.below⟩ | exact ⟨by rw [HEX.out, show k1 = true by simpa using q3, show k2 = true by simpa using q2, show k3 = false by simpa using f81]; rfl, I.below⟩ | exact ⟨by rw [HEX.out, show k1 = true by simpa using q3, show k2 = true by simpa using q2, show k3 = true by simpa using q1, f86]; rfl, I.below⟩ | exact ⟨by rw [HEX.out, show k1 = true by simpa using q3, show k2 = true by simpa using q2, show k3 = true by simpa using q1, f86, f96]; rfl, I.below⟩
 refine zb I 82 (!k1) (false) (f81) fun Al W I => ?_
 have q3 := f81
 refine a0m I (J0 3) (fr := fun Al U3 => (.v (.int .i64 fm) :: .v (.int .i64 tg) :: su 2 (.v (.bool false) :: .v (.int .i64 0) :: .p 0 0 :: .v (.int .i64 0) :: .p 1 0 :: .v (.int .i64 j1) :: .v (.slice p40 (dig B32 (X - 1)).length c40) :: .p 2 0 :: .v undef :: .p 4 0 :: sw U3 14 6 (.v (.bool false) :: sw U3 21 7 (.v (.bool false) :: sw U3 29 3 (.v (.bool rb) :: sw U3 33 16 (.v (.bool gb) :: sw U3 50 23 (.s 3 0 3 3 :: .v (.int .i64 ((3 : Nat) : Int)) :: .v (.int .i64 1) :: .v (.bool true) :: sw U3 77 5 (.v (.bool false) :: sw U3 83 3 (.v undef :: sw U3 87 15 [])))))))) : List SV)) (bx := fun Al U3 => [⟨51, [.v (.int .i64 f.g.rad), .v (.int .i64 f.g.digs), .v (.int .i64 f.g.lo), .v (.int .i64 f.g.hi), .v (.bool f.g.grad)], false⟩, ⟨51, [.v (.int .i64 g.g.rad), .v (.int .i64 g.g.digs), .v (.int .i64 g.g.lo), .v (.int .i64 g.g.hi), .v (.bool g.g.grad)], false⟩, ⟨87, [.v (.bool ((cond gb D4 D3).neg)), .v (.slice px (dig B32 (cond gb D4 D3).m).length cx), .v (.int .i64 ((cond gb D4 D3).e))], false⟩, ⟨87, [.v (.bool D1.neg), .v (.slice p65 (dig B32 D1.m).length c65), .v (.int .i64 D1.e), .v (.bool D2.neg), .v (.slice p71 (dig B32 D2.m).length c71), .v (.int .i64 D2.e), .v (.bool ((cond gb D4 D3).neg)), .v (.slice px (dig B32 (cond gb D4 D3).m).length cx), .v (.int .i64 ((cond gb D4 D3).e))], false⟩, ⟨87, [.v (.bool D1.neg), .v (.slice p65 (dig B32 D1.m).length c65), .v (.int .i64 D1.e)], false⟩]) fun Al W U3 I => hJ0 _ _ _ _ _ _ I fun I => ?_
 refine zq I (fun Al W I => (K2 W p71 c71 I.fa.1.rd).out) fun Al W I => ?_
 rcases Bool.eq_false_or_eq_true (!k2) with f81 | f81
 · refine zb I 82 (!k2) (true) (f81) fun Al W I => ?_
   refine zret I (v := fun Al => .tuple #[.bool false, .int .i64 0]) fun Al W I => ?_
   first | exact ⟨by rw [HEX.out, show k1 = false by simpa using f81]; rfl, I.below⟩ | exact ⟨by rw [HEX.out, show k1 = true by simpa using q3, show k2 = false by simpa using f81]; rfl, I.below⟩ | exact ⟨by rw [HEX.out, show k1 = true by simpa using q3, show k2 = true by simpa using q2, show k3 = false by simpa using f81]; rfl, I.below⟩ | exact ⟨by rw [HEX.out, show k1 = true by simpa using q3, show k2 = true by simpa using q2, show k3 = true by simpa using q1, f86]; rfl, I.below⟩ | exact ⟨by rw [HEX.out, show k1 = true by simpa using q3, show k2 = true by simpa using q2, show k3 = true by simpa using q1, f86, f96]; rfl, I.below⟩
 refine zb I 82 (!k2) (false) (f81) fun Al W I => ?_
 have q2 := f81
 refine a0m I (J0 2) (fr := fun Al U4 => (.v (.int .i64 fm) :: .v (.int .i64 tg) :: su 2 (.v (.bool false) :: .v (.int .i64 0) :: .p 0 0 :: .v (.int .i64 0) :: .p 1 0 :: .v (.int .i64 j1) :: .v (.slice p40 (dig B32 (X - 1)).length c40) :: .p 2 0 :: .v undef :: .p 5 0 :: sw U4 14 6 (.v (.bool false) :: sw U4 21 7 (.v (.bool false) :: sw U4 29 3 (.v (.bool rb) :: sw U4 33 16 (.v (.bool gb) :: sw U4 50 23 (.s 3 0 3 3 :: .v (.int .i64 ((3 : Nat) : Int)) :: .v (.int .i64 2) :: .v (.bool true) :: sw U4 77 5 (.v (.bool false) :: sw U4 83 3 (.v undef :: sw U4 87 15 [])))))))) : List SV)) (bx := fun Al U4 => [⟨51, [.v (.int .i64 f.g.rad), .v (.int .i64 f.g.digs), .v (.int .i64 f.g.lo), .v (.int .i64 f.g.hi), .v (.bool f.g.grad)], false⟩, ⟨51, [.v (.int .i64 g.g.rad), .v (.int .i64 g.g.digs), .v (.int .i64 g.g.lo), .v (.int .i64 g.g.hi), .v (.bool g.g.grad)], false⟩, ⟨87, [.v (.bool ((cond gb D4 D3).neg)), .v (.slice px (dig B32 (cond gb D4 D3).m).length cx), .v (.int .i64 ((cond gb D4 D3).e))], false⟩, ⟨87, [.v (.bool D1.neg), .v (.slice p65 (dig B32 D1.m).length c65), .v (.int .i64 D1.e), .v (.bool D2.neg), .v (.slice p71 (dig B32 D2.m).length c71), .v (.int .i64 D2.e), .v (.bool ((cond gb D4 D3).neg)), .v (.slice px (dig B32 (cond gb D4 D3).m).length cx), .v (.int .i64 ((cond gb D4 D3).e))], false⟩, ⟨87, [.v (.bool D1.neg), .v (.slice p65 (dig B32 D1.m).length c65), .v (.int .i64 D1.e)], false⟩, ⟨87, [.v (.bool D2.neg), .v (.slice p71 (dig B32 D2.m).length c71), .v (.int .i64 D2.e)], false⟩]) fun Al W U4 I => hJ0 _ _ _ _ _ _ I fun I => ?_
 refine zq I (fun Al W I => (K3 W px cx I.fa.2.2.1.rd).out) fun Al W I => ?_
 rcases Bool.eq_false_or_eq_true (!k3) with f81 | f81
 · refine zb I 82 (!k3) (true) (f81) fun Al W I => ?_
   refine zret I (v := fun Al => .tuple #[.bool false, .int .i64 0]) fun Al W I => ?_
   first | exact ⟨by rw [HEX.out, show k1 = false by simpa using f81]; rfl, I.below⟩ | exact ⟨by rw [HEX.out, show k1 = true by simpa using q3, show k2 = false by simpa using f81]; rfl, I.below⟩ | exact ⟨by rw [HEX.out, show k1 = true by simpa using q3, show k2 = true by simpa using q2, show k3 = false by simpa using f81]; rfl, I.below⟩ | exact ⟨by rw [HEX.out, show k1 = true by simpa using q3, show k2 = true by simpa using q2, show k3 = true by simpa using q1, f86]; rfl, I.below⟩ | exact ⟨by rw [HEX.out, show k1 = true by simpa using q3, show k2 = true by simpa using q2, show k3 = true by simpa using q1, f86, f96]; rfl, I.below⟩
 refine zb I 82 (!k3) (false) (f81) fun Al W I => ?_
 have q1 := f81
 refine a0m I (J0 1) (fr := fun Al U5 => (.v (.int .i64 fm) :: .v (.int .i64 tg) :: su 2 (.v (.bool false) :: .v (.int .i64 0) :: .p 0 0 :: .v (.int .i64 0) :: .p 1 0 :: .v (.int .i64 j1) :: .v (.slice p40 (dig B32 (X - 1)).length c40) :: .p 2 0 :: .v undef :: .p 6 0 :: sw U5 14 6 (.v (.bool false) :: sw U5 21 7 (.v (.bool false) :: sw U5 29 3 (.v (.bool rb) :: sw U5 33 16 (.v (.bool gb) :: sw U5 50 23 (.s 3 0 3 3 :: .v (.int .i64 ((3 : Nat) : Int)) :: .v (.int .i64 3) :: .v (.bool true) :: sw U5 77 5 (.v (.bool false) :: sw U5 83 3 (.v undef :: sw U5 87 15 [])))))))) : List SV)) (bx := fun Al U5 => [⟨51, [.v (.int .i64 f.g.rad), .v (.int .i64 f.g.digs), .v (.int .i64 f.g.lo), .v (.int .i64 f.g.hi), .v (.bool f.g.grad)], false⟩, ⟨51, [.v (.int .i64 g.g.rad), .v (.int .i64 g.g.digs), .v (.int .i64 g.g.lo), .v (.int .i64 g.g.hi), .v (.bool g.g.grad)], false⟩, ⟨87, [.v (.bool ((cond gb D4 D3).neg)), .v (.slice px (dig B32 (cond gb D4 D3).m).length cx), .v (.int .i64 ((cond gb D4 D3).e))], false⟩, ⟨87, [.v (.bool D1.neg), .v (.slice p65 (dig B32 D1.m).length c65), .v (.int .i64 D1.e), .v (.bool D2.neg), .v (.slice p71 (dig B32 D2.m).length c71), .v (.int .i64 D2.e), .v (.bool ((cond gb D4 D3).neg)), .v (.slice px (dig B32 (cond gb D4 D3).m).length cx), .v (.int .i64 ((cond gb D4 D3).e))], false⟩, ⟨87, [.v (.bool D1.neg), .v (.slice p65 (dig B32 D1.m).length c65), .v (.int .i64 D1.e)], false⟩, ⟨87, [.v (.bool D2.neg), .v (.slice p71 (dig B32 D2.m).length c71), .v (.int .i64 D2.e)], false⟩, ⟨87, [.v (.bool ((cond gb D4 D3).neg)), .v (.slice px (dig B32 (cond gb D4 D3).m).length cx), .v (.int .i64 ((cond gb D4 D3).e))], false⟩]) fun Al W U5 I => hJ0 _ _ _ _ _ _ I fun I => ?_
 rcases Bool.eq_false_or_eq_true (g.g.rad == 16) with f86 | f86
 · refine zb I 86 (g.g.rad == 16) (true) (f86) fun Al W I => ?_
   refine zi I 89 .i64 (g.g.digs - 1) (g.g.digs - 1) (iwo) fun Al W I => ?_
   refine zi I 90 .i64 ((4 : Int) * (g.g.digs - 1)) ((4 : Int) * (g.g.digs - 1)) (iwo) fun Al W I => ?_
   refine zi I 91 .i64 (((4 : Int) * (g.g.digs - 1)) + 1) (((4 : Int) * (g.g.digs - 1)) + 1) (iwo) fun Al W I => ?_
   refine zi I 95 .i64 (j1 * f.g.digs) ((wid f.g * f.g.digs)) ((by rw [hj1, ← HMD.out]; exact iwo)) fun Al W I => ?_
   rcases Bool.eq_false_or_eq_true (decide ((((4 : Int) * (g.g.digs - 1)) + 1) ≥ (wid f.g * f.g.digs))) with f96 | f96
   · refine zb I 96 (decide ((((4 : Int) * (g.g.digs - 1)) + 1) ≥ (wid f.g * f.g.digs))) (true) (f96) fun Al W I => ?_
     refine zret I (v := fun Al => .tuple #[.bool true, .int .i64 0]) fun Al W I => ?_
     first | exact ⟨by rw [HEX.out, show k1 = false by simpa using f81]; rfl, I.below⟩ | exact ⟨by rw [HEX.out, show k1 = true by simpa using q3, show k2 = false by simpa using f81]; rfl, I.below⟩ | exact ⟨by rw [HEX.out, show k1 = true by simpa using q3, show k2 = true by simpa using q2, show k3 = false by simpa using f81]; rfl, I.below⟩ | exact ⟨by rw [HEX.out, show k1 = true by simpa using q3, show k2 = true by simpa using q2, show k3 = true by simpa using q1, f86]; rfl, I.below⟩ | exact ⟨by rw [HEX.out, show k1 = true by simpa using q3, show k2 = true by simpa using q2, show k3 = true by simpa using q1, f86, f96]; rfl, I.below⟩
   refine zb I 96 (decide ((((4 : Int) * (g.g.digs - 1)) + 1) ≥ (wid f.g * f.g.digs))) (false) (f96) fun Al W I => ?_
   refine zret I (v := fun Al => .tuple #[.bool (f.g.rad == 16), .int .i64 0]) fun Al W I => ?_
   first | exact ⟨by rw [HEX.out, show k1 = false by simpa using f81]; rfl, I.below⟩ | exact ⟨by rw [HEX.out, show k1 = true by simpa using q3, show k2 = false by simpa using f81]; rfl, I.below⟩ | exact ⟨by rw [HEX.out, show k1 = true by simpa using q3, show k2 = true by simpa using q2, show k3 = false by simpa using f81]; rfl, I.below⟩ | exact ⟨by rw [HEX.out, show k1 = true by simpa using q3, show k2 = true by simpa using q2, show k3 = true by simpa using q1, f86]; rfl, I.below⟩ | exact ⟨by rw [HEX.out, show k1 = true by simpa using q3, show k2 = true by simpa using q2, show k3 = true by simpa using q1, f86, f96]; rfl, I.below⟩
 refine zb I 86 (g.g.rad == 16) (false) (f86) fun Al W I => ?_
 refine zret I (v := fun Al => .tuple #[.bool true, .int .i64 0]) fun Al W I => ?_
 first | exact ⟨by rw [HEX.out, show k1 = false by simpa using f81]; rfl, I.below⟩ | exact ⟨by rw [HEX.out, show k1 = true by simpa using q3, show k2 = false by simpa using f81]; rfl, I.below⟩ | exact ⟨by rw [HEX.out, show k1 = true by simpa using q3, show k2 = true by simpa using q2, show k3 = false by simpa using f81]; rfl, I.below⟩ | exact ⟨by rw [HEX.out, show k1 = true by simpa using q3, show k2 = true by simpa using q2, show k3 = true by simpa using q1, f86]; rfl, I.below⟩ | exact ⟨by rw [HEX.out, show k1 = true by simpa using q3, show k2 = true by simpa using q2, show k3 = true by simpa using q1, f86, f96]; rfl, I.below⟩
def eEx (fm tg : Int) : Int := if IsFm fm ∧ IsFm tg then 0 else 6
def oEx (fm tg : Int) : Bool := if IsFm fm ∧ IsFm tg then i0w (fmt fm) (fmt tg) else false
theorem q0w (fm tg : Int) (w : World) (hT : TabW w) :
 Calls Tryd.prog 30 #[.int .i64 fm, .int .i64 tg] w fun en w' => en = .returned (.tuple #[.bool (oEx fm tg), .int .i64 (eEx fm tg)]) ∧ Below w.heap.size w w' := by
 unfold oEx eEx
 have HG1 := fun W => hi0 (i0r fm W)
 have HG2 := fun W => hi0 (i0r tg W)
 by_cases hf : IsFm fm
 · by_cases ht : IsFm tg
   · rw [if_pos ⟨hf, ht⟩, if_pos ⟨hf, ht⟩]
     exact c1n fm tg w hf ht hT
   · rw [if_neg (fun h => ht h.2), if_neg (fun h => ht h.2)]
     have e1 : d0i fm = 0 := by unfold d0i; rw [if_pos hf]
     have e2 : d0i tg = 6 := by unfold d0i; rw [if_neg ht]
     rw [e1] at HG1
     rw [e2] at HG2
     generalize fmt fm = f at *
     generalize fmt tg = g at *
     have I := Inv.start w [] True.intro
     refine a0d [.v (.int .i64 fm), .v (.int .i64 tg)] I Tryd.func30 ?_
     refine zq I (fun Al W I => (HG1 W).out) fun Al W I => ?_
     refine zq I (fun Al W I => (HG2 W).out) fun Al W I => ?_
     exact zrb I
 · rw [if_neg (fun h => hf h.1), if_neg (fun h => hf h.1)]
   have e1 : d0i fm = 6 := by unfold d0i; rw [if_neg hf]
   rw [e1] at HG1
   generalize fmt fm = f at *
   have I := Inv.start w [] True.intro
   refine a0d [.v (.int .i64 fm), .v (.int .i64 tg)] I Tryd.func30 ?_
   refine zq I (fun Al W I => (HG1 W).out) fun Al W I => ?_
   exact zrb I
theorem i1i {a : Dv} {e : Int} (h : zOf a e = 0) : a.m = 0 := by
 unfold zOf sg at h
 have hp : 0 < 2 ^ (a.e - e).toNat := Nat.pow_pos (by omega)
 rcases Nat.eq_zero_or_pos a.m with k | k
 · exact k
 · have hq := Nat.mul_pos k hp
   have hz : (a.m : Int) * 2 ^ (a.e - e).toNat ≠ 0 := by
    have : (((a.m * 2 ^ (a.e - e).toNat : Nat)) : Int) ≠ 0 := by omega
    simpa using this
   split at h <;> first | exact absurd h hz | (exfalso; apply hz; simpa using h)
end Go.Proofs.YtmacohmclpnphaaDoor
namespace Go.Slip
end Go.Slip
namespace Go.Proofs.YtmacohmclpnphaaDoor
open Go.RowKit Go.Slip
/-! ### The number 1 -/
theorem v0o (x : Dv) : (f0w x (d0a x)).m = 0 := by
 have := w0r x (d0a x) (e := min x.e 0) (by omega) (show min x.e 0 ≤ x.e by omega)
 rw [u0q, Int.add_right_neg] at this
 exact i1i this
theorem sub_self {f : Fm} {r : Vr} (hc : r.cls ≤ 2) (way : Int) : ∃ g, f.addM r r.opp way = (f.zeroM g, 0) := by
 have ho : r.opp = ⟨r.cls, !r.neg, d0a r.x⟩ := by unfold Vr.opp; rw [if_pos (by omega)]
 rw [ho]
 unfold Fm.addM
 rw [if_neg (by simp only; omega), if_neg (by simp only; omega)]
 unfold Fm.sumM
 rw [if_neg (by rw [v0o]; simp)]
 split
 · exact ⟨_, rfl⟩
 · exact ⟨_, rfl⟩
theorem v0p {a : Dv} {g : Gd} (h : a.m ≠ 0) : a0h a g = true ↔ ((wid g : Int) * g.lo ≤ a.e ∧ topD a ≤ wid g * (g.hi + g.digs)) ∧ ((topD a - 1) / (wid g : Int) - g.digs.toNat + 1 < g.lo → g.grad = true ∧ (wid g : Int) * g.lo ≤ a.e) ∧ (g.lo ≤ (topD a - 1) / (wid g : Int) - g.digs.toNat + 1 → (wid g : Int) * ((topD a - 1) / (wid g : Int) - g.digs.toNat + 1) ≤ a.e) := by
 unfold a0h upK
 rw [if_neg h]
 generalize (topD a - 1) / (wid g : Int) - g.digs.toNat + 1 = K
 by_cases c : a.e < wid g * g.lo ∨ wid g * (g.hi + g.digs) < topD a
 · rw [if_pos c]
   constructor
   · intro k; cases k
   · intro k; omega
 · rw [if_neg c]
   by_cases d : K < g.lo
   · rw [if_pos d]
     cases g.grad
     · simp only [Bool.false_eq_true, if_false, false_iff]
       intro k
       have := (k.2.1 d).1
       cases this
     · simp only [if_true, decide_eq_true_eq, true_and]
       constructor
       · intro k; exact ⟨by omega, fun _ => k, fun q => by omega⟩
       · intro k; exact k.2.1 d
   · rw [if_neg d, decide_eq_true_eq]
     constructor
     · intro k; exact ⟨by omega, fun q => absurd q d, fun _ => k⟩
     · intro k; exact k.2.2 (by omega)
theorem c1o {fm tg : Int} (hf : IsFm fm) (ht : IsFm tg) (hE : i0w (fmt fm) (fmt tg) = true) {x : Dv} (hx : a0h x (fmt fm).g = true) : a0h x (fmt tg).g = true := by
 by_cases h0 : x.m = 0
 · unfold a0h; rw [if_pos h0]
 · rw [v0p h0] at hx ⊢
   have hT : x.e < topD x := by
    have := (c0l x.m).2 (by omega)
    unfold topD; omega
   generalize topD x = T at *
   generalize x.e = e at *
   rcases e0h hf with rfl | rfl | rfl | rfl | rfl | rfl | rfl | rfl <;> rcases e0h ht with rfl | rfl | rfl | rfl | rfl | rfl | rfl | rfl <;>
    first
    | (exfalso; revert hE; decide +kernel)
    | (simp [fmt, wid] at hx ⊢; omega)
def f0q (f : Fm) (p : Int) (j : Nat) : Dv := bare ⟨false, (2 ^ (wid f.g * f.g.digs.toNat) - 1) / 2 ^ j, (wid f.g : Nat) * p⟩
def q0x (f : Fm) (p : Int) : Dv := ⟨false, 1, if f.g.grad then (wid f.g : Nat) * p else (wid f.g : Nat) * (p + f.g.digs - 1)⟩
def witB (f g : Fm) (d : Dv) : Bool := a0h d f.g && !a0h d g.g
def h0v (f : Fm) (k : Nat) : Int := if k = 0 then f.g.lo else if k = 1 then f.g.hi else if k = 2 then f.g.lo + 1 else -f.g.digs
def h0w (f g : Fm) (k : Nat) : Prop := (∀ j, j < wid f.g → witB f g (f0q f (h0v f k) j) = false) ∧ witB f g (q0x f (h0v f k)) = false
instance (f g : Fm) (k : Nat) : Decidable (h0w f g k) := by unfold h0w; exact inferInstance
theorem z0v {fm tg : Int} (hf : IsFm fm) (ht : IsFm tg) (hE : i0w (fmt fm) (fmt tg) = false) (h0 : h0w (fmt fm) (fmt tg) 0) (h1 : h0w (fmt fm) (fmt tg) 1) (h2 : h0w (fmt fm) (fmt tg) 2) (h3 : h0w (fmt fm) (fmt tg) 3) : False := by
 have h : h0w (fmt fm) (fmt tg) 0 ∧ h0w (fmt fm) (fmt tg) 1 ∧ h0w (fmt fm) (fmt tg) 2 ∧ h0w (fmt fm) (fmt tg) 3 := ⟨h0, h1, h2, h3⟩
 clear h0 h1 h2 h3
 rcases e0h hf with rfl | rfl | rfl | rfl | rfl | rfl | rfl | rfl <;> rcases e0h ht with rfl | rfl | rfl | rfl | rfl | rfl | rfl | rfl <;> (revert hE h; decide +kernel)
theorem i1j {fm : Int} (hf : IsFm fm) : wid (fmt fm).g * (fmt fm).g.digs.toNat ≤ 480 ∧ (((wid (fmt fm).g * (fmt fm).g.digs.toNat : Nat) : Int) = (wid (fmt fm).g : Nat) * (fmt fm).g.digs) ∧ 1 ≤ (fmt fm).g.digs ∧ (fmt fm).g.digs ≤ 64 ∧ 1 ≤ wid (fmt fm).g ∧ wid (fmt fm).g ≤ 4 ∧ -17000 ≤ (fmt fm).g.lo ∧ (fmt fm).g.lo ≤ 17000 ∧ -17000 ≤ (fmt fm).g.hi ∧ (fmt fm).g.hi ≤ 17000 := by
 rcases e0h hf with rfl | rfl | rfl | rfl | rfl | rfl | rfl | rfl <;> decide
theorem f1y {f : Fm} (h1 : -17000 ≤ f.g.lo) (h2 : f.g.lo ≤ 17000) (h3 : -17000 ≤ f.g.hi) (h4 : f.g.hi ≤ 17000) (h5 : 1 ≤ f.g.digs) (h6 : f.g.digs ≤ 64) (k : Nat) : -17001 ≤ h0v f k ∧ h0v f k ≤ 17001 := by
 unfold h0v; split <;> (try split) <;> (try split) <;> omega
theorem s0s {n j : Nat} (h : n ≤ 480) : (dig B16 ((2 ^ n - 1) / 2 ^ j)).length ≤ 31 :=
 (a0e a0j _ 31).2 (Nat.lt_of_le_of_lt (Nat.div_le_self _ _) (Nat.lt_of_lt_of_le (Nat.sub_lt (Nat.two_pow_pos n) (by decide)) (by
   have : B16 ^ 31 = 2 ^ (16 * 31) := by rw [show B16 = 2 ^ 16 from rfl, ← Nat.pow_mul]
   obtain ⟨E, hE⟩ : ∃ E, E = 16 * 31 := ⟨_, rfl⟩
   rw [this, ← hE]; exact Nat.pow_le_pow_right (by decide) (by omega))))
theorem c1p {f : Fm} (h : wid f.g * f.g.digs.toNat ≤ 480) {p : Int} (hp : -70000 ≤ (wid f.g : Nat) * p ∧ (wid f.g : Nat) * p ≤ 70000) (j : Nat) : (dig B16 (f0q f p j).m).length ≤ 31 ∧ -100000 ≤ (f0q f p j).e ∧ (f0q f p j).e ≤ 100000 := by
 have hl := s0s (j := j) h
 have k1 := g0t a0j ⟨false, (2 ^ (wid f.g * f.g.digs.toNat) - 1) / 2 ^ j, (wid f.g : Nat) * p⟩
 have k2 := m0k ⟨false, (2 ^ (wid f.g * f.g.digs.toNat) - 1) / 2 ^ j, (wid f.g : Nat) * p⟩ (n := 31) ((a0e a0a _ 31).2 (Nat.lt_of_lt_of_le ((a0e a0j _ 31).1 hl) (Nat.pow_le_pow_left (by unfold B16 B32; decide) 31))) (lo := -70000) (hi := 70000) hp.1 hp.2 (by omega) (by omega)
 simp only at k1
 unfold f0q
 exact ⟨by omega, by omega, by omega⟩
end Go.Proofs.YtmacohmclpnphaaDoor
namespace Go.Slip
open Go.RowKit
end Go.Slip
namespace Go.Proofs.YtmacohmclpnphaaDoor
open Go.RowKit Go.Slip
structure Wp where
 r : Vr
 p : Option Addr
 c : Nat
def Wp.cells (x : Wp) : List Value := [.int .i64 (x.r.cls : Int), .bool x.r.neg, .bool x.r.x.neg, .slice x.p (dig B16 x.r.x.m).length x.c, .int .i64 x.r.x.e]
theorem Wp.len (x : Wp) : x.cells.length = 5 := rfl
theorem four {k : Nat} (h : (k : Int) < 4) : k = 0 ∨ k = 1 ∨ k = 2 ∨ k = 3 := by omega
theorem j1h (p : Option Addr) (n c : Nat) (a N x : Nat) (M : Int) (w : World) (hp : Rd w .i64 p (dig B16 a)) (hn : n = (dig B16 a).length) (hl : (dig B16 a).length ≤ 100000000) (hN : N ≤ 1000000000) (hM : M = N) (h : a / 2 ^ N = x) :
 Calls Tryd.prog 40 #[.slice p n c, .int .i64 M] w (GRf w (dig B16 x)) := by
 subst h hM; exact (l0o p n c a N w hp hn (by omega) (by omega)).mono fun _ _ => f0i.grf
theorem z0w (fm tg : Int) (s : ByteArray) (w : World) (hT : TabW w) (hf : IsFm fm) (ht : IsFm tg) (hEf : i0w (fmt fm) (fmt tg) = false) : Calls Tryd.prog 9 #[.int .i64 fm, .int .i64 tg, .string s] w fun en w' => en = .returned (.bool true) ∧ Below w.heap.size w w' := by
 have HB0 := fun W h => hi0 (i0v W h)
 have HX := fun W h => hi0 (q0w fm tg W h)
 have HF1 := fun W => hi0 (e0i fm W)
 have HF2 := fun W => hi0 (e0i tg W)
 have HO := fun W => hi0 (l0u fm s W)
 have HD := fun W h => hi0 (g0o fm s W hf h)
 have GF := b0h (c0e hf).g
 have GG := b0h (c0e ht).g
 have HWd := fun W => hi0 (c0k (fmt fm).g W)
 have e1 : oEx fm tg = false := by unfold oEx; rw [if_pos ⟨hf, ht⟩, hEf]
 have e2 : eEx fm tg = 0 := by unfold eEx; rw [if_pos ⟨hf, ht⟩]
 rw [e1, e2] at HX
 rw [decide_eq_true hf] at HF1
 rw [decide_eq_true ht] at HF2
 have HE := hi0 (z0v hf ht hEf)
 clear hEf e1 e2
 have HD' : ∀ (k : b0x fm s = 0) W, _ := fun k W => HD W (c0y.1 k).2
 rw [show (fmt fm).refN (a0s (fmt fm) s) = refD fm s from rfl] at HD'
 unfold i0u at HD'
 obtain ⟨b1, b2, b3, b4, b5, b6, b7, b8, b9, b10⟩ := i1j hf
 obtain ⟨M, hM⟩ : ∃ M, M = wid (fmt fm).g * (fmt fm).g.digs.toNat := ⟨_, rfl⟩
 have hpk := fun k => f1y b7 b8 b9 b10 b3 b4 k
 have hmul := fun (x B : Int) h => g0a (wd := wid (fmt fm).g) (k := x) (B := B) b6 h
 have hcf := fun {p : Int} h j => c1p (f := fmt fm) b1 (p := p) h j
 have HI1 := fun W (d : Dv) p c h h1 h2 => hi0 (c0q d.neg p _ c d.e d.m (fmt fm).g W h rfl h1 h2 GF)
 have HI2 := fun W (d : Dv) p c h h1 h2 => hi0 (c0q d.neg p _ c d.e d.m (fmt tg).g W h rfl h1 h2 GG)
 have HL1 := fun W (e : Int) p h h2 => hi0 (c0q false p 1 1 e 1 (fmt fm).g W h i0q (by rw [g0n]; decide) h2 GF)
 have HL2 := fun W (e : Int) p h h2 => hi0 (c0q false p 1 1 e 1 (fmt tg).g W h i0q (by rw [g0n]; decide) h2 GG)
 have hcJ : ∀ p j, f0q (fmt fm) p j = bare ⟨false, (2 ^ M - 1) / 2 ^ j, (wid (fmt fm).g : Nat) * p⟩ := fun p j => by subst hM; rfl
 have hcL : ∀ p, q0x (fmt fm) p = ⟨false, 1, if (fmt fm).g.grad then (wid (fmt fm).g : Nat) * p else (wid (fmt fm).g : Nat) * (p + (fmt fm).g.digs - 1)⟩ := fun p => rfl
 have hP0 : h0v (fmt fm) 0 = (fmt fm).g.lo := rfl
 have hP1 : h0v (fmt fm) 1 = (fmt fm).g.hi := rfl
 have hP2 : h0v (fmt fm) 2 = (fmt fm).g.lo + 1 := rfl
 have hP3 : h0v (fmt fm) 3 = -(fmt fm).g.digs := rfl
 have lA := fun j => s0s (n := M) (j := j) (by omega)
 have lA0 := s0s (n := M) (j := 0) (by omega)
 rw [Nat.pow_zero, Nat.div_one] at lA0
 have lP : (dig B16 (2 ^ M)).length ≤ 100000 := by
  obtain ⟨E, hE⟩ : ∃ E, E = 100000 := ⟨_, rfl⟩
  rw [← hE]
  refine (a0e a0j _ E).2 ?_
  exact Nat.lt_of_lt_of_le (Nat.pow_lt_pow_right (by decide) (show M < 16 * E by omega)) (by rw [show B16 = 2 ^ 16 from rfl, ← Nat.pow_mul]; exact Nat.le_refl _)
 rw [← hM] at b2
 have HN : ∀ k, h0w (fmt fm) (fmt tg) k = ((∀ j, j < wid (fmt fm).g → witB (fmt fm) (fmt tg) (f0q (fmt fm) (h0v (fmt fm) k) j) = false) ∧ witB (fmt fm) (fmt tg) (q0x (fmt fm) (h0v (fmt fm) k)) = false) := fun k => rfl
 have hwt : ∀ d, witB (fmt fm) (fmt tg) d = (a0h d (fmt fm).g && !a0h d (fmt tg).g) := fun d => rfl
 have bM : M ≤ 480 := by rw [hM]; exact b1
 obtain ⟨gr, hgr⟩ : ∃ gr, gr = (fmt fm).g.grad := ⟨_, rfl⟩
 rw [← hgr] at hcL
 have HGR := hi0 hgr.symm
 generalize refD fm s = r at *
 generalize (fmt fm).neg (a0s (fmt fm) s) = gn at *
 generalize b0x fm s = ep at *
 clear GF GG HD hf ht hM hgr
 generalize fmt fm = f at *
 generalize fmt tg = g at *
 have hLe : ∀ pp, -17001 ≤ pp ∧ pp ≤ 17001 → -1000000 ≤ (q0x f pp).e ∧ (q0x f pp).e ≤ 1000000 := fun pp h => by
  have q1 := hmul pp 18000 (by omega)
  have q2 := hmul (pp + f.g.digs - 1) 18000 (by omega)
  rw [hcL]
  show -1000000 ≤ (if gr then _ else _) ∧ (if gr then _ else _) ≤ (1000000 : Int)
  split <;> omega
 have hpm := fun k => hmul (h0v f k) 17001 (hpk k)
 have hpf := fun k j => hcf (p := h0v f k) ⟨by have := hpm k; omega, by have := hpm k; omega⟩ j
 have HB1 := fun W p c j pp (k : Nat) (hk : pp = h0v f k) h => hi0 (l0t false p _ c ((wid f.g : Nat) * pp) ((2 ^ M - 1) / 2 ^ j) (f0q f pp j) W h rfl (by have := lA j; omega) (by have := hpm k; subst hk; omega) (hcJ pp j).symm)
 have hstep : ∀ pp j, (∀ i, i < j → witB f g (f0q f pp i) = false) → witB f g (f0q f pp j) = false → ∀ i, i < j + 1 → witB f g (f0q f pp i) = false := fun pp j h h2 i hi => by
  rcases Nat.lt_or_ge i j with k | k
  · exact h i k
  · obtain rfl : i = j := by omega
    exact h2
 have hnext : ∀ k, (∀ i, i < k → h0w f g i) → h0w f g k → ∀ i, i < k + 1 → h0w f g i := fun k h h2 i hi => by
  rcases Nat.lt_or_ge i k with q | q
  · exact h i q
  · obtain rfl : i = k := by omega
    exact h2
 obtain ⟨e9, he9⟩ : ∃ e9, e9 = (ep == 0) := ⟨_, rfl⟩
 have HE9 := hi0 he9.symm
 clear he9
 have I := Inv.start w [tabF] ⟨hT, True.intro⟩
 refine a0d [.v (.int .i64 fm), .v (.int .i64 tg), .v (.string s)] I Tryd.func9 ?_
 refine zq I (fun Al W I => (HX W I.fa.1).out) fun Al W I => ?_
 refine zq I (fun Al W I => (HF1 W).out) fun Al W I => ?_
 refine zq I (fun Al W I => (HF2 W).out) fun Al W I => ?_
 refine zq I (fun Al W I => (HB0 W I.fa.1).out) fun Al W I => ?_
 refine zq I (fun Al W I => (HO W).out) fun Al W I => ?_
 refine zb I 69 (ep == 0) (e9) (HE9.out) fun Al W I => ?_
 refine zcut I (some 2000069) (fun fr bx gs => ∃ (U1 : Nat → Value) , fr = (.v (.int .i64 fm) :: .v (.int .i64 tg) :: .v (.string s) :: su 3 (.v (U1 6) :: .v (.bool false) :: .v (.int .i64 0) :: .p 0 0 :: .v (.bool true) :: .p 1 0 :: .v (.bool true) :: .v (.int .i64 0) :: sw U1 14 2 (su 7 (sw U1 23 21 (.v (.bool false) :: sw U1 45 10 (.v (.bool false) :: sw U1 56 13 (.v (.bool e9) :: sw U1 70 27 (.v undef :: sw U1 98 12 (.v undef :: sw U1 111 22 (.v undef :: sw U1 134 20 (.v undef :: sw U1 155 12 (.v undef :: sw U1 168 14 (.v undef :: [])))))))))))) : List SV) ∧ bx = [⟨53, [.v (.int .i64 (f.size : Int)), .v (.int .i64 (f.E : Int)), .v (.int .i64 (f.F : Int)), .v (.int .i64 f.g.rad), .v (.int .i64 f.g.digs), .v (.int .i64 f.g.lo), .v (.int .i64 f.g.hi), .v (.bool f.g.grad), .v (.int .i64 (f.fam : Int))], false⟩, ⟨53, [.v (.int .i64 (g.size : Int)), .v (.int .i64 (g.E : Int)), .v (.int .i64 (g.F : Int)), .v (.int .i64 g.g.rad), .v (.int .i64 g.g.digs), .v (.int .i64 g.g.lo), .v (.int .i64 g.g.hi), .v (.bool g.g.grad), .v (.int .i64 (g.fam : Int))], false⟩] ∧ gs = [tabF] ∧ (True)) ?_ ?_
 · intro J hJ Al W I
   rcases Bool.eq_false_or_eq_true e9 with rfl | rfl
   · refine zqr I (fun Al W I => (HD' (beq_iff_eq.1 HE9.out) W).out) fun Al W p73 c73 I => ?_
     exact k0a 2 I J fun Al W U I => hJ _ _ _ _ _ ⟨U, rfl, rfl, rfl, trivial⟩ (I.pick [1])
   exact a0m I J fun Al W U I => hJ _ _ _ _ _ ⟨U, rfl, rfl, rfl, trivial⟩ (I.pick [0])
 rintro _ _ _ ⟨U1, rfl, rfl, rfl, ht0⟩ Al W I
 refine zq I (fun Al W I => (HWd W).out) fun Al W I => ?_
 refine zi I 105 .i64 (((wid f.g : Nat) : Int) * f.g.digs) ((M : Int)) ((by rw [← b2]; exact iwo)) fun Al W I => ?_
 refine zqr I (fun Al W I => have hzW := I.bel.size; h1x _ M rfl (by omega) W) fun Al W p106 c106 I => ?_
 refine zqr I (fun Al W I => have hzW := I.bel.size; j1a p106 (some ⟨(lk 0 Al 2), 0, none⟩) _ 1 c106 1 (2 ^ M) 1 (2 ^ M - 1) W I.fa.1.rd (t0y (I.box 2 3 _)).rd rfl i0q (by omega) Nat.one_le_two_pow rfl) fun Al W p108 c108 I => ?_
 refine x0l I (fun gk fr bx gs => ∃ (U900 : Nat → Value) (k : Nat), fr = (.v (.int .i64 fm) :: .v (.int .i64 tg) :: .v (.string s) :: su 3 (.v (U900 6) :: .v (.bool false) :: .v (.int .i64 0) :: .p 0 0 :: .v (.bool true) :: .p 1 0 :: .v (.bool true) :: .v (.int .i64 0) :: .v (U1 14) :: .v (U900 15) :: .v (.int .i64 ((wid f.g : Nat) : Int)) :: .v (.slice p108 (dig B16 (2 ^ M - 1)).length c108) :: .v (.int .i64 (k : Int)) :: sw U900 19 25 (.v (.bool false) :: sw U900 45 10 (.v (.bool false) :: sw U900 56 13 (.v (.bool e9) :: sw U900 70 26 (.v (U1 96) :: .v (.bool false) :: sw U900 98 85 []))))) : List SV) ∧ bx = [⟨53, [.v (.int .i64 (f.size : Int)), .v (.int .i64 (f.E : Int)), .v (.int .i64 (f.F : Int)), .v (.int .i64 f.g.rad), .v (.int .i64 f.g.digs), .v (.int .i64 f.g.lo), .v (.int .i64 f.g.hi), .v (.bool f.g.grad), .v (.int .i64 (f.fam : Int))], false⟩, ⟨53, [.v (.int .i64 (g.size : Int)), .v (.int .i64 (g.E : Int)), .v (.int .i64 (g.F : Int)), .v (.int .i64 g.g.rad), .v (.int .i64 g.g.digs), .v (.int .i64 g.g.lo), .v (.int .i64 g.g.hi), .v (.bool g.g.grad), .v (.int .i64 (g.fam : Int))], false⟩, ⟨3, [.v (.int .i64 1)], false⟩] ∧ gs = [rfF w.heap.size p108 c108 (dig B16 (2 ^ M - 1)), rfF w.heap.size p106 c106 (dig B16 (2 ^ M)), tabF] ∧ (∀ i, i < k → h0w f g i) ∧ (gk + k = 4)) 4 (fun Al W U I => ⟨_, ⟨U, 0, rfl, rfl, rfl, (fun i hi => absurd hi (Nat.not_lt_zero _)), (by omega)⟩, I.pick [0, 1, 2]⟩) ?_
 rintro J0 gk0 _ _ _ ⟨U900, k, rfl, rfl, rfl, hq, hk0⟩ hJ0 Al W I
 rcases Bool.eq_false_or_eq_true (decide ((k : Int) < 4)) with f110 | f110
 · refine zb I 110 (decide ((k : Int) < 4)) (true) (f110) fun Al W I => ?_
   refine zcut I (some 3000020) (fun fr bx gs => ∃ (U2 : Nat → Value) (pp : Int), fr = (.v (.int .i64 fm) :: .v (.int .i64 tg) :: .v (.string s) :: su 3 (.v (U900 6) :: .v (.bool false) :: .v (.int .i64 0) :: .p 0 0 :: .v (.bool true) :: .p 1 0 :: .v (.bool true) :: .v (.int .i64 0) :: .v (U1 14) :: .v (U2 15) :: .v (.int .i64 ((wid f.g : Nat) : Int)) :: .v (.slice p108 (dig B16 (2 ^ M - 1)).length c108) :: .v (.int .i64 (k : Int)) :: .v (.int .i64 pp) :: sw U900 20 3 (sw U2 23 21 (.v (.bool false) :: sw U2 45 10 (.v (.bool false) :: sw U2 56 13 (.v (.bool e9) :: sw U2 70 26 (.v (U1 96) :: .v (.bool false) :: sw U2 98 12 (.v (.bool true) :: sw U2 111 22 (.v (U900 133) :: sw U2 134 20 (.v (U900 154) :: sw U2 155 12 (.v (U900 167) :: sw U2 168 14 (.v (U900 182) :: []))))))))))) : List SV) ∧ bx = [⟨53, [.v (.int .i64 (f.size : Int)), .v (.int .i64 (f.E : Int)), .v (.int .i64 (f.F : Int)), .v (.int .i64 f.g.rad), .v (.int .i64 f.g.digs), .v (.int .i64 f.g.lo), .v (.int .i64 f.g.hi), .v (.bool f.g.grad), .v (.int .i64 (f.fam : Int))], false⟩, ⟨53, [.v (.int .i64 (g.size : Int)), .v (.int .i64 (g.E : Int)), .v (.int .i64 (g.F : Int)), .v (.int .i64 g.g.rad), .v (.int .i64 g.g.digs), .v (.int .i64 g.g.lo), .v (.int .i64 g.g.hi), .v (.bool g.g.grad), .v (.int .i64 (g.fam : Int))], false⟩, ⟨3, [.v (.int .i64 1)], false⟩] ∧ gs = [rfF w.heap.size p108 c108 (dig B16 (2 ^ M - 1)), rfF w.heap.size p106 c106 (dig B16 (2 ^ M)), tabF] ∧ (pp = h0v f k)) ?_ ?_
   · intro J hJ Al W I
     rcases (four (oTr f110)) with rfl | rfl | rfl | rfl
     · refine zi I 122 .i64 (f.g.lo + 1) ((f.g.lo + 1)) ((by exact iwo)) fun Al W I => ?_
       refine zi I 126 .i64 (0 - f.g.digs) ((-f.g.digs)) ((by rw [Int.zero_sub]; exact iwo)) fun Al W I => ?_
       exact k0a 3 I J fun Al W U I => hJ _ _ _ _ _ ⟨U, f.g.lo, rfl, rfl, rfl, rfl⟩ (I.pick [0, 1, 2])
     · refine zi I 122 .i64 (f.g.lo + 1) ((f.g.lo + 1)) ((by exact iwo)) fun Al W I => ?_
       refine zi I 126 .i64 (0 - f.g.digs) ((-f.g.digs)) ((by rw [Int.zero_sub]; exact iwo)) fun Al W I => ?_
       exact k0a 3 I J fun Al W U I => hJ _ _ _ _ _ ⟨U, f.g.hi, rfl, rfl, rfl, rfl⟩ (I.pick [0, 1, 2])
     · refine zi I 122 .i64 (f.g.lo + 1) ((f.g.lo + 1)) ((by exact iwo)) fun Al W I => ?_
       refine zi I 126 .i64 (0 - f.g.digs) ((-f.g.digs)) ((by rw [Int.zero_sub]; exact iwo)) fun Al W I => ?_
       exact k0a 3 I J fun Al W U I => hJ _ _ _ _ _ ⟨U, (f.g.lo + 1), rfl, rfl, rfl, rfl⟩ (I.pick [0, 1, 2])
     refine zi I 122 .i64 (f.g.lo + 1) ((f.g.lo + 1)) ((by exact iwo)) fun Al W I => ?_
     refine zi I 126 .i64 (0 - f.g.digs) ((-f.g.digs)) ((by rw [Int.zero_sub]; exact iwo)) fun Al W I => ?_
     exact k0a 3 I J fun Al W U I => hJ _ _ _ _ _ ⟨U, (-f.g.digs), rfl, rfl, rfl, rfl⟩ (I.pick [0, 1, 2])
   rintro _ _ _ ⟨U2, pp, rfl, rfl, rfl, hpp⟩ Al W I
   refine x0l I (fun gk fr bx gs => ∃ (U901 : Nat → Value) (j : Nat), fr = (.v (.int .i64 fm) :: .v (.int .i64 tg) :: .v (.string s) :: su 3 (.v (U901 6) :: .v (.bool false) :: .v (.int .i64 0) :: .p 0 0 :: .v (.bool true) :: .p 1 0 :: .v (.bool true) :: .v (.int .i64 0) :: .v (U1 14) :: .v (U901 15) :: .v (.int .i64 ((wid f.g : Nat) : Int)) :: .v (.slice p108 (dig B16 (2 ^ M - 1)).length c108) :: .v (.int .i64 (k : Int)) :: .v (.int .i64 pp) :: .v (.int .i64 (j : Int)) :: .v (U901 21) :: .v (U900 22) :: sw U901 23 21 (.v (.bool false) :: sw U901 45 10 (.v (.bool false) :: sw U901 56 13 (.v (.bool e9) :: sw U901 70 26 (.v (U1 96) :: .v (.bool false) :: sw U901 98 12 (.v (.bool true) :: sw U901 111 56 (.v (U900 167) :: sw U901 168 14 (.v (U900 182) :: [])))))))) : List SV) ∧ bx = [⟨53, [.v (.int .i64 (f.size : Int)), .v (.int .i64 (f.E : Int)), .v (.int .i64 (f.F : Int)), .v (.int .i64 f.g.rad), .v (.int .i64 f.g.digs), .v (.int .i64 f.g.lo), .v (.int .i64 f.g.hi), .v (.bool f.g.grad), .v (.int .i64 (f.fam : Int))], false⟩, ⟨53, [.v (.int .i64 (g.size : Int)), .v (.int .i64 (g.E : Int)), .v (.int .i64 (g.F : Int)), .v (.int .i64 g.g.rad), .v (.int .i64 g.g.digs), .v (.int .i64 g.g.lo), .v (.int .i64 g.g.hi), .v (.bool g.g.grad), .v (.int .i64 (g.fam : Int))], false⟩, ⟨3, [.v (.int .i64 1)], false⟩] ∧ gs = [rfF w.heap.size p108 c108 (dig B16 (2 ^ M - 1)), rfF w.heap.size p106 c106 (dig B16 (2 ^ M)), tabF] ∧ (∀ i, i < j → witB f g (f0q f pp i) = false) ∧ (gk + j = wid f.g)) (wid f.g) (fun Al W U I => ⟨_, ⟨U, 0, rfl, rfl, rfl, (fun i hi => absurd hi (Nat.not_lt_zero _)), (by omega)⟩, I.pick [0, 1, 2]⟩) ?_
   rintro J1 gk1 _ _ _ ⟨U901, j, rfl, rfl, rfl, hno, hgk⟩ hJ1 Al W I
   rcases Bool.eq_false_or_eq_true (decide ((j : Int) < ((wid f.g : Nat) : Int))) with f133 | f133
   · refine zb I 133 (decide ((j : Int) < ((wid f.g : Nat) : Int))) (true) (f133) fun Al W I => ?_
     refine zqr I (fun Al W I => have hzW := I.bel.size; j1h p108 _ c108 (2 ^ M - 1) j _ _ W I.fa.1.rd rfl (by omega) (by omega) rfl rfl) fun Al W p138 c138 I => ?_
     refine zi I 141 .i64 (((wid f.g : Nat) : Int) * pp) (((wid f.g : Nat) * pp)) ((by have := hpm k; rw [← hpp] at this; exact iwo)) fun Al W I => ?_
     refine zqr I (fun Al W I => (HB1 W p138 c138 j pp k hpp I.fa.1.rd).out) fun Al W p143 c143 I => ?_
     refine zq I (fun Al W I => have hzW := I.bel.size; (HI1 W (f0q f pp j) p143 c143 I.fa.1.rd (by have := hpf k j; rw [← hpp] at this; omega) (by have := hpf k j; rw [← hpp] at this; omega)).out) fun Al W I => ?_
     rcases Bool.eq_false_or_eq_true (a0h (f0q f pp j) f.g) with f148 | f148
     · refine zb I 148 (a0h (f0q f pp j) f.g) (true) (f148) fun Al W I => ?_
       refine zq I (fun Al W I => have hzW := I.bel.size; (HI2 W (f0q f pp j) p143 c143 I.fa.1.rd (by have := hpf k j; rw [← hpp] at this; omega) (by have := hpf k j; rw [← hpp] at this; omega)).out) fun Al W I => ?_
       rcases Bool.eq_false_or_eq_true (!(a0h (f0q f pp j) g.g)) with f153 | f153
       · refine zb I 153 (!(a0h (f0q f pp j) g.g)) (true) (f153) fun Al W I => ?_
         refine zret I (v := fun Al => .bool true) fun Al W I => ?_
         first | exact ⟨rfl, I.below⟩ | exact (HE.out (hq 0 (by have := oFa f110; omega)) (hq 1 (by have := oFa f110; omega)) (hq 2 (by have := oFa f110; omega)) (hq 3 (by have := oFa f110; omega))).elim
       refine zb I 153 (!(a0h (f0q f pp j) g.g)) (false) (f153) fun Al W I => ?_
       refine zi I 135 .i64 ((j : Int) + 1) (((j + 1 : Nat) : Int)) ((by rw [show ((j : Int) + 1) = ((j + 1 : Nat) : Int) by omega]; exact iwo)) fun Al W I => ?_
       exact k0a 3 I J1 fun Al W U I => hJ1 (gk1 - 1) _ _ _ _ _ ((by have := oTr f133; omega)) ⟨U, j + 1, rfl, rfl, rfl, (hstep pp j hno (by rw [hwt, f153, Bool.and_false])), (by have := oTr f133; omega)⟩ (I.pick [2, 3, 4])
     refine zb I 148 (a0h (f0q f pp j) f.g) (false) (f148) fun Al W I => ?_
     refine zi I 135 .i64 ((j : Int) + 1) (((j + 1 : Nat) : Int)) ((by rw [show ((j : Int) + 1) = ((j + 1 : Nat) : Int) by omega]; exact iwo)) fun Al W I => ?_
     exact k0a 3 I J1 fun Al W U I => hJ1 (gk1 - 1) _ _ _ _ _ ((by have := oTr f133; omega)) ⟨U, j + 1, rfl, rfl, rfl, (hstep pp j hno (by rw [hwt, f148, Bool.false_and])), (by have := oTr f133; omega)⟩ (I.pick [2, 3, 4])
   refine zb I 133 (decide ((j : Int) < ((wid f.g : Nat) : Int))) (false) (f133) fun Al W I => ?_
   refine zi I 161 .i64 (pp + f.g.digs) ((pp + f.g.digs)) ((by have := hpk k; rw [← hpp] at this; exact iwo)) fun Al W I => ?_
   refine zi I 162 .i64 ((pp + f.g.digs) - 1) ((pp + f.g.digs - 1)) ((by have := hpk k; rw [← hpp] at this; exact iwo)) fun Al W I => ?_
   refine zi I 163 .i64 (((wid f.g : Nat) : Int) * (pp + f.g.digs - 1)) (((wid f.g : Nat) * (pp + f.g.digs - 1))) ((by have := hpk k; rw [← hpp] at this; have := hmul (pp + f.g.digs - 1) 18000 (by omega); exact iwo)) fun Al W I => ?_
   refine zb I 167 (f.g.grad) (gr) (HGR.out) fun Al W I => ?_
   refine zcut I (some 2000167) (fun fr bx gs => ∃ (U3 : Nat → Value) (ee : Int), fr = (.v (.int .i64 fm) :: .v (.int .i64 tg) :: .v (.string s) :: su 3 (.v (U901 6) :: .v (.bool false) :: .v (.int .i64 0) :: .p 0 0 :: .v (.bool true) :: .p 1 0 :: .v (.bool true) :: .v (.int .i64 0) :: .v (U1 14) :: .v (U3 15) :: .v (.int .i64 ((wid f.g : Nat) : Int)) :: .v (.slice p108 (dig B16 (2 ^ M - 1)).length c108) :: .v (.int .i64 (k : Int)) :: .v (.int .i64 pp) :: .v (.int .i64 (j : Int)) :: .v (U901 21) :: .p 4 0 :: sw U3 23 21 (.v (.bool false) :: sw U3 45 10 (.v (.bool false) :: sw U3 56 13 (.v (.bool e9) :: sw U3 70 26 (.v (U1 96) :: .v (.bool false) :: sw U3 98 12 (.v (.bool true) :: sw U3 111 22 (.v (.bool false) :: sw U3 134 20 (.v (U901 154) :: sw U3 155 12 (.v (.bool gr) :: sw U3 168 14 (.v (U900 182) :: [])))))))))) : List SV) ∧ bx = [⟨53, [.v (.int .i64 (f.size : Int)), .v (.int .i64 (f.E : Int)), .v (.int .i64 (f.F : Int)), .v (.int .i64 f.g.rad), .v (.int .i64 f.g.digs), .v (.int .i64 f.g.lo), .v (.int .i64 f.g.hi), .v (.bool f.g.grad), .v (.int .i64 (f.fam : Int))], false⟩, ⟨53, [.v (.int .i64 (g.size : Int)), .v (.int .i64 (g.E : Int)), .v (.int .i64 (g.F : Int)), .v (.int .i64 g.g.rad), .v (.int .i64 g.g.digs), .v (.int .i64 g.g.lo), .v (.int .i64 g.g.hi), .v (.bool g.g.grad), .v (.int .i64 (g.fam : Int))], false⟩, ⟨3, [.v (.int .i64 1)], false⟩, ⟨3, [.v (.int .i64 1)], false⟩, ⟨59, [.v (.bool false), .s 3 0 1 1, .v (.int .i64 ee)], false⟩] ∧ gs = [rfF w.heap.size p108 c108 (dig B16 (2 ^ M - 1)), rfF w.heap.size p106 c106 (dig B16 (2 ^ M)), tabF] ∧ ((⟨false, 1, ee⟩ : Dv) = q0x f pp)) ?_ ?_
   · intro J hJ Al W I
     rcases Bool.eq_false_or_eq_true gr with rfl | rfl
     · refine zi I 170 .i64 (((wid f.g : Nat) : Int) * pp) (((wid f.g : Nat) * pp)) ((by have := hpm k; rw [← hpp] at this; exact iwo)) fun Al W I => ?_
       exact a0m I J fun Al W U I => hJ _ _ _ _ _ ⟨U, ((wid f.g : Nat) * pp), rfl, rfl, rfl, (by rw [hcL]; rfl)⟩ (I.pick [0, 1, 2])
     exact a0m I J fun Al W U I => hJ _ _ _ _ _ ⟨U, ((wid f.g : Nat) * (pp + f.g.digs - 1)), rfl, rfl, rfl, (by rw [hcL]; rfl)⟩ (I.pick [0, 1, 2])
   rintro _ _ _ ⟨U3, ee, rfl, rfl, rfl, hee⟩ Al W I
   refine zcut I (some 3000030) (fun fr bx gs => ∃ (U4 : Nat → Value) (wt : Bool), fr = (.v (.int .i64 fm) :: .v (.int .i64 tg) :: .v (.string s) :: su 3 (.v (U901 6) :: .v (.bool false) :: .v (.int .i64 0) :: .p 0 0 :: .v (.bool true) :: .p 1 0 :: .v (.bool true) :: .v (.int .i64 0) :: .v (U1 14) :: .v (U4 15) :: .v (.int .i64 ((wid f.g : Nat) : Int)) :: .v (.slice p108 (dig B16 (2 ^ M - 1)).length c108) :: .v (.int .i64 (k : Int)) :: .v (.int .i64 pp) :: .v (.int .i64 (j : Int)) :: .v (U901 21) :: .p 4 0 :: sw U4 23 21 (.v (.bool false) :: sw U4 45 10 (.v (.bool false) :: sw U4 56 13 (.v (.bool e9) :: sw U4 70 26 (.v (U1 96) :: .v (.bool false) :: sw U4 98 12 (.v (.bool true) :: sw U4 111 22 (.v (.bool false) :: sw U4 134 20 (.v (U901 154) :: sw U4 155 12 (.v (.bool gr) :: sw U4 168 14 (.v (.bool wt) :: [])))))))))) : List SV) ∧ bx = [⟨53, [.v (.int .i64 (f.size : Int)), .v (.int .i64 (f.E : Int)), .v (.int .i64 (f.F : Int)), .v (.int .i64 f.g.rad), .v (.int .i64 f.g.digs), .v (.int .i64 f.g.lo), .v (.int .i64 f.g.hi), .v (.bool f.g.grad), .v (.int .i64 (f.fam : Int))], false⟩, ⟨53, [.v (.int .i64 (g.size : Int)), .v (.int .i64 (g.E : Int)), .v (.int .i64 (g.F : Int)), .v (.int .i64 g.g.rad), .v (.int .i64 g.g.digs), .v (.int .i64 g.g.lo), .v (.int .i64 g.g.hi), .v (.bool g.g.grad), .v (.int .i64 (g.fam : Int))], false⟩, ⟨3, [.v (.int .i64 1)], false⟩, ⟨3, [.v (.int .i64 1)], false⟩, ⟨59, [.v (.bool false), .s 3 0 1 1, .v (.int .i64 ee)], false⟩] ∧ gs = [rfF w.heap.size p108 c108 (dig B16 (2 ^ M - 1)), rfF w.heap.size p106 c106 (dig B16 (2 ^ M)), tabF] ∧ (witB f g (q0x f pp) = wt)) ?_ ?_
   · intro J hJ Al W I
     refine zq I (fun Al W I => have hzW := I.bel.size; (HL1 W ee (some ⟨(lk 0 Al 3), 0, none⟩) (t0y (I.box 3 3 _)).rd (by have := hpk k; rw [← hpp] at this; have := hLe pp (by omega); rw [← hee] at this; exact this)).out) fun Al W I => ?_
     rcases Bool.eq_false_or_eq_true (a0h ⟨false, 1, ee⟩ f.g) with f176 | f176
     · refine zb I 176 (a0h ⟨false, 1, ee⟩ f.g) (true) (f176) fun Al W I => ?_
       refine zq I (fun Al W I => have hzW := I.bel.size; (HL2 W ee (some ⟨(lk 0 Al 3), 0, none⟩) (t0y (I.box 3 3 _)).rd (by have := hpk k; rw [← hpp] at this; have := hLe pp (by omega); rw [← hee] at this; exact this)).out) fun Al W I => ?_
       rcases Bool.eq_false_or_eq_true (!(a0h ⟨false, 1, ee⟩ g.g)) with f181 | f181
       · refine zb I 181 (!(a0h ⟨false, 1, ee⟩ g.g)) (true) (f181) fun Al W I => ?_
         exact a0m I J fun Al W U I => hJ _ _ _ _ _ ⟨U, true, rfl, rfl, rfl, (by rw [hwt, ← hee, f176, f181]; rfl)⟩ (I.pick [0, 1, 2])
       refine zb I 181 (!(a0h ⟨false, 1, ee⟩ g.g)) (false) (f181) fun Al W I => ?_
       exact a0m I J fun Al W U I => hJ _ _ _ _ _ ⟨U, false, rfl, rfl, rfl, (by rw [hwt, ← hee, f181, Bool.and_false])⟩ (I.pick [0, 1, 2])
     refine zb I 176 (a0h ⟨false, 1, ee⟩ f.g) (false) (f176) fun Al W I => ?_
     exact a0m I J fun Al W U I => hJ _ _ _ _ _ ⟨U, false, rfl, rfl, rfl, (by rw [hwt, ← hee, f176, Bool.false_and])⟩ (I.pick [0, 1, 2])
   rintro _ _ _ ⟨U4, wt, rfl, rfl, rfl, hw⟩ Al W I
   refine zcut I (some 2000182) (fun fr bx gs => ∃ (U5 : Nat → Value) , fr = (.v (.int .i64 fm) :: .v (.int .i64 tg) :: .v (.string s) :: su 3 (.v (U5 6) :: .v (.bool false) :: .v (.int .i64 0) :: .p 0 0 :: .v (.bool true) :: .p 1 0 :: .v (.bool true) :: .v (.int .i64 0) :: .v (U1 14) :: .v (U5 15) :: .v (.int .i64 ((wid f.g : Nat) : Int)) :: .v (.slice p108 (dig B16 (2 ^ M - 1)).length c108) :: .v (.int .i64 (k : Int)) :: .v (.int .i64 pp) :: .v (.int .i64 (j : Int)) :: .v (U901 21) :: .p 4 0 :: sw U5 23 21 (.v (.bool false) :: sw U5 45 10 (.v (.bool false) :: sw U5 56 13 (.v (.bool e9) :: sw U5 70 26 (.v (U1 96) :: .v (.bool false) :: sw U5 98 12 (.v (.bool true) :: sw U5 111 22 (.v (.bool false) :: sw U5 134 20 (.v (U901 154) :: sw U5 155 12 (.v (.bool gr) :: sw U5 168 14 (.v (.bool wt) :: [])))))))))) : List SV) ∧ bx = [⟨53, [.v (.int .i64 (f.size : Int)), .v (.int .i64 (f.E : Int)), .v (.int .i64 (f.F : Int)), .v (.int .i64 f.g.rad), .v (.int .i64 f.g.digs), .v (.int .i64 f.g.lo), .v (.int .i64 f.g.hi), .v (.bool f.g.grad), .v (.int .i64 (f.fam : Int))], false⟩, ⟨53, [.v (.int .i64 (g.size : Int)), .v (.int .i64 (g.E : Int)), .v (.int .i64 (g.F : Int)), .v (.int .i64 g.g.rad), .v (.int .i64 g.g.digs), .v (.int .i64 g.g.lo), .v (.int .i64 g.g.hi), .v (.bool g.g.grad), .v (.int .i64 (g.fam : Int))], false⟩, ⟨3, [.v (.int .i64 1)], false⟩, ⟨3, [.v (.int .i64 1)], false⟩, ⟨59, [.v (.bool false), .s 3 0 1 1, .v (.int .i64 ee)], false⟩] ∧ gs = [rfF w.heap.size p108 c108 (dig B16 (2 ^ M - 1)), rfF w.heap.size p106 c106 (dig B16 (2 ^ M)), tabF] ∧ (witB f g (q0x f pp) = false)) ?_ ?_
   · intro J hJ Al W I
     rcases Bool.eq_false_or_eq_true wt with rfl | rfl
     · refine zret I (v := fun Al => .bool true) fun Al W I => ?_
       first | exact ⟨rfl, I.below⟩ | exact (HE.out (hq 0 (by have := oFa f110; omega)) (hq 1 (by have := oFa f110; omega)) (hq 2 (by have := oFa f110; omega)) (hq 3 (by have := oFa f110; omega))).elim
     exact a0m I J fun Al W U I => hJ _ _ _ _ _ ⟨U, rfl, rfl, rfl, hw⟩ (I.pick [0, 1, 2])
   rintro _ _ _ ⟨U5, rfl, rfl, rfl, hx⟩ Al W I
   refine zi I 112 .i64 ((k : Int) + 1) (((k + 1 : Nat) : Int)) ((by rw [show ((k : Int) + 1) = ((k + 1 : Nat) : Int) by omega]; exact IntWalk.i64_in _ (by have := oTr f110; omega))) fun Al W I => ?_
   exact k0a 3 I J0 fun Al W U I => hJ0 (gk0 - 1) _ _ _ _ _ ((by have := oTr f110; omega)) ⟨U, k + 1, rfl, rfl, rfl, (hnext k hq (by rw [HN, ← hpp]; exact ⟨fun i hi => hno i (by have := oFa f133; omega), hx⟩)), (by have := oTr f110; omega)⟩ (I.pick [0, 1, 2])
 refine zb I 110 (decide ((k : Int) < 4)) (false) (f110) fun Al W I => ?_
 refine zret I (v := fun Al => .bool false) fun Al W I => ?_
 first | exact ⟨rfl, I.below⟩ | exact (HE.out (hq 0 (by have := oFa f110; omega)) (hq 1 (by have := oFa f110; omega)) (hq 2 (by have := oFa f110; omega)) (hq 3 (by have := oFa f110; omega))).elim
theorem m0e (fm tg : Int) (s : ByteArray) (w : World) (hT : TabW w) : Calls Tryd.prog 9 #[.int .i64 fm, .int .i64 tg, .string s] w fun en w' => en = .returned (.bool true) ∧ Below w.heap.size w w' := by
 have HB0 := fun W h => hi0 (i0v W h)
 have HX := fun W h => hi0 (q0w fm tg W h)
 have HF1 := fun W => hi0 (e0i fm W)
 have HF2 := fun W => hi0 (e0i tg W)
 by_cases hft : IsFm fm ∧ IsFm tg
 · obtain ⟨hf, ht⟩ := hft
   have HO := fun W => hi0 (l0u fm s W)
   have HD := fun W h => hi0 (g0o fm s W hf h)
   have F := z0r (s := s) hf
   have GF := b0h (c0e hf).g
   have GG := b0h (c0e ht).g
   have HWd := fun W => hi0 (c0k (fmt fm).g W)
   have e1 : oEx fm tg = i0w (fmt fm) (fmt tg) := by unfold oEx; rw [if_pos ⟨hf, ht⟩]
   have e2 : eEx fm tg = 0 := by unfold eEx; rw [if_pos ⟨hf, ht⟩]
   rw [e1, e2] at HX
   rw [decide_eq_true hf] at HF1
   rw [decide_eq_true ht] at HF2
   by_cases hE : i0w (fmt fm) (fmt tg) = true
   · rw [hE] at HX
     have hsub := fun h => c1o hf ht hE (x := (refD fm s).x) h
     rw [show (fmt fm).refN (a0s (fmt fm) s) = refD fm s from rfl] at HD
     have hx := F.ok
     have l1 := hx.len
     have l2 := hx.lo
     have l3 := hx.hi
     have l4 := w0m (refD fm s).x.m
     have HI1 := fun W p c h => hi0 (c0q (refD fm s).x.neg p _ c (refD fm s).x.e (refD fm s).x.m (fmt fm).g W h rfl (by omega) (by omega) GF)
     have HI2 := fun W p c h => hi0 (c0q (refD fm s).x.neg p _ c (refD fm s).x.e (refD fm s).x.m (fmt tg).g W h rfl (by omega) (by omega) GG)
     generalize (fmt fm).neg (a0s (fmt fm) s) = gn at *
     generalize refD fm s = r at *
     rw [show (⟨r.x.neg, r.x.m, r.x.e⟩ : Dv) = r.x from rfl] at HI1 HI2
     have HP0 : ∀ (k : b0x fm s = 0) W, _ := fun k W => HD W (c0y.1 k).2
     unfold i0u at HP0
     generalize b0x fm s = ep at *
     generalize fmt fm = f at *
     generalize fmt tg = g at *
     by_cases hp : ep = 0
     · rw [hp] at HO
       have HP := HP0 hp
       by_cases hi : a0h r.x f.g = true
       · rw [hi] at HI1
         rw [hsub hi] at HI2
         clear F GF GG hx l1 l2 l3 l4 hsub hi HD HP0
         have I := Inv.start w [tabF] ⟨hT, True.intro⟩
         refine a0d [.v (.int .i64 fm), .v (.int .i64 tg), .v (.string s)] I Tryd.func9 ?_
         refine zq I (fun Al W I => (HX W I.fa.1).out) fun Al W I => ?_
         refine zq I (fun Al W I => (HF1 W).out) fun Al W I => ?_
         refine zq I (fun Al W I => (HF2 W).out) fun Al W I => ?_
         refine zq I (fun Al W I => (HB0 W I.fa.1).out) fun Al W I => ?_
         refine zq I (fun Al W I => (HO W).out) fun Al W I => ?_
         refine zqr I (fun Al W I => (HP W).out) fun Al W p73 c73 I => ?_
         by_cases h2 : r.cls = 2
         · refine zb I 80 ((r.cls : Int) == 2) (true) (beq_iff_eq.2 (by omega)) fun Al W I => ?_
           refine zq I (fun Al W I => (HI1 W p73 c73 I.fa.1.rd).out) fun Al W I => ?_
           refine zq I (fun Al W I => (HI2 W p73 c73 I.fa.1.rd).out) fun Al W I => ?_
           exact zrb I
         refine zb I 80 ((r.cls : Int) == 2) (false) (bFn (by omega)) fun Al W I => ?_
         exact zrb I
       · rw [show a0h r.x f.g = false by simpa using hi] at HI1
         clear F GF GG hx l1 l2 l3 l4 hsub hi HD HP0
         have I := Inv.start w [tabF] ⟨hT, True.intro⟩
         refine a0d [.v (.int .i64 fm), .v (.int .i64 tg), .v (.string s)] I Tryd.func9 ?_
         refine zq I (fun Al W I => (HX W I.fa.1).out) fun Al W I => ?_
         refine zq I (fun Al W I => (HF1 W).out) fun Al W I => ?_
         refine zq I (fun Al W I => (HF2 W).out) fun Al W I => ?_
         refine zq I (fun Al W I => (HB0 W I.fa.1).out) fun Al W I => ?_
         refine zq I (fun Al W I => (HO W).out) fun Al W I => ?_
         refine zqr I (fun Al W I => (HP W).out) fun Al W p73 c73 I => ?_
         by_cases h2 : r.cls = 2
         · refine zb I 80 ((r.cls : Int) == 2) (true) (beq_iff_eq.2 (by omega)) fun Al W I => ?_
           refine zq I (fun Al W I => (HI1 W p73 c73 I.fa.1.rd).out) fun Al W I => ?_
           exact zrb I
         refine zb I 80 ((r.cls : Int) == 2) (false) (bFn (by omega)) fun Al W I => ?_
         exact zrb I
     · clear F GF GG hx l1 l2 l3 l4 hsub HD HP0
       have I := Inv.start w [tabF] ⟨hT, True.intro⟩
       refine a0d [.v (.int .i64 fm), .v (.int .i64 tg), .v (.string s)] I Tryd.func9 ?_
       refine zq I (fun Al W I => (HX W I.fa.1).out) fun Al W I => ?_
       refine zq I (fun Al W I => (HF1 W).out) fun Al W I => ?_
       refine zq I (fun Al W I => (HF2 W).out) fun Al W I => ?_
       refine zq I (fun Al W I => (HB0 W I.fa.1).out) fun Al W I => ?_
       refine zq I (fun Al W I => (HO W).out) fun Al W I => ?_
       refine zb I 69 (ep == 0) (false) (bFn hp) fun Al W I => ?_
       exact zrb I
   · exact z0w fm tg s w hT hf ht (by simpa using hE)
 · have hb : (!decide (IsFm fm)) = true ∨ (!decide (IsFm tg)) = true := by
    by_cases k : IsFm fm
    · right; simp; exact fun h => hft ⟨k, h⟩
    · left; simp; exact k
   have e1 : oEx fm tg = false := by unfold oEx; rw [if_neg hft]
   have e2 : eEx fm tg = 6 := by unfold eEx; rw [if_neg hft]
   rw [e1, e2] at HX
   clear hft e1 e2
   generalize decide (IsFm fm) = d1 at *
   generalize decide (IsFm tg) = d2 at *
   generalize fmt fm = f at *
   generalize fmt tg = g at *
   have I := Inv.start w [tabF] ⟨hT, True.intro⟩
   refine a0d [.v (.int .i64 fm), .v (.int .i64 tg), .v (.string s)] I Tryd.func9 ?_
   refine zq I (fun Al W I => (HX W I.fa.1).out) fun Al W I => ?_
   refine zq I (fun Al W I => (HF1 W).out) fun Al W I => ?_
   refine zq I (fun Al W I => (HF2 W).out) fun Al W I => ?_
   rcases Bool.eq_false_or_eq_true (!d1) with f40 | f40
   · refine zb I 40 (!d1) (true) (f40) fun Al W I => ?_
     refine zq I (fun Al W I => (HB0 W I.fa.1).out) fun Al W I => ?_
     refine zq I (fun Al W I => (HB0 W I.fa.1).out) fun Al W I => ?_
     exact zrb I
   refine zb I 40 (!d1) (false) (f40) fun Al W I => ?_
   refine zb I 43 (!d2) (true) ((by rw [f40] at hb; simpa using hb)) fun Al W I => ?_
   refine zq I (fun Al W I => (HB0 W I.fa.1).out) fun Al W I => ?_
   refine zq I (fun Al W I => (HB0 W I.fa.1).out) fun Al W I => ?_
   exact zrb I
end Go.Proofs.YtmacohmclpnphaaDoor
