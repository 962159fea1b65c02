/- conv: Exact. -/
import Derived.Deep.LoopGhost
import Derived.Deep.RegionHeld3
import Derived.Lib.Strings
import Derived.Lib.Slices
import Derived.Lib.Small
import Derived.Lib.Walk
import Derived.Lib.BitFns
import Derived.Test.YtbamiajjampgnaaGreatDoorTRk1
import Derived.Test.YtbamiajjampgnaaGreatDoorTRk2
import Derived.Test.YtbamiajjampgnaaGreatDoorTRk3
import Derived.Test.YtbamiajjampgnaaGreatDoorTRk4
import Derived.Test.YtbamiajjampgnaaGreatDoorTRk5
import Derived.Test.YtbamiajjampgnaaGreatDoorTRk6
import Derived.Test.YtbamiajjampgnaaGreatDoorTRk7
set_option maxHeartbeats 8000000
set_option maxRecDepth 100000
namespace Go.Proofs.YtbamiajjampgnaaGreatDoor
open Go.RowKit Go.Slip
def exG (f : Fm) : Dv := bare ⟨false, 2 ^ (wid f.g * f.g.digs.toNat) - 1, wid f.g * f.g.hi⟩
def exL (f : Fm) : Dv := bare ⟨false, 2 ^ (wid f.g * f.g.digs.toNat) - 1, wid f.g * f.g.lo⟩
def exM (f : Fm) (b : Bool) : Dv := cond b (bare ⟨false, 1, wid f.g * (f.g.lo + f.g.digs - 1)⟩) (bare ⟨false, 1, wid f.g * f.g.lo⟩)
def m0x (f g : Fm) : Bool := a0i (exG f) g.g && (a0i (exL f) g.g && (a0i (exM f (!f.g.grad)) g.g && (!(g.g.rad == 16) || (decide (4 * (g.g.digs - 1) + 1 ≥ wid f.g * f.g.digs) || f.g.rad == 16))))
theorem r0e {m : Nat} {e : Int} (hl : (dig B32 m).length ≤ 16) (he : -80000 ≤ e ∧ e ≤ 80000) : (dig B32 (bare ⟨false, m, e⟩).m).length ≤ 16 ∧ -100000 ≤ (bare ⟨false, m, e⟩).e ∧ (bare ⟨false, m, e⟩).e ≤ 100000 := by
 have h1 := i0w a0a ⟨false, m, e⟩
 have h2 := r0s ⟨false, m, e⟩ (n := 16) hl (lo := -80000) (hi := 80000) (by simp only; omega) (by simp only; omega) (by omega) (by omega)
 simp only at h1
 omega
theorem h1z (fm tg : Int) (w : World) (hf : IsFm fm) (ht : IsFm tg) (hT : TabW w) :
 Calls Tryz.prog 41 #[.int .i64 fm, .int .i64 tg] w fun en w' => en = .returned (.tuple #[.bool (m0x (fmt fm) (fmt tg)), .int .i64 0]) ∧ Below w.heap.size w w' := by
 have HG1 := fun W => hi0 (g0k fm W)
 have HG2 := fun W => hi0 (g0k tg W)
 have e1 : b0f fm = 0 := by unfold b0f; rw [if_pos hf]
 have e2 : b0f tg = 0 := by unfold b0f; rw [if_pos ht]
 rw [e1] at HG1
 rw [e2] at HG2
 have F := b0m (b0h hf).g
 have G := b0m (b0h ht).g
 have hEx : m0x (fmt fm) (fmt tg) = (a0i (exG (fmt fm)) (fmt tg).g && (a0i (exL (fmt fm)) (fmt tg).g && (a0i (exM (fmt fm) (!(fmt fm).g.grad)) (fmt tg).g && (!((fmt tg).g.rad == 16) || (decide (4 * ((fmt tg).g.digs - 1) + 1 ≥ wid (fmt fm).g * (fmt fm).g.digs) || (fmt fm).g.rad == 16))))) := rfl
 generalize fmt fm = f at *
 generalize fmt tg = g at *
 generalize m0x f g = EX at *
 have d1 := F.d1
 have d2 := F.d2
 have f1 := F.l1
 have f2 := F.l2
 have f3 := F.h1
 have f4 := F.h2
 have g1 := G.d1
 have g2 := G.d2
 have wp := a0z f.g
 have hmd : ((wid f.g * f.g.digs.toNat : Nat) : Int) = (wid f.g : Nat) * f.g.digs := by rw [Int.natCast_mul, Int.toNat_of_nonneg (by omega)]
 have hmb : wid f.g * f.g.digs.toNat ≤ 4 * 120 := Nat.mul_le_mul wp.2 (by omega)
 have b1 := k0n (wd := wid f.g) (k := f.g.lo) (B := 17000) wp.2 ⟨by omega, by omega⟩
 have b2 := k0n (wd := wid f.g) (k := f.g.hi) (B := 17000) wp.2 ⟨by omega, by omega⟩
 have b3 := k0n (wd := wid f.g) (k := f.g.lo + f.g.digs - 1) (B := 17200) wp.2 ⟨by omega, by omega⟩
 have hwd : wid f.g = if f.g.rad = 16 then 4 else 1 := rfl
 have l1 : (dig B32 1).length ≤ 1 := by rw [a0f a0a]; unfold B32; omega
 have l2 : (dig B32 (2 ^ (wid f.g * f.g.digs.toNat))).length ≤ 16 := e0n (by omega)
 have h1 := Nat.one_le_two_pow (n := wid f.g * f.g.digs.toNat)
 have l3 : (dig B32 (2 ^ (wid f.g * f.g.digs.toNat) - 1)).length ≤ 16 := Nat.le_trans (a0l a0a (Nat.sub_le _ _)) l2
 have HW1 := fun W p c h1 h2 h3 => hi0 (f0f p _ c (wid f.g * f.g.hi) (2 ^ (wid f.g * f.g.digs.toNat) - 1) W h1 rfl h2 (by omega) (by omega) h3)
 have HW2 := fun W p c h1 h2 h3 => hi0 (f0f p _ c (wid f.g * f.g.lo) (2 ^ (wid f.g * f.g.digs.toNat) - 1) W h1 rfl h2 (by omega) (by omega) h3)
 have HW3 := fun W p c h1 h2 h3 => hi0 (f0f p _ c (wid f.g * f.g.lo) 1 W h1 rfl h2 (by omega) (by omega) h3)
 have HW4 := fun W p c h1 h2 h3 => hi0 (f0f p _ c (wid f.g * (f.g.lo + f.g.digs - 1)) 1 W h1 rfl h2 (by omega) (by omega) h3)
 have HKe := fun (x : Dv) (hB : Bare x) (hl : (dig B32 x.m).length ≤ 16) (he : -100000 ≤ x.e ∧ x.e ≤ 100000) W p c h => hi0 ((k0z hB G) ▸ k0h x.neg p c x.e x.m g.g W h (by omega) (by omega) G)
 have n1 := r0e (e := wid f.g * f.g.hi) l3 (by omega)
 have n2 := r0e (e := wid f.g * f.g.lo) l3 (by omega)
 have n3 := r0e (m := 1) (e := wid f.g * f.g.lo) (by omega) (by omega)
 have n4 := r0e (m := 1) (e := wid f.g * (f.g.lo + f.g.digs - 1)) (by omega) (by omega)
 have K1 := HKe _ (d0m ⟨false, 2 ^ (wid f.g * f.g.digs.toNat) - 1, wid f.g * f.g.hi⟩) n1.1 n1.2
 have K2 := HKe _ (d0m ⟨false, 2 ^ (wid f.g * f.g.digs.toNat) - 1, wid f.g * f.g.lo⟩) n2.1 n2.2
 have K3 : ∀ b : Bool, _ := fun b => HKe (cond b (bare ⟨false, 1, wid f.g * (f.g.lo + f.g.digs - 1)⟩) (bare ⟨false, 1, wid f.g * f.g.lo⟩)) (by cases b <;> exact d0m _) (by cases b; exact n3.1; exact n4.1) (by cases b; exact n3.2; exact n4.2)
 unfold exG exL exM at hEx
 generalize bare ⟨false, 2 ^ (wid f.g * f.g.digs.toNat) - 1, wid f.g * f.g.hi⟩ = D1 at *
 generalize bare ⟨false, 2 ^ (wid f.g * f.g.digs.toNat) - 1, wid f.g * f.g.lo⟩ = D2 at *
 generalize bare ⟨false, 1, wid f.g * f.g.lo⟩ = D3 at *
 generalize bare ⟨false, 1, wid f.g * (f.g.lo + f.g.digs - 1)⟩ = D4 at *
 obtain ⟨gb, hgb⟩ : ∃ gb, (!f.g.grad) = gb := ⟨_, rfl⟩
 rw [hgb] at hEx
 have K3 := K3 gb
 generalize a0i D1 g.g = k1 at *
 generalize a0i D2 g.g = k2 at *
 generalize a0i (cond gb D4 D3) g.g = k3 at *
 obtain ⟨rb, hrb⟩ : ∃ b, (f.g.rad == 16) = b := ⟨_, rfl⟩
 have HRB := hi0 hrb
 have HGB := hi0 hgb
 have h4 : rb = true → (4 : Int) = ((wid f.g : Nat) : Int) := fun h => by rw [h] at hrb; rw [hwd, if_pos (beq_iff_eq.1 hrb)]; rfl
 have h5 : rb = false → (1 : Int) = ((wid f.g : Nat) : Int) := fun h => by rw [h] at hrb; rw [hwd, if_neg (bnF hrb)]; rfl
 have HEX := hi0 hEx
 have HMD := hi0 hmd
 clear hrb hgb hwd n1 n2 n3 n4 hEx HKe hmd
 generalize hX : 2 ^ (wid f.g * f.g.digs.toNat) = X at *
 have HX := hi0 hX
 clear hX
 generalize wid f.g * f.g.digs.toNat = M at *
 let aA : Box := ⟨40, [.v (.int .i64 f.g.rad), .v (.int .i64 f.g.digs), .v (.int .i64 f.g.lo), .v (.int .i64 f.g.hi), .v (.bool f.g.grad)], false⟩
 let aB : Box := ⟨40, [.v (.int .i64 g.g.rad), .v (.int .i64 g.g.digs), .v (.int .i64 g.g.lo), .v (.int .i64 g.g.hi), .v (.bool g.g.grad)], false⟩
 have I := Inv.start w [tabF] ⟨hT, True.intro⟩
 refine a0e [.v (.int .i64 fm), .v (.int .i64 tg)] I Tryz.func41 ?_
 refine zq I (fun Al W I => (HG1 W).out) fun Al W I => zq I (fun Al W I => (HG2 W).out) fun Al W I => zb I 32 (f.g.rad == 16) (rb) (HRB.out) fun Al W I => zcut I (some 2000032) (fun fr bx gs => ∃ (U1 : Nat → Value) (j1 : Int), fr = (.v (vI fm) :: .v (vI tg) :: su 2 (.v (.bool false) :: .v (vI 0) :: .p 0 0 :: .v (vI 0) :: .p 1 0 :: .v (vI j1) :: su 4 (sw U1 14 6 (.v (.bool false) :: sw U1 21 7 (.v (.bool false) :: sw U1 29 3 (.v (.bool rb) :: sw U1 33 16 (vu :: sw U1 50 23 (su 4 (sw U1 77 5 (vu :: sw U1 83 3 (vu :: sw U1 87 15 [])))))))))) : List SV) ∧ bx = [aA, aB] ∧ gs = [tabF] ∧ (j1 = ((wid f.g : Nat) : Int))) ?_ ?_
 · intro J hJ Al W I
   rcases bTF rb with rfl | rfl
   · exact a0k I J fun Al W U I => hJ _ _ _ _ _ ⟨U, 4, rfl, rfl, rfl, h4 rfl⟩ (I.pick [0])
   exact a0k I J fun Al W U I => hJ _ _ _ _ _ ⟨U, 1, rfl, rfl, rfl, h5 rfl⟩ (I.pick [0])
 rintro _ _ _ ⟨U1, j1, rfl, rfl, rfl, hj1⟩ Al W I
 refine zd [] I fun Al W I => zk [1, 2, 3] I fun I => zki 4 I .i64 (j1 * f.g.digs) ((M : Int)) ((by rw [hj1, ← HMD.out]; exact iwo)) fun I => zo 0 I fun I => zqo I (fun Al W I => f0g W) fun Al W p33 c33 I => zo 5 I fun I => zqo I (fun Al W I => have hzW := I.bel.size; sshl p33 _ c33 1 M X _ W I.fa.1.rd rfl (by omega) (by omega) rfl (by rw [HX.out]; omega)) fun Al W p38 c38 I => zo 6 I fun I => zqo I (fun Al W I => f0g W) fun Al W p39 c39 I => zo 7 I fun I => zqo I (fun Al W I => have hzW := I.bel.size; ssub p38 p39 _ _ c38 c39 X 1 (X - 1) W I.fa.2.1.rd I.fa.1.rd rfl rfl (by omega) (by omega) rfl) fun Al W p40 c40 I => zk [8] I fun I => zd [] I fun Al W I => zk [1, 2, 3] I fun I => zki 4 I .i64 (j1 * f.g.lo) ((wid f.g * f.g.lo)) ((by rw [hj1]; exact iwo)) fun I => zo2 0 6 I (fun I => ?_) (fun I => ?_)
 · refine zqo I (fun Al W I => f0g W) fun Al W p41 c41 I => zo2 5 6 I (fun I => ?_) (fun I => ?_)
   · refine zqo I (fun Al W I => (HW3 W p41 c41 I.fa.1.rd I.fa.1.le_cap I.fa.2.2.2.2.2.1).out) fun Al W p46 c46 I => zo 6 I fun I => zn I fun Al W I => zo 7 I fun I => zn I fun Al W I => zb I 49 (!f.g.grad) (gb) (HGB.out) fun Al W I => zcut I (some 2000049) (fun fr bx gs => ∃ (U2 : Nat → Value) (px : OA) (cx : Nat), fr = (.v (vI fm) :: .v (vI tg) :: su 2 (.v (.bool false) :: .v (vI 0) :: .p 0 0 :: .v (vI 0) :: .p 1 0 :: .v (vI j1) :: .v (vS (dig B32 (X - 1)) p40 c40) :: .p 2 0 :: su 2 (sw U2 14 6 (.v (.bool false) :: sw U2 21 7 (.v (.bool false) :: sw U2 29 3 (.v (.bool rb) :: sw U2 33 16 (.v (.bool gb) :: sw U2 50 23 (su 4 (sw U2 77 5 (vu :: sw U2 83 3 (vu :: sw U2 87 15 [])))))))))) : List SV) ∧ bx = [aA, aB, ⟨150, [.v (.bool ((cond gb D4 D3).neg)), .v (vS (dig B32 (cond gb D4 D3).m) px cx), .v (vI ((cond gb D4 D3).e))], false⟩] ∧ gs = [ownF w.heap.size .u32 143 px cx (dig B32 (cond gb D4 D3).m), ownF w.heap.size .u32 143 p46 c46 (dig B32 D3.m), ownF w.heap.size .u32 143 p41 c41 (dig B32 1), ownF w.heap.size .u32 143 p40 c40 (dig B32 (X - 1)), ownF w.heap.size .u32 143 p39 c39 (dig B32 1), ownF w.heap.size .u32 143 p38 c38 (dig B32 X), ownF w.heap.size .u32 143 p33 c33 (dig B32 1), tabF]) ?_ ?_
     · intro J hJ Al W I
       rcases bTF gb with rfl | rfl
       · refine zd [2] I fun Al W I => zk [1, 2, 3, 4, 5] I fun I => zki 6 I .i64 (f.g.lo + f.g.digs) (f.g.lo + f.g.digs) (iwo) fun I => zki 7 I .i64 ((f.g.lo + f.g.digs) - 1) ((f.g.lo + f.g.digs) - 1) (iwo) fun I => zki 8 I .i64 (j1 * ((f.g.lo + f.g.digs) - 1)) ((wid f.g * (f.g.lo + f.g.digs - 1))) ((by rw [hj1]; exact iwo)) fun I => zo 0 I fun I => zqo I (fun Al W I => f0g W) fun Al W p50 c50 I => zo 9 I fun I => zqo I (fun Al W I => (HW4 W p50 c50 I.fa.1.rd I.fa.1.le_cap I.fa.2.2.2.2.2.2.2.1).out) fun Al W p59 c59 I => zo 10 I fun I => zn I fun Al W I => a0k I J fun Al W U I => hJ _ _ _ _ _ ⟨U, p59, c59, rfl, rfl, rfl⟩ (I.pick [0, 2, 3, 4, 5, 6, 7, 8])
       exact a0k I J fun Al W U I => hJ _ _ _ _ _ ⟨U, p46, c46, rfl, rfl, rfl⟩ (I.pick [0, 0, 1, 2, 3, 4, 5, 6])
     rintro _ _ _ ⟨U2, px, cx, rfl, rfl, rfl⟩ Al W I
     refine zd [] I fun Al W I => zk [0, 1, 2, 3] I fun I => zki 4 I .i64 (j1 * f.g.hi) ((wid f.g * f.g.hi)) ((by rw [hj1]; exact iwo)) fun I => zk [6, 7, 8, 9] I fun I => zki 10 I .i64 (j1 * f.g.lo) ((wid f.g * f.g.lo)) ((by rw [hj1]; exact iwo)) fun I => zk [12, 15] I fun I => zo 5 I fun I => zqo I (fun Al W I => (HW1 W p40 c40 I.fa.2.2.2.1.rd I.fa.2.2.2.1.le_cap I.fa.2.2.2.2.2.2.2.1).out) fun Al W p65 c65 I => zo 11 I fun I => zqo I (fun Al W I => (HW2 W p40 c40 I.fa.2.2.2.2.1.rd I.fa.2.2.2.2.1.le_cap I.fa.2.2.2.2.2.2.2.2.1).out) fun Al W p71 c71 I => zo 13 I fun I => zn I fun Al W I => zk [14] I fun I => zunr I 3 ?_
     rintro J0 hJ0 Al W I
     refine zq I (fun Al W I => (K1 W p65 c65 I.fa.2.1.rd).out) fun Al W I => ?_
     rcases bTF (!k1) with f81 | f81
     · refine zb I 82 (!k1) (true) (f81) fun Al W I => zret I (v := fun Al => .tuple #[.bool false, vI 0]) fun Al W I => ?_
       first | exact ⟨by rw [HEX.out, show k1 = false by simpa using f81]; rfl, I.below⟩ | exact ⟨by rw [HEX.out, show k1 = true by simpa using q3, show k2 = false by simpa using f81]; rfl, I.below⟩ | exact ⟨by rw [HEX.out, show k1 = true by simpa using q3, show k2 = true by simpa using q2, show k3 = false by simpa using f81]; rfl, I.below⟩
     refine zb I 82 (!k1) (false) (f81) fun Al W I => ?_
     have q3 := f81
     refine a0k I (J0 3) (fr := fun Al U3 => (.v (vI fm) :: .v (vI tg) :: su 2 (.v (.bool false) :: .v (vI 0) :: .p 0 0 :: .v (vI 0) :: .p 1 0 :: .v (vI j1) :: .v (vS (dig B32 (X - 1)) p40 c40) :: .p 2 0 :: .v undef :: .p 4 0 :: sw U3 14 6 (.v (.bool false) :: sw U3 21 7 (.v (.bool false) :: sw U3 29 3 (.v (.bool rb) :: sw U3 33 16 (.v (.bool gb) :: sw U3 50 23 (.s 3 0 3 3 :: .v (vI ((3 : Nat) : Int)) :: .v (vI 1) :: .v (.bool true) :: sw U3 77 5 (.v (.bool false) :: sw U3 83 3 (.v undef :: sw U3 87 15 [])))))))) : List SV)) (bx := fun Al U3 => [aA, aB, ⟨150, [.v (.bool ((cond gb D4 D3).neg)), .v (vS (dig B32 (cond gb D4 D3).m) px cx), .v (vI ((cond gb D4 D3).e))], false⟩, ⟨150, [.v (.bool D1.neg), .v (vS (dig B32 D1.m) p65 c65), .v (vI D1.e), .v (.bool D2.neg), .v (vS (dig B32 D2.m) p71 c71), .v (vI D2.e), .v (.bool ((cond gb D4 D3).neg)), .v (vS (dig B32 (cond gb D4 D3).m) px cx), .v (vI ((cond gb D4 D3).e))], false⟩, ⟨150, [.v (.bool D1.neg), .v (vS (dig B32 D1.m) p65 c65), .v (vI D1.e)], false⟩]) fun Al W U3 I => hJ0 _ _ _ _ _ _ I fun I => zq I (fun Al W I => (K2 W p71 c71 I.fa.1.rd).out) fun Al W I => ?_
     rcases bTF (!k2) with f81 | f81
     · refine zb I 82 (!k2) (true) (f81) fun Al W I => zret I (v := fun Al => .tuple #[.bool false, vI 0]) fun Al W I => ?_
       first | exact ⟨by rw [HEX.out, show k1 = false by simpa using f81]; rfl, I.below⟩ | exact ⟨by rw [HEX.out, show k1 = true by simpa using q3, show k2 = false by simpa using f81]; rfl, I.below⟩ | exact ⟨by rw [HEX.out, show k1 = true by simpa using q3, show k2 = true by simpa using q2, show k3 = false by simpa using f81]; rfl, I.below⟩
     refine zb I 82 (!k2) (false) (f81) fun Al W I => ?_
     have q2 := f81
     refine a0k I (J0 2) (fr := fun Al U4 => (.v (vI fm) :: .v (vI tg) :: su 2 (.v (.bool false) :: .v (vI 0) :: .p 0 0 :: .v (vI 0) :: .p 1 0 :: .v (vI j1) :: .v (vS (dig B32 (X - 1)) p40 c40) :: .p 2 0 :: .v undef :: .p 5 0 :: sw U4 14 6 (.v (.bool false) :: sw U4 21 7 (.v (.bool false) :: sw U4 29 3 (.v (.bool rb) :: sw U4 33 16 (.v (.bool gb) :: sw U4 50 23 (.s 3 0 3 3 :: .v (vI ((3 : Nat) : Int)) :: .v (vI 2) :: .v (.bool true) :: sw U4 77 5 (.v (.bool false) :: sw U4 83 3 (.v undef :: sw U4 87 15 [])))))))) : List SV)) (bx := fun Al U4 => [aA, aB, ⟨150, [.v (.bool ((cond gb D4 D3).neg)), .v (vS (dig B32 (cond gb D4 D3).m) px cx), .v (vI ((cond gb D4 D3).e))], false⟩, ⟨150, [.v (.bool D1.neg), .v (vS (dig B32 D1.m) p65 c65), .v (vI D1.e), .v (.bool D2.neg), .v (vS (dig B32 D2.m) p71 c71), .v (vI D2.e), .v (.bool ((cond gb D4 D3).neg)), .v (vS (dig B32 (cond gb D4 D3).m) px cx), .v (vI ((cond gb D4 D3).e))], false⟩, ⟨150, [.v (.bool D1.neg), .v (vS (dig B32 D1.m) p65 c65), .v (vI D1.e)], false⟩, ⟨150, [.v (.bool D2.neg), .v (vS (dig B32 D2.m) p71 c71), .v (vI D2.e)], false⟩]) fun Al W U4 I => hJ0 _ _ _ _ _ _ I fun I => zq I (fun Al W I => (K3 W px cx I.fa.2.2.1.rd).out) fun Al W I => ?_
     rcases bTF (!k3) with f81 | f81
     · refine zb I 82 (!k3) (true) (f81) fun Al W I => zret I (v := fun Al => .tuple #[.bool false, vI 0]) fun Al W I => ?_
       first | exact ⟨by rw [HEX.out, show k1 = false by simpa using f81]; rfl, I.below⟩ | exact ⟨by rw [HEX.out, show k1 = true by simpa using q3, show k2 = false by simpa using f81]; rfl, I.below⟩ | exact ⟨by rw [HEX.out, show k1 = true by simpa using q3, show k2 = true by simpa using q2, show k3 = false by simpa using f81]; rfl, I.below⟩
     refine zb I 82 (!k3) (false) (f81) fun Al W I => ?_
     have q1 := f81
     refine a0k I (J0 1) (fr := fun Al U5 => (.v (.int .i64 fm) :: .v (.int .i64 tg) :: su 2 (.v (.bool false) :: .v (.int .i64 0) :: .p 0 0 :: .v (.int .i64 0) :: .p 1 0 :: .v (.int .i64 j1) :: .v (.slice p40 (dig B32 (X - 1)).length c40) :: .p 2 0 :: .v undef :: .p 6 0 :: sw U5 14 6 (.v (.bool false) :: sw U5 21 7 (.v (.bool false) :: sw U5 29 3 (.v (.bool rb) :: sw U5 33 16 (.v (.bool gb) :: sw U5 50 23 (.s 3 0 3 3 :: .v (.int .i64 ((3 : Nat) : Int)) :: .v (.int .i64 3) :: .v (.bool true) :: sw U5 77 5 (.v (.bool false) :: sw U5 83 3 (.v undef :: sw U5 87 15 [])))))))) : List SV)) (bx := fun Al U5 => [aA, aB, ⟨150, [.v (.bool ((cond gb D4 D3).neg)), .v (.slice px (dig B32 (cond gb D4 D3).m).length cx), .v (.int .i64 ((cond gb D4 D3).e))], false⟩, ⟨150, [.v (.bool D1.neg), .v (.slice p65 (dig B32 D1.m).length c65), .v (.int .i64 D1.e), .v (.bool D2.neg), .v (.slice p71 (dig B32 D2.m).length c71), .v (.int .i64 D2.e), .v (.bool ((cond gb D4 D3).neg)), .v (.slice px (dig B32 (cond gb D4 D3).m).length cx), .v (.int .i64 ((cond gb D4 D3).e))], false⟩, ⟨150, [.v (.bool D1.neg), .v (.slice p65 (dig B32 D1.m).length c65), .v (.int .i64 D1.e)], false⟩, ⟨150, [.v (.bool D2.neg), .v (.slice p71 (dig B32 D2.m).length c71), .v (.int .i64 D2.e)], false⟩, ⟨150, [.v (.bool ((cond gb D4 D3).neg)), .v (.slice px (dig B32 (cond gb D4 D3).m).length cx), .v (.int .i64 ((cond gb D4 D3).e))], false⟩]) fun Al W U5 I => hJ0 _ _ _ _ _ _ I fun I => ?_
     rcases bTF (g.g.rad == 16) with f86 | f86
     · refine zb I 86 (g.g.rad == 16) (true) (f86) fun Al W I => zi I 89 .i64 (g.g.digs - 1) (g.g.digs - 1) (iwo) fun Al W I => zi I 90 .i64 ((4 : Int) * (g.g.digs - 1)) ((4 : Int) * (g.g.digs - 1)) (iwo) fun Al W I => zi I 91 .i64 (((4 : Int) * (g.g.digs - 1)) + 1) (((4 : Int) * (g.g.digs - 1)) + 1) (iwo) fun Al W I => zi I 95 .i64 (j1 * f.g.digs) ((wid f.g * f.g.digs)) ((by rw [hj1, ← HMD.out]; exact iwo)) fun Al W I => ?_
       rcases bTF (decide ((((4 : Int) * (g.g.digs - 1)) + 1) ≥ (wid f.g * f.g.digs))) with f96 | f96
       · refine zb I 96 (decide ((((4 : Int) * (g.g.digs - 1)) + 1) ≥ (wid f.g * f.g.digs))) (true) (f96) fun Al W I => zret I (v := fun Al => .tuple #[.bool true, vI 0]) fun Al W I => ?_
         first | exact ⟨by rw [HEX.out, show k1 = false by simpa using f81]; rfl, I.below⟩ | exact ⟨by rw [HEX.out, show k1 = true by simpa using q3, show k2 = false by simpa using f81]; rfl, I.below⟩ | exact ⟨by rw [HEX.out, show k1 = true by simpa using q3, show k2 = true by simpa using q2, show k3 = false by simpa using f81]; rfl, I.below⟩ | exact ⟨by rw [HEX.out, show k1 = true by simpa using q3, show k2 = true by simpa using q2, show k3 = true by simpa using q1, f86]; rfl, I.below⟩ | exact ⟨by rw [HEX.out, show k1 = true by simpa using q3, show k2 = true by simpa using q2, show k3 = true by simpa using q1, f86, f96]; rfl, I.below⟩
       refine zb I 96 (decide ((((4 : Int) * (g.g.digs - 1)) + 1) ≥ (wid f.g * f.g.digs))) (false) (f96) fun Al W I => zret I (v := fun Al => .tuple #[.bool (f.g.rad == 16), vI 0]) fun Al W I => ?_
       first | exact ⟨by rw [HEX.out, show k1 = false by simpa using f81]; rfl, I.below⟩ | exact ⟨by rw [HEX.out, show k1 = true by simpa using q3, show k2 = false by simpa using f81]; rfl, I.below⟩ | exact ⟨by rw [HEX.out, show k1 = true by simpa using q3, show k2 = true by simpa using q2, show k3 = false by simpa using f81]; rfl, I.below⟩ | exact ⟨by rw [HEX.out, show k1 = true by simpa using q3, show k2 = true by simpa using q2, show k3 = true by simpa using q1, f86]; rfl, I.below⟩ | exact ⟨by rw [HEX.out, show k1 = true by simpa using q3, show k2 = true by simpa using q2, show k3 = true by simpa using q1, f86, f96]; rfl, I.below⟩
     refine zb I 86 (g.g.rad == 16) (false) (f86) fun Al W I => zret I (v := fun Al => .tuple #[.bool true, vI 0]) fun Al W I => ?_
     first | exact ⟨by rw [HEX.out, show k1 = false by simpa using f81]; rfl, I.below⟩ | exact ⟨by rw [HEX.out, show k1 = true by simpa using q3, show k2 = false by simpa using f81]; rfl, I.below⟩ | exact ⟨by rw [HEX.out, show k1 = true by simpa using q3, show k2 = true by simpa using q2, show k3 = false by simpa using f81]; rfl, I.below⟩ | exact ⟨by rw [HEX.out, show k1 = true by simpa using q3, show k2 = true by simpa using q2, show k3 = true by simpa using q1, f86]; rfl, I.below⟩
   refine zn I fun Al W I => zo 5 I fun I => zqo I (fun Al W I => (HW3 W p41 c41 I.fa.1.rd I.fa.1.le_cap I.fa.2.2.2.2.2.1).out) fun Al W p46 c46 I => zo 7 I fun I => zn I fun Al W I => zb I 49 (!f.g.grad) (gb) (HGB.out) fun Al W I => zcut I (some 2000049) (fun fr bx gs => ∃ (U2 : Nat → Value) (px : OA) (cx : Nat), fr = (.v (vI fm) :: .v (vI tg) :: su 2 (.v (.bool false) :: .v (vI 0) :: .p 0 0 :: .v (vI 0) :: .p 1 0 :: .v (vI j1) :: .v (vS (dig B32 (X - 1)) p40 c40) :: .p 2 0 :: su 2 (sw U2 14 6 (.v (.bool false) :: sw U2 21 7 (.v (.bool false) :: sw U2 29 3 (.v (.bool rb) :: sw U2 33 16 (.v (.bool gb) :: sw U2 50 23 (su 4 (sw U2 77 5 (vu :: sw U2 83 3 (vu :: sw U2 87 15 [])))))))))) : List SV) ∧ bx = [aA, aB, ⟨150, [.v (.bool ((cond gb D4 D3).neg)), .v (vS (dig B32 (cond gb D4 D3).m) px cx), .v (vI ((cond gb D4 D3).e))], false⟩] ∧ gs = [ownF w.heap.size .u32 143 px cx (dig B32 (cond gb D4 D3).m), ownF w.heap.size .u32 143 p46 c46 (dig B32 D3.m), ownF w.heap.size .u32 143 p41 c41 (dig B32 1), ownF w.heap.size .u32 143 p40 c40 (dig B32 (X - 1)), ownF w.heap.size .u32 143 p39 c39 (dig B32 1), ownF w.heap.size .u32 143 p38 c38 (dig B32 X), ownF w.heap.size .u32 143 p33 c33 (dig B32 1), tabF]) ?_ ?_
   · intro J hJ Al W I
     rcases bTF gb with rfl | rfl
     · refine zd [2] I fun Al W I => zk [1, 2, 3, 4, 5] I fun I => zki 6 I .i64 (f.g.lo + f.g.digs) (f.g.lo + f.g.digs) (iwo) fun I => zki 7 I .i64 ((f.g.lo + f.g.digs) - 1) ((f.g.lo + f.g.digs) - 1) (iwo) fun I => zki 8 I .i64 (j1 * ((f.g.lo + f.g.digs) - 1)) ((wid f.g * (f.g.lo + f.g.digs - 1))) ((by rw [hj1]; exact iwo)) fun I => zo 0 I fun I => zqo I (fun Al W I => f0g W) fun Al W p50 c50 I => zo 9 I fun I => zqo I (fun Al W I => (HW4 W p50 c50 I.fa.1.rd I.fa.1.le_cap I.fa.2.2.2.2.2.2.2.1).out) fun Al W p59 c59 I => zo 10 I fun I => zn I fun Al W I => a0k I J fun Al W U I => hJ _ _ _ _ _ ⟨U, p59, c59, rfl, rfl, rfl⟩ (I.pick [0, 2, 3, 4, 5, 6, 7, 8])
     exact a0k I J fun Al W U I => hJ _ _ _ _ _ ⟨U, p46, c46, rfl, rfl, rfl⟩ (I.pick [0, 0, 1, 2, 3, 4, 5, 6])
   rintro _ _ _ ⟨U2, px, cx, rfl, rfl, rfl⟩ Al W I
   refine zd [] I fun Al W I => zk [0, 1, 2, 3] I fun I => zki 4 I .i64 (j1 * f.g.hi) ((wid f.g * f.g.hi)) ((by rw [hj1]; exact iwo)) fun I => zk [6, 7, 8, 9] I fun I => zki 10 I .i64 (j1 * f.g.lo) ((wid f.g * f.g.lo)) ((by rw [hj1]; exact iwo)) fun I => zk [12, 15] I fun I => zo 5 I fun I => zqo I (fun Al W I => (HW1 W p40 c40 I.fa.2.2.2.1.rd I.fa.2.2.2.1.le_cap I.fa.2.2.2.2.2.2.2.1).out) fun Al W p65 c65 I => zo 11 I fun I => zqo I (fun Al W I => (HW2 W p40 c40 I.fa.2.2.2.2.1.rd I.fa.2.2.2.2.1.le_cap I.fa.2.2.2.2.2.2.2.2.1).out) fun Al W p71 c71 I => zo 13 I fun I => zn I fun Al W I => zk [14] I fun I => zunr I 3 ?_
   rintro J0 hJ0 Al W I
   refine zq I (fun Al W I => (K1 W p65 c65 I.fa.2.1.rd).out) fun Al W I => ?_
   rcases bTF (!k1) with f81 | f81
   · refine zb I 82 (!k1) (true) (f81) fun Al W I => zret I (v := fun Al => .tuple #[.bool false, vI 0]) fun Al W I => ?_
     first | exact ⟨by rw [HEX.out, show k1 = false by simpa using f81]; rfl, I.below⟩ | exact ⟨by rw [HEX.out, show k1 = true by simpa using q3, show k2 = false by simpa using f81]; rfl, I.below⟩ | exact ⟨by rw [HEX.out, show k1 = true by simpa using q3, show k2 = true by simpa using q2, show k3 = false by simpa using f81]; rfl, I.below⟩
   refine zb I 82 (!k1) (false) (f81) fun Al W I => ?_
   have q3 := f81
   refine a0k I (J0 3) (fr := fun Al U3 => (.v (vI fm) :: .v (vI tg) :: su 2 (.v (.bool false) :: .v (vI 0) :: .p 0 0 :: .v (vI 0) :: .p 1 0 :: .v (vI j1) :: .v (vS (dig B32 (X - 1)) p40 c40) :: .p 2 0 :: .v undef :: .p 4 0 :: sw U3 14 6 (.v (.bool false) :: sw U3 21 7 (.v (.bool false) :: sw U3 29 3 (.v (.bool rb) :: sw U3 33 16 (.v (.bool gb) :: sw U3 50 23 (.s 3 0 3 3 :: .v (vI ((3 : Nat) : Int)) :: .v (vI 1) :: .v (.bool true) :: sw U3 77 5 (.v (.bool false) :: sw U3 83 3 (.v undef :: sw U3 87 15 [])))))))) : List SV)) (bx := fun Al U3 => [aA, aB, ⟨150, [.v (.bool ((cond gb D4 D3).neg)), .v (vS (dig B32 (cond gb D4 D3).m) px cx), .v (vI ((cond gb D4 D3).e))], false⟩, ⟨150, [.v (.bool D1.neg), .v (vS (dig B32 D1.m) p65 c65), .v (vI D1.e), .v (.bool D2.neg), .v (vS (dig B32 D2.m) p71 c71), .v (vI D2.e), .v (.bool ((cond gb D4 D3).neg)), .v (vS (dig B32 (cond gb D4 D3).m) px cx), .v (vI ((cond gb D4 D3).e))], false⟩, ⟨150, [.v (.bool D1.neg), .v (vS (dig B32 D1.m) p65 c65), .v (vI D1.e)], false⟩]) fun Al W U3 I => hJ0 _ _ _ _ _ _ I fun I => zq I (fun Al W I => (K2 W p71 c71 I.fa.1.rd).out) fun Al W I => ?_
   rcases bTF (!k2) with f81 | f81
   · refine zb I 82 (!k2) (true) (f81) fun Al W I => zret I (v := fun Al => .tuple #[.bool false, vI 0]) fun Al W I => ?_
     first | exact ⟨by rw [HEX.out, show k1 = false by simpa using f81]; rfl, I.below⟩ | exact ⟨by rw [HEX.out, show k1 = true by simpa using q3, show k2 = false by simpa using f81]; rfl, I.below⟩ | exact ⟨by rw [HEX.out, show k1 = true by simpa using q3, show k2 = true by simpa using q2, show k3 = false by simpa using f81]; rfl, I.below⟩
   refine zb I 82 (!k2) (false) (f81) fun Al W I => ?_
   have q2 := f81
   refine a0k I (J0 2) (fr := fun Al U4 => (.v (vI fm) :: .v (vI tg) :: su 2 (.v (.bool false) :: .v (vI 0) :: .p 0 0 :: .v (vI 0) :: .p 1 0 :: .v (vI j1) :: .v (vS (dig B32 (X - 1)) p40 c40) :: .p 2 0 :: .v undef :: .p 5 0 :: sw U4 14 6 (.v (.bool false) :: sw U4 21 7 (.v (.bool false) :: sw U4 29 3 (.v (.bool rb) :: sw U4 33 16 (.v (.bool gb) :: sw U4 50 23 (.s 3 0 3 3 :: .v (vI ((3 : Nat) : Int)) :: .v (vI 2) :: .v (.bool true) :: sw U4 77 5 (.v (.bool false) :: sw U4 83 3 (.v undef :: sw U4 87 15 [])))))))) : List SV)) (bx := fun Al U4 => [aA, aB, ⟨150, [.v (.bool ((cond gb D4 D3).neg)), .v (vS (dig B32 (cond gb D4 D3).m) px cx), .v (vI ((cond gb D4 D3).e))], false⟩, ⟨150, [.v (.bool D1.neg), .v (vS (dig B32 D1.m) p65 c65), .v (vI D1.e), .v (.bool D2.neg), .v (vS (dig B32 D2.m) p71 c71), .v (vI D2.e), .v (.bool ((cond gb D4 D3).neg)), .v (vS (dig B32 (cond gb D4 D3).m) px cx), .v (vI ((cond gb D4 D3).e))], false⟩, ⟨150, [.v (.bool D1.neg), .v (vS (dig B32 D1.m) p65 c65), .v (vI D1.e)], false⟩, ⟨150, [.v (.bool D2.neg), .v (vS (dig B32 D2.m) p71 c71), .v (vI D2.e)], false⟩]) fun Al W U4 I => hJ0 _ _ _ _ _ _ I fun I => zq I (fun Al W I => (K3 W px cx I.fa.2.2.1.rd).out) fun Al W I => ?_
   rcases bTF (!k3) with f81 | f81
   · refine zb I 82 (!k3) (true) (f81) fun Al W I => zret I (v := fun Al => .tuple #[.bool false, vI 0]) fun Al W I => ?_
     first | exact ⟨by rw [HEX.out, show k1 = false by simpa using f81]; rfl, I.below⟩ | exact ⟨by rw [HEX.out, show k1 = true by simpa using q3, show k2 = false by simpa using f81]; rfl, I.below⟩ | exact ⟨by rw [HEX.out, show k1 = true by simpa using q3, show k2 = true by simpa using q2, show k3 = false by simpa using f81]; rfl, I.below⟩
   refine zb I 82 (!k3) (false) (f81) fun Al W I => ?_
   have q1 := f81
   refine a0k I (J0 1) (fr := fun Al U5 => (.v (.int .i64 fm) :: .v (.int .i64 tg) :: su 2 (.v (.bool false) :: .v (.int .i64 0) :: .p 0 0 :: .v (.int .i64 0) :: .p 1 0 :: .v (.int .i64 j1) :: .v (.slice p40 (dig B32 (X - 1)).length c40) :: .p 2 0 :: .v undef :: .p 6 0 :: sw U5 14 6 (.v (.bool false) :: sw U5 21 7 (.v (.bool false) :: sw U5 29 3 (.v (.bool rb) :: sw U5 33 16 (.v (.bool gb) :: sw U5 50 23 (.s 3 0 3 3 :: .v (.int .i64 ((3 : Nat) : Int)) :: .v (.int .i64 3) :: .v (.bool true) :: sw U5 77 5 (.v (.bool false) :: sw U5 83 3 (.v undef :: sw U5 87 15 [])))))))) : List SV)) (bx := fun Al U5 => [aA, aB, ⟨150, [.v (.bool ((cond gb D4 D3).neg)), .v (.slice px (dig B32 (cond gb D4 D3).m).length cx), .v (.int .i64 ((cond gb D4 D3).e))], false⟩, ⟨150, [.v (.bool D1.neg), .v (.slice p65 (dig B32 D1.m).length c65), .v (.int .i64 D1.e), .v (.bool D2.neg), .v (.slice p71 (dig B32 D2.m).length c71), .v (.int .i64 D2.e), .v (.bool ((cond gb D4 D3).neg)), .v (.slice px (dig B32 (cond gb D4 D3).m).length cx), .v (.int .i64 ((cond gb D4 D3).e))], false⟩, ⟨150, [.v (.bool D1.neg), .v (.slice p65 (dig B32 D1.m).length c65), .v (.int .i64 D1.e)], false⟩, ⟨150, [.v (.bool D2.neg), .v (.slice p71 (dig B32 D2.m).length c71), .v (.int .i64 D2.e)], false⟩, ⟨150, [.v (.bool ((cond gb D4 D3).neg)), .v (.slice px (dig B32 (cond gb D4 D3).m).length cx), .v (.int .i64 ((cond gb D4 D3).e))], false⟩]) fun Al W U5 I => hJ0 _ _ _ _ _ _ I fun I => ?_
   rcases bTF (g.g.rad == 16) with f86 | f86
   · refine zb I 86 (g.g.rad == 16) (true) (f86) fun Al W I => zi I 89 .i64 (g.g.digs - 1) (g.g.digs - 1) (iwo) fun Al W I => zi I 90 .i64 ((4 : Int) * (g.g.digs - 1)) ((4 : Int) * (g.g.digs - 1)) (iwo) fun Al W I => zi I 91 .i64 (((4 : Int) * (g.g.digs - 1)) + 1) (((4 : Int) * (g.g.digs - 1)) + 1) (iwo) fun Al W I => zi I 95 .i64 (j1 * f.g.digs) ((wid f.g * f.g.digs)) ((by rw [hj1, ← HMD.out]; exact iwo)) fun Al W I => ?_
     rcases bTF (decide ((((4 : Int) * (g.g.digs - 1)) + 1) ≥ (wid f.g * f.g.digs))) with f96 | f96
     · refine zb I 96 (decide ((((4 : Int) * (g.g.digs - 1)) + 1) ≥ (wid f.g * f.g.digs))) (true) (f96) fun Al W I => zret I (v := fun Al => .tuple #[.bool true, vI 0]) fun Al W I => ?_
       first | exact ⟨by rw [HEX.out, show k1 = false by simpa using f81]; rfl, I.below⟩ | exact ⟨by rw [HEX.out, show k1 = true by simpa using q3, show k2 = false by simpa using f81]; rfl, I.below⟩ | exact ⟨by rw [HEX.out, show k1 = true by simpa using q3, show k2 = true by simpa using q2, show k3 = false by simpa using f81]; rfl, I.below⟩ | exact ⟨by rw [HEX.out, show k1 = true by simpa using q3, show k2 = true by simpa using q2, show k3 = true by simpa using q1, f86]; rfl, I.below⟩ | exact ⟨by rw [HEX.out, show k1 = true by simpa using q3, show k2 = true by simpa using q2, show k3 = true by simpa using q1, f86, f96]; rfl, I.below⟩
     refine zb I 96 (decide ((((4 : Int) * (g.g.digs - 1)) + 1) ≥ (wid f.g * f.g.digs))) (false) (f96) fun Al W I => zret I (v := fun Al => .tuple #[.bool (f.g.rad == 16), vI 0]) fun Al W I => ?_
     first | exact ⟨by rw [HEX.out, show k1 = false by simpa using f81]; rfl, I.below⟩ | exact ⟨by rw [HEX.out, show k1 = true by simpa using q3, show k2 = false by simpa using f81]; rfl, I.below⟩ | exact ⟨by rw [HEX.out, show k1 = true by simpa using q3, show k2 = true by simpa using q2, show k3 = false by simpa using f81]; rfl, I.below⟩ | exact ⟨by rw [HEX.out, show k1 = true by simpa using q3, show k2 = true by simpa using q2, show k3 = true by simpa using q1, f86]; rfl, I.below⟩ | exact ⟨by rw [HEX.out, show k1 = true by simpa using q3, show k2 = true by simpa using q2, show k3 = true by simpa using q1, f86, f96]; rfl, I.below⟩
   refine zb I 86 (g.g.rad == 16) (false) (f86) fun Al W I => zret I (v := fun Al => .tuple #[.bool true, vI 0]) fun Al W I => ?_
   first | exact ⟨by rw [HEX.out, show k1 = false by simpa using f81]; rfl, I.below⟩ | exact ⟨by rw [HEX.out, show k1 = true by simpa using q3, show k2 = false by simpa using f81]; rfl, I.below⟩ | exact ⟨by rw [HEX.out, show k1 = true by simpa using q3, show k2 = true by simpa using q2, show k3 = false by simpa using f81]; rfl, I.below⟩ | exact ⟨by rw [HEX.out, show k1 = true by simpa using q3, show k2 = true by simpa using q2, show k3 = true by simpa using q1, f86]; rfl, I.below⟩
 refine zn I fun Al W I => zo 0 I fun I => zqo I (fun Al W I => f0g W) fun Al W p41 c41 I => zo 5 I fun I => zqo I (fun Al W I => (HW3 W p41 c41 I.fa.1.rd I.fa.1.le_cap I.fa.2.2.2.2.2.1).out) fun Al W p46 c46 I => zo 7 I fun I => zn I fun Al W I => zb I 49 (!f.g.grad) (gb) (HGB.out) fun Al W I => zcut I (some 2000049) (fun fr bx gs => ∃ (U2 : Nat → Value) (px : OA) (cx : Nat), fr = (.v (vI fm) :: .v (vI tg) :: su 2 (.v (.bool false) :: .v (vI 0) :: .p 0 0 :: .v (vI 0) :: .p 1 0 :: .v (vI j1) :: .v (vS (dig B32 (X - 1)) p40 c40) :: .p 2 0 :: su 2 (sw U2 14 6 (.v (.bool false) :: sw U2 21 7 (.v (.bool false) :: sw U2 29 3 (.v (.bool rb) :: sw U2 33 16 (.v (.bool gb) :: sw U2 50 23 (su 4 (sw U2 77 5 (vu :: sw U2 83 3 (vu :: sw U2 87 15 [])))))))))) : List SV) ∧ bx = [aA, aB, ⟨150, [.v (.bool ((cond gb D4 D3).neg)), .v (vS (dig B32 (cond gb D4 D3).m) px cx), .v (vI ((cond gb D4 D3).e))], false⟩] ∧ gs = [ownF w.heap.size .u32 143 px cx (dig B32 (cond gb D4 D3).m), ownF w.heap.size .u32 143 p46 c46 (dig B32 D3.m), ownF w.heap.size .u32 143 p41 c41 (dig B32 1), ownF w.heap.size .u32 143 p40 c40 (dig B32 (X - 1)), ownF w.heap.size .u32 143 p39 c39 (dig B32 1), ownF w.heap.size .u32 143 p38 c38 (dig B32 X), ownF w.heap.size .u32 143 p33 c33 (dig B32 1), tabF]) ?_ ?_
 · intro J hJ Al W I
   rcases bTF gb with rfl | rfl
   · refine zd [2] I fun Al W I => zk [1, 2, 3, 4, 5] I fun I => zki 6 I .i64 (f.g.lo + f.g.digs) (f.g.lo + f.g.digs) (iwo) fun I => zki 7 I .i64 ((f.g.lo + f.g.digs) - 1) ((f.g.lo + f.g.digs) - 1) (iwo) fun I => zki 8 I .i64 (j1 * ((f.g.lo + f.g.digs) - 1)) ((wid f.g * (f.g.lo + f.g.digs - 1))) ((by rw [hj1]; exact iwo)) fun I => zo 0 I fun I => zqo I (fun Al W I => f0g W) fun Al W p50 c50 I => zo 9 I fun I => zqo I (fun Al W I => (HW4 W p50 c50 I.fa.1.rd I.fa.1.le_cap I.fa.2.2.2.2.2.2.2.1).out) fun Al W p59 c59 I => zo 10 I fun I => zn I fun Al W I => a0k I J fun Al W U I => hJ _ _ _ _ _ ⟨U, p59, c59, rfl, rfl, rfl⟩ (I.pick [0, 2, 3, 4, 5, 6, 7, 8])
   exact a0k I J fun Al W U I => hJ _ _ _ _ _ ⟨U, p46, c46, rfl, rfl, rfl⟩ (I.pick [0, 0, 1, 2, 3, 4, 5, 6])
 rintro _ _ _ ⟨U2, px, cx, rfl, rfl, rfl⟩ Al W I
 refine zd [] I fun Al W I => zk [0, 1, 2, 3] I fun I => zki 4 I .i64 (j1 * f.g.hi) ((wid f.g * f.g.hi)) ((by rw [hj1]; exact iwo)) fun I => zk [6, 7, 8, 9] I fun I => zki 10 I .i64 (j1 * f.g.lo) ((wid f.g * f.g.lo)) ((by rw [hj1]; exact iwo)) fun I => zk [12, 15] I fun I => zo 5 I fun I => zqo I (fun Al W I => (HW1 W p40 c40 I.fa.2.2.2.1.rd I.fa.2.2.2.1.le_cap I.fa.2.2.2.2.2.2.2.1).out) fun Al W p65 c65 I => zo 11 I fun I => zqo I (fun Al W I => (HW2 W p40 c40 I.fa.2.2.2.2.1.rd I.fa.2.2.2.2.1.le_cap I.fa.2.2.2.2.2.2.2.2.1).out) fun Al W p71 c71 I => zo 13 I fun I => zn I fun Al W I => zk [14] I fun I => zunr I 3 ?_
 rintro J0 hJ0 Al W I
 refine zq I (fun Al W I => (K1 W p65 c65 I.fa.2.1.rd).out) fun Al W I => ?_
 rcases bTF (!k1) with f81 | f81
 · refine zb I 82 (!k1) (true) (f81) fun Al W I => zret I (v := fun Al => .tuple #[.bool false, vI 0]) fun Al W I => ?_
   first | exact ⟨by rw [HEX.out, show k1 = false by simpa using f81]; rfl, I.below⟩ | exact ⟨by rw [HEX.out, show k1 = true by simpa using q3, show k2 = false by simpa using f81]; rfl, I.below⟩ | exact ⟨by rw [HEX.out, show k1 = true by simpa using q3, show k2 = true by simpa using q2, show k3 = false by simpa using f81]; rfl, I.below⟩
 refine zb I 82 (!k1) (false) (f81) fun Al W I => ?_
 have q3 := f81
 refine a0k I (J0 3) (fr := fun Al U3 => (.v (vI fm) :: .v (vI tg) :: su 2 (.v (.bool false) :: .v (vI 0) :: .p 0 0 :: .v (vI 0) :: .p 1 0 :: .v (vI j1) :: .v (vS (dig B32 (X - 1)) p40 c40) :: .p 2 0 :: .v undef :: .p 4 0 :: sw U3 14 6 (.v (.bool false) :: sw U3 21 7 (.v (.bool false) :: sw U3 29 3 (.v (.bool rb) :: sw U3 33 16 (.v (.bool gb) :: sw U3 50 23 (.s 3 0 3 3 :: .v (vI ((3 : Nat) : Int)) :: .v (vI 1) :: .v (.bool true) :: sw U3 77 5 (.v (.bool false) :: sw U3 83 3 (.v undef :: sw U3 87 15 [])))))))) : List SV)) (bx := fun Al U3 => [aA, aB, ⟨150, [.v (.bool ((cond gb D4 D3).neg)), .v (vS (dig B32 (cond gb D4 D3).m) px cx), .v (vI ((cond gb D4 D3).e))], false⟩, ⟨150, [.v (.bool D1.neg), .v (vS (dig B32 D1.m) p65 c65), .v (vI D1.e), .v (.bool D2.neg), .v (vS (dig B32 D2.m) p71 c71), .v (vI D2.e), .v (.bool ((cond gb D4 D3).neg)), .v (vS (dig B32 (cond gb D4 D3).m) px cx), .v (vI ((cond gb D4 D3).e))], false⟩, ⟨150, [.v (.bool D1.neg), .v (vS (dig B32 D1.m) p65 c65), .v (vI D1.e)], false⟩]) fun Al W U3 I => hJ0 _ _ _ _ _ _ I fun I => zq I (fun Al W I => (K2 W p71 c71 I.fa.1.rd).out) fun Al W I => ?_
 rcases bTF (!k2) with f81 | f81
 · refine zb I 82 (!k2) (true) (f81) fun Al W I => zret I (v := fun Al => .tuple #[.bool false, vI 0]) fun Al W I => ?_
   first | exact ⟨by rw [HEX.out, show k1 = false by simpa using f81]; rfl, I.below⟩ | exact ⟨by rw [HEX.out, show k1 = true by simpa using q3, show k2 = false by simpa using f81]; rfl, I.below⟩ | exact ⟨by rw [HEX.out, show k1 = true by simpa using q3, show k2 = true by simpa using q2, show k3 = false by simpa using f81]; rfl, I.below⟩
 refine zb I 82 (!k2) (false) (f81) fun Al W I => ?_
 have q2 := f81
 refine a0k I (J0 2) (fr := fun Al U4 => (.v (vI fm) :: .v (vI tg) :: su 2 (.v (.bool false) :: .v (vI 0) :: .p 0 0 :: .v (vI 0) :: .p 1 0 :: .v (vI j1) :: .v (vS (dig B32 (X - 1)) p40 c40) :: .p 2 0 :: .v undef :: .p 5 0 :: sw U4 14 6 (.v (.bool false) :: sw U4 21 7 (.v (.bool false) :: sw U4 29 3 (.v (.bool rb) :: sw U4 33 16 (.v (.bool gb) :: sw U4 50 23 (.s 3 0 3 3 :: .v (vI ((3 : Nat) : Int)) :: .v (vI 2) :: .v (.bool true) :: sw U4 77 5 (.v (.bool false) :: sw U4 83 3 (.v undef :: sw U4 87 15 [])))))))) : List SV)) (bx := fun Al U4 => [aA, aB, ⟨150, [.v (.bool ((cond gb D4 D3).neg)), .v (vS (dig B32 (cond gb D4 D3).m) px cx), .v (vI ((cond gb D4 D3).e))], false⟩, ⟨150, [.v (.bool D1.neg), .v (vS (dig B32 D1.m) p65 c65), .v (vI D1.e), .v (.bool D2.neg), .v (vS (dig B32 D2.m) p71 c71), .v (vI D2.e), .v (.bool ((cond gb D4 D3).neg)), .v (vS (dig B32 (cond gb D4 D3).m) px cx), .v (vI ((cond gb D4 D3).e))], false⟩, ⟨150, [.v (.bool D1.neg), .v (vS (dig B32 D1.m) p65 c65), .v (vI D1.e)], false⟩, ⟨150, [.v (.bool D2.neg), .v (vS (dig B32 D2.m) p71 c71), .v (vI D2.e)], false⟩]) fun Al W U4 I => hJ0 _ _ _ _ _ _ I fun I => zq I (fun Al W I => (K3 W px cx I.fa.2.2.1.rd).out) fun Al W I => ?_
 rcases bTF (!k3) with f81 | f81
 · refine zb I 82 (!k3) (true) (f81) fun Al W I => zret I (v := fun Al => .tuple #[.bool false, vI 0]) fun Al W I => ?_
   first | exact ⟨by rw [HEX.out, show k1 = false by simpa using f81]; rfl, I.below⟩ | exact ⟨by rw [HEX.out, show k1 = true by simpa using q3, show k2 = false by simpa using f81]; rfl, I.below⟩ | exact ⟨by rw [HEX.out, show k1 = true by simpa using q3, show k2 = true by simpa using q2, show k3 = false by simpa using f81]; rfl, I.below⟩
 refine zb I 82 (!k3) (false) (f81) fun Al W I => ?_
 have q1 := f81
 refine a0k I (J0 1) (fr := fun Al U5 => (.v (.int .i64 fm) :: .v (.int .i64 tg) :: su 2 (.v (.bool false) :: .v (.int .i64 0) :: .p 0 0 :: .v (.int .i64 0) :: .p 1 0 :: .v (.int .i64 j1) :: .v (.slice p40 (dig B32 (X - 1)).length c40) :: .p 2 0 :: .v undef :: .p 6 0 :: sw U5 14 6 (.v (.bool false) :: sw U5 21 7 (.v (.bool false) :: sw U5 29 3 (.v (.bool rb) :: sw U5 33 16 (.v (.bool gb) :: sw U5 50 23 (.s 3 0 3 3 :: .v (.int .i64 ((3 : Nat) : Int)) :: .v (.int .i64 3) :: .v (.bool true) :: sw U5 77 5 (.v (.bool false) :: sw U5 83 3 (.v undef :: sw U5 87 15 [])))))))) : List SV)) (bx := fun Al U5 => [aA, aB, ⟨150, [.v (.bool ((cond gb D4 D3).neg)), .v (.slice px (dig B32 (cond gb D4 D3).m).length cx), .v (.int .i64 ((cond gb D4 D3).e))], false⟩, ⟨150, [.v (.bool D1.neg), .v (.slice p65 (dig B32 D1.m).length c65), .v (.int .i64 D1.e), .v (.bool D2.neg), .v (.slice p71 (dig B32 D2.m).length c71), .v (.int .i64 D2.e), .v (.bool ((cond gb D4 D3).neg)), .v (.slice px (dig B32 (cond gb D4 D3).m).length cx), .v (.int .i64 ((cond gb D4 D3).e))], false⟩, ⟨150, [.v (.bool D1.neg), .v (.slice p65 (dig B32 D1.m).length c65), .v (.int .i64 D1.e)], false⟩, ⟨150, [.v (.bool D2.neg), .v (.slice p71 (dig B32 D2.m).length c71), .v (.int .i64 D2.e)], false⟩, ⟨150, [.v (.bool ((cond gb D4 D3).neg)), .v (.slice px (dig B32 (cond gb D4 D3).m).length cx), .v (.int .i64 ((cond gb D4 D3).e))], false⟩]) fun Al W U5 I => hJ0 _ _ _ _ _ _ I fun I => ?_
 rcases bTF (g.g.rad == 16) with f86 | f86
 · refine zb I 86 (g.g.rad == 16) (true) (f86) fun Al W I => zi I 89 .i64 (g.g.digs - 1) (g.g.digs - 1) (iwo) fun Al W I => zi I 90 .i64 ((4 : Int) * (g.g.digs - 1)) ((4 : Int) * (g.g.digs - 1)) (iwo) fun Al W I => zi I 91 .i64 (((4 : Int) * (g.g.digs - 1)) + 1) (((4 : Int) * (g.g.digs - 1)) + 1) (iwo) fun Al W I => zi I 95 .i64 (j1 * f.g.digs) ((wid f.g * f.g.digs)) ((by rw [hj1, ← HMD.out]; exact iwo)) fun Al W I => ?_
   rcases bTF (decide ((((4 : Int) * (g.g.digs - 1)) + 1) ≥ (wid f.g * f.g.digs))) with f96 | f96
   · refine zb I 96 (decide ((((4 : Int) * (g.g.digs - 1)) + 1) ≥ (wid f.g * f.g.digs))) (true) (f96) fun Al W I => zret I (v := fun Al => .tuple #[.bool true, vI 0]) fun Al W I => ?_
     first | exact ⟨by rw [HEX.out, show k1 = false by simpa using f81]; rfl, I.below⟩ | exact ⟨by rw [HEX.out, show k1 = true by simpa using q3, show k2 = false by simpa using f81]; rfl, I.below⟩ | exact ⟨by rw [HEX.out, show k1 = true by simpa using q3, show k2 = true by simpa using q2, show k3 = false by simpa using f81]; rfl, I.below⟩ | exact ⟨by rw [HEX.out, show k1 = true by simpa using q3, show k2 = true by simpa using q2, show k3 = true by simpa using q1, f86]; rfl, I.below⟩ | exact ⟨by rw [HEX.out, show k1 = true by simpa using q3, show k2 = true by simpa using q2, show k3 = true by simpa using q1, f86, f96]; rfl, I.below⟩
   refine zb I 96 (decide ((((4 : Int) * (g.g.digs - 1)) + 1) ≥ (wid f.g * f.g.digs))) (false) (f96) fun Al W I => zret I (v := fun Al => .tuple #[.bool (f.g.rad == 16), vI 0]) fun Al W I => ?_
   first | exact ⟨by rw [HEX.out, show k1 = false by simpa using f81]; rfl, I.below⟩ | exact ⟨by rw [HEX.out, show k1 = true by simpa using q3, show k2 = false by simpa using f81]; rfl, I.below⟩ | exact ⟨by rw [HEX.out, show k1 = true by simpa using q3, show k2 = true by simpa using q2, show k3 = false by simpa using f81]; rfl, I.below⟩ | exact ⟨by rw [HEX.out, show k1 = true by simpa using q3, show k2 = true by simpa using q2, show k3 = true by simpa using q1, f86]; rfl, I.below⟩ | exact ⟨by rw [HEX.out, show k1 = true by simpa using q3, show k2 = true by simpa using q2, show k3 = true by simpa using q1, f86, f96]; rfl, I.below⟩
 refine zb I 86 (g.g.rad == 16) (false) (f86) fun Al W I => zret I (v := fun Al => .tuple #[.bool true, vI 0]) fun Al W I => ?_
 first | exact ⟨by rw [HEX.out, show k1 = false by simpa using f81]; rfl, I.below⟩ | exact ⟨by rw [HEX.out, show k1 = true by simpa using q3, show k2 = false by simpa using f81]; rfl, I.below⟩ | exact ⟨by rw [HEX.out, show k1 = true by simpa using q3, show k2 = true by simpa using q2, show k3 = false by simpa using f81]; rfl, I.below⟩ | exact ⟨by rw [HEX.out, show k1 = true by simpa using q3, show k2 = true by simpa using q2, show k3 = true by simpa using q1, f86]; rfl, I.below⟩
def eEx (fm tg : Int) : Int := if IsFm fm ∧ IsFm tg then 0 else 6
def oEx (fm tg : Int) : Bool := if IsFm fm ∧ IsFm tg then m0x (fmt fm) (fmt tg) else false
theorem e1d (fm tg : Int) (w : World) (hT : TabW w) :
 Calls Tryz.prog 41 #[.int .i64 fm, .int .i64 tg] w fun en w' => en = .returned (.tuple #[.bool (oEx fm tg), .int .i64 (eEx fm tg)]) ∧ Below w.heap.size w w' := by
 unfold oEx eEx
 have HG1 := fun W => hi0 (g0k fm W)
 have HG2 := fun W => hi0 (g0k tg W)
 by_cases hf : IsFm fm
 · by_cases ht : IsFm tg
   · rw [if_pos ⟨hf, ht⟩, if_pos ⟨hf, ht⟩]
     exact h1z fm tg w hf ht hT
   · rw [if_neg (fun h => ht h.2), if_neg (fun h => ht h.2)]
     have e1 : b0f fm = 0 := by unfold b0f; rw [if_pos hf]
     have e2 : b0f tg = 6 := by unfold b0f; rw [if_neg ht]
     rw [e1] at HG1
     rw [e2] at HG2
     generalize fmt fm = f at *
     generalize fmt tg = g at *
     have I := Inv.start w [] True.intro
     refine a0e [.v (.int .i64 fm), .v (.int .i64 tg)] I Tryz.func41 ?_
     refine zq I (fun Al W I => (HG1 W).out) fun Al W I => zq I (fun Al W I => (HG2 W).out) fun Al W I => zrb I
 · rw [if_neg (fun h => hf h.1), if_neg (fun h => hf h.1)]
   have e1 : b0f fm = 6 := by unfold b0f; rw [if_neg hf]
   rw [e1] at HG1
   generalize fmt fm = f at *
   have I := Inv.start w [] True.intro
   refine a0e [.v (.int .i64 fm), .v (.int .i64 tg)] I Tryz.func41 ?_
   refine zq I (fun Al W I => (HG1 W).out) fun Al W I => zrb I
def eCv (fr tg way : Int) (s : ByteArray) : Int := if IsFm fr ∧ IsFm tg then (if a0o fr s = 0 then (if 1 ≤ way ∧ way ≤ 5 then 0 else 6) else a0o fr s) else 6
def oCv (fr tg way : Int) (s : ByteArray) : ByteArray := if eCv fr tg way s = 0 then strR tg ((fmt tg).takeM (refD fr s) way).1 else a0c []
def fCv (fr tg way : Int) (s : ByteArray) : Nat := if eCv fr tg way s = 0 then ((fmt tg).takeM (refD fr s) way).2 else 0
theorem m0y (fr tg way : Int) (s : ByteArray) (w : World) (hT : TabW w) :
 Calls Tryz.prog 42 #[.int .i64 fr, .string s, .int .i64 tg, .int .i64 way] w fun en w' => en = .returned (.tuple #[.string (oCv fr tg way s), .int .i64 ((fCv fr tg way s : Nat) : Int), .int .i64 (eCv fr tg way s)]) ∧ Below w.heap.size w w' := by
 have HS1 := fun W => hi0 (q0q fr W)
 have HS2 := fun W => hi0 (q0q tg W)
 unfold oCv fCv
 by_cases hf : IsFm fr
 · have e1 : b0f fr = 0 := by unfold b0f; rw [if_pos hf]
   rw [e1] at HS1
   by_cases ht : IsFm tg
   · have e2 : b0f tg = 0 := by unfold b0f; rw [if_pos ht]
     rw [e2] at HS2
     have hE : eCv fr tg way s = if a0o fr s = 0 then (if 1 ≤ way ∧ way ≤ 5 then 0 else 6) else a0o fr s := if_pos ⟨hf, ht⟩
     have HD := fun W h => hi0 (e0s fr s W h)
     by_cases hp : a0o fr s = 0
     · rw [hp] at HD
       by_cases hw : 1 ≤ way ∧ way ≤ 5
       · have h0 : eCv fr tg way s = 0 := by rw [hE, if_pos hp, if_pos hw]
         simp only [h0, if_true]
         have HO := fun W => hi0 (q0y tg way W ht hw)
         have F := h0h (s := s) hf
         have V := f0k hp
         have HX := fun W p c b h1 h2 => hi0 (x0d fr (decP fr s) (refD fr s) p c b W hf h1 V F.ok h2)
         have HT := fun W p q c d b u h1 h2 h3 h4 h5 => hi0 (o1q (fmt tg) (fmt fr) tg way (decP fr s) (refD fr s) p q c d b u W h1 h2 h3 h4 V F.ok (b0h ht) hw h5)
         have RS := m1d (b0h ht) F.ok way
         obtain ⟨rS, flS, hS⟩ : ∃ rS flS, (fmt tg).takeM (refD fr s) way = (rS, flS) := ⟨_, _, rfl⟩
         rw [hS] at HT RS ⊢
         have HTL := fun W (v : Vl) p c b u h1 h2 h3 h4 => hi0 (w0y tg way (flS : Int) ⟨v, p, c⟩ rS b u W h1 h2 ht h3 RS h4)
         rw [show a0c ((fmt tg).strP ((fmt tg).encP rS.cls rS.neg rS.x)) = strR tg rS from rfl] at HTL
         simp only
         clear hS RS h0 V F hE e1 e2
         generalize strR tg rS = str at *
         generalize decP fr s = v at *
         generalize refD fr s = r at *
         generalize fmt fr = g at *
         generalize fmt tg = f at *
         have I := Inv.start w [tabF] ⟨hT, True.intro⟩
         refine a0e [.v (.int .i64 fr), .v (.string s), .v (.int .i64 tg), .v (.int .i64 way)] I Tryz.func42 ?_
         refine zunr I 2 ?_
         rintro J0 hJ0 Al W I
         refine zq I (fun Al W I => (HS1 W).out) fun Al W I => a0k I (J0 2) (fr := fun Al U1 => (.v (vI fr) :: .v (.string s) :: .v (vI tg) :: .v (vI way) :: su 4 (.v (Go.Value.string (ByteArray.mk #[])) :: .v (vI 0) :: .v (vI 0) :: .v undef :: .v (vI fr) :: .v (U1 13) :: .v (vI 0) :: su 3 (sw U1 18 2 (.s 0 0 2 2 :: .v (vI ((2 : Nat) : Int)) :: .v (vI 1) :: .v (.bool true) :: sw U1 24 8 (.v (.bool false) :: sw U1 33 9 (.v undef :: sw U1 43 8 (.v undef :: sw U1 52 12 [])))))) : List SV)) (bx := fun Al U1 => [⟨3, [.v (vI fr), .v (vI tg)], false⟩]) fun Al W U1 I => hJ0 _ _ _ _ _ _ I fun I => zq I (fun Al W I => (HS2 W).out) fun Al W I => a0k I (J0 1) (fr := fun Al U2 => (.v (vI fr) :: .v (.string s) :: .v (vI tg) :: .v (vI way) :: su 4 (.v (Go.Value.string (ByteArray.mk #[])) :: .v (vI 0) :: .v (vI 0) :: .v undef :: .v (vI tg) :: .v (U2 13) :: .v (vI 0) :: su 3 (sw U2 18 2 (.s 0 0 2 2 :: .v (vI ((2 : Nat) : Int)) :: .v (vI 2) :: .v (.bool true) :: sw U2 24 8 (.v (.bool false) :: sw U2 33 9 (.v undef :: sw U2 43 8 (.v undef :: sw U2 52 12 [])))))) : List SV)) (bx := fun Al U2 => [⟨3, [.v (vI fr), .v (vI tg)], false⟩]) fun Al W U2 I => hJ0 _ _ _ _ _ _ I fun I => zqo I (fun Al W I => (HD W I.fa.1).out) fun Al W p38 c38 I => zg I (fun Al W I => (HO W).out) fun Al V Iv _ hB _ kz => ?_
         rintro _ W ⟨u47, rfl, hge, hB, hb⟩
         refine ⟨_, rfl, kz _ _ hb fun I => ?_⟩
         refine f1u Iv hb 2 u47 223 [(.int .i64 tg), (.int .i64 way), (.int .i64 f.g.rad), (.int .i64 f.g.digs), (.int .i64 f.g.lo), (.int .i64 f.g.hi), (.bool f.g.grad), (.int .u8 (famB f)), (.int .i64 0)] hge hB fun Al hAl_47 I => ?_
         refine f1v I 48 2 u47 hAl_47 fun Al W I => zd [2] I fun Al W I => zk [0, 1, 2, 3, 4] I fun I => zo 5 I fun I => zqo I (fun Al W I => (HX W p38 c38 _ I.fa.1 I.fa.2.1).out) fun Al W p58 c58 I => zo 6 I fun I => zge I 2 223 (fun Al W I => (HT W p38 p58 c38 c58 _ _ (I.box 2 223 _) I.fa.2.1 I.fa.1 I.bel.size I.fa.2.2.1).out) fun Al V Iv _ _ kz => ?_
         rintro _ W ⟨v59, hR59, p59, c59, rfl, o59, hO, hB⟩
         refine ⟨_, rfl, kz _ (uS f tg way (flS : Int)) _ hO hB fun I => ?_⟩
         have I := I.own o59
         refine zo 7 I fun I => zq I (fun Al W I => (HTL W v59 p59 c59 _ _ (I.box 2 223 _) I.fa.1 hR59 I.fa.2.2.2.1).out) fun Al W I => zk [8, 9, 10, 11, 12, 13] I fun I => zrb I
       · have h0 : eCv fr tg way s = 6 := by rw [hE, if_pos hp, if_neg hw]
         simp only [h0, show ((6 : Int) = 0) = False by simp, if_false]
         have HO := fun W => hi0 (q0x tg way W (fun h => hw h.2))
         clear h0 hE e1 e2
         generalize decP fr s = v at *
         generalize fmt fr = g at *
         generalize fmt tg = f at *
         have I := Inv.start w [tabF] ⟨hT, True.intro⟩
         refine a0e [.v (.int .i64 fr), .v (.string s), .v (.int .i64 tg), .v (.int .i64 way)] I Tryz.func42 ?_
         refine zunr I 2 ?_
         rintro J0 hJ0 Al W I
         refine zq I (fun Al W I => (HS1 W).out) fun Al W I => a0k I (J0 2) (fr := fun Al U1 => (.v (vI fr) :: .v (.string s) :: .v (vI tg) :: .v (vI way) :: su 4 (.v (Go.Value.string (ByteArray.mk #[])) :: .v (vI 0) :: .v (vI 0) :: .v undef :: .v (vI fr) :: .v (U1 13) :: .v (vI 0) :: su 3 (sw U1 18 2 (.s 0 0 2 2 :: .v (vI ((2 : Nat) : Int)) :: .v (vI 1) :: .v (.bool true) :: sw U1 24 8 (.v (.bool false) :: sw U1 33 9 (.v undef :: sw U1 43 8 (.v undef :: sw U1 52 12 [])))))) : List SV)) (bx := fun Al U1 => [⟨3, [.v (vI fr), .v (vI tg)], false⟩]) fun Al W U1 I => hJ0 _ _ _ _ _ _ I fun I => zq I (fun Al W I => (HS2 W).out) fun Al W I => a0k I (J0 1) (fr := fun Al U2 => (.v (vI fr) :: .v (.string s) :: .v (vI tg) :: .v (vI way) :: su 4 (.v (Go.Value.string (ByteArray.mk #[])) :: .v (vI 0) :: .v (vI 0) :: .v undef :: .v (vI tg) :: .v (U2 13) :: .v (vI 0) :: su 3 (sw U2 18 2 (.s 0 0 2 2 :: .v (vI ((2 : Nat) : Int)) :: .v (vI 2) :: .v (.bool true) :: sw U2 24 8 (.v (.bool false) :: sw U2 33 9 (.v undef :: sw U2 43 8 (.v undef :: sw U2 52 12 [])))))) : List SV)) (bx := fun Al U2 => [⟨3, [.v (vI fr), .v (vI tg)], false⟩]) fun Al W U2 I => hJ0 _ _ _ _ _ _ I fun I => zqo I (fun Al W I => (HD W I.fa.1).out) fun Al W p38 c38 I => zq I (fun Al W I => (HO W).out) fun Al W I => zrb I
     · have h0 : eCv fr tg way s = a0o fr s := by rw [hE, if_neg hp]
       simp only [h0, if_neg hp]
       clear h0 hE e1 e2
       generalize decP fr s = v at *
       generalize a0o fr s = ep at *
       generalize fmt fr = g at *
       generalize fmt tg = f at *
       have I := Inv.start w [tabF] ⟨hT, True.intro⟩
       refine a0e [.v (.int .i64 fr), .v (.string s), .v (.int .i64 tg), .v (.int .i64 way)] I Tryz.func42 ?_
       refine zunr I 2 ?_
       rintro J0 hJ0 Al W I
       refine zq I (fun Al W I => (HS1 W).out) fun Al W I => a0k I (J0 2) (fr := fun Al U1 => (.v (vI fr) :: .v (.string s) :: .v (vI tg) :: .v (vI way) :: su 4 (.v (Go.Value.string (ByteArray.mk #[])) :: .v (vI 0) :: .v (vI 0) :: .v undef :: .v (vI fr) :: .v (U1 13) :: .v (vI 0) :: su 3 (sw U1 18 2 (.s 0 0 2 2 :: .v (vI ((2 : Nat) : Int)) :: .v (vI 1) :: .v (.bool true) :: sw U1 24 8 (.v (.bool false) :: sw U1 33 9 (.v undef :: sw U1 43 8 (.v undef :: sw U1 52 12 [])))))) : List SV)) (bx := fun Al U1 => [⟨3, [.v (vI fr), .v (vI tg)], false⟩]) fun Al W U1 I => hJ0 _ _ _ _ _ _ I fun I => zq I (fun Al W I => (HS2 W).out) fun Al W I => a0k I (J0 1) (fr := fun Al U2 => (.v (vI fr) :: .v (.string s) :: .v (vI tg) :: .v (vI way) :: su 4 (.v (Go.Value.string (ByteArray.mk #[])) :: .v (vI 0) :: .v (vI 0) :: .v undef :: .v (vI tg) :: .v (U2 13) :: .v (vI 0) :: su 3 (sw U2 18 2 (.s 0 0 2 2 :: .v (vI ((2 : Nat) : Int)) :: .v (vI 2) :: .v (.bool true) :: sw U2 24 8 (.v (.bool false) :: sw U2 33 9 (.v undef :: sw U2 43 8 (.v undef :: sw U2 52 12 [])))))) : List SV)) (bx := fun Al U2 => [⟨3, [.v (vI fr), .v (vI tg)], false⟩]) fun Al W U2 I => hJ0 _ _ _ _ _ _ I fun I => zqo I (fun Al W I => (HD W I.fa.1).out) fun Al W p38 c38 I => zb I 42 (ep != 0) (true) (bne_iff_ne.2 hp) fun Al W I => zrb I
   · have e2 : b0f tg = 6 := by unfold b0f; rw [if_neg ht]
     rw [e2] at HS2
     have h0 : eCv fr tg way s = 6 := if_neg fun h => ht h.2
     simp only [h0, show ((6 : Int) = 0) = False by simp, if_false]
     clear h0 e1 e2
     generalize fmt fr = g at *
     generalize fmt tg = f at *
     have I := Inv.start w [] True.intro
     refine a0e [.v (.int .i64 fr), .v (.string s), .v (.int .i64 tg), .v (.int .i64 way)] I Tryz.func42 ?_
     refine zunr I 1 ?_
     rintro J0 hJ0 Al W I
     refine zq I (fun Al W I => (HS1 W).out) fun Al W I => a0k I (J0 1) (fr := fun Al U1 => (.v (vI fr) :: .v (.string s) :: .v (vI tg) :: .v (vI way) :: su 4 (.v (Go.Value.string (ByteArray.mk #[])) :: .v (vI 0) :: .v (vI 0) :: .v undef :: .v (vI fr) :: .v (U1 13) :: .v (vI 0) :: su 3 (sw U1 18 2 (.s 0 0 2 2 :: .v (vI ((2 : Nat) : Int)) :: .v (vI 1) :: .v (.bool true) :: sw U1 24 8 (.v (.bool false) :: sw U1 33 9 (.v undef :: sw U1 43 8 (.v undef :: sw U1 52 12 [])))))) : List SV)) (bx := fun Al U1 => [⟨3, [.v (vI fr), .v (vI tg)], false⟩]) fun Al W U1 I => hJ0 _ _ _ _ _ _ I fun I => zq I (fun Al W I => (HS2 W).out) fun Al W I => zrb I
 · have e1 : b0f fr = 6 := by unfold b0f; rw [if_neg hf]
   rw [e1] at HS1
   have h0 : eCv fr tg way s = 6 := if_neg fun h => hf h.1
   simp only [h0, show ((6 : Int) = 0) = False by simp, if_false]
   clear h0 e1
   generalize fmt fr = g at *
   have I := Inv.start w [] True.intro
   refine a0e [.v (.int .i64 fr), .v (.string s), .v (.int .i64 tg), .v (.int .i64 way)] I Tryz.func42 ?_
   refine zunr I 1 ?_
   rintro J0 hJ0 Al W I
   refine zq I (fun Al W I => (HS1 W).out) fun Al W I => zrb I
theorem o1r {a : Dv} {e : Int} (h : zOf a e = 0) : a.m = 0 := by
 unfold zOf sg at h
 have hp : 0 < 2 ^ (a.e - e).toNat := Nat.pow_pos (by omega)
 rcases Nat.eq_zero_or_pos a.m with k | k
 · exact k
 · have hq := Nat.mul_pos k hp
   have hz : (a.m : Int) * 2 ^ (a.e - e).toNat ≠ 0 := by
    have : (((a.m * 2 ^ (a.e - e).toNat : Nat)) : Int) ≠ 0 := by omega
    simpa using this
   split at h <;> first | exact absurd h hz | (exfalso; apply hz; simpa using h)
end Go.Proofs.YtbamiajjampgnaaGreatDoor
namespace Go.Slip
end Go.Slip
namespace Go.Proofs.YtbamiajjampgnaaGreatDoor
open Go.RowKit Go.Slip
theorem v0o {f : Fm} (G : c0f f) {s : Bool} {m : Nat} {e way : Int} (hm : m ≠ 0) (hin : a0i (bare ⟨s, m, e⟩) f.g = true) : f.placedM (a0h s m 1 e f.g way) way = (⟨2, s, bare ⟨s, m, e⟩⟩, 0) := by
 have GG := b0m G.g
 obtain ⟨h1, h2⟩ := h0n (way := way) GG hin
 have hex := k0m (show 0 < 1 by omega) GG ((h0n (way := 5) GG hin).1.trans (h0n (way := 4) GG hin).1.symm) way
 obtain ⟨b1, b2⟩ := m0s (g := s) (e := e) hm
 have hneg : (a0h s m 1 e f.g way).neg = s := by unfold a0h; rw [if_neg hm]; rfl
 have hgr := G.grad
 unfold rv at h1
 generalize a0h s m 1 e f.g way = p at *
 unfold okP at h2
 simp only [Bool.and_eq_true, Bool.not_eq_true', Bool.or_eq_true] at h2
 obtain ⟨ho, hu⟩ := h2
 have hd : p.d ≠ 0 := fun h => by rw [h, h0m] at h1; rw [← h1] at b2; exact b2 rfl
 have hf : p.under = true → f.fam = 1 := fun h => by
  rcases hu with k | k
  · rw [h] at k; cases k
  · rw [hgr] at k; exact oTr k
 unfold Fm.placedM
 rw [ho, if_neg (by decide), if_neg (fun h => h.2.1 (hf h.1)), if_neg hd, h1, hneg]
 unfold Fm.flP
 rw [hex]
 by_cases hu : p.under = true
 · rw [if_pos hu, if_pos (hf hu)]; rfl
 · rw [if_neg hu]; rfl
theorem i1a {f : Fm} (G : c0f f) {x : Dv} {way : Int} (hB : Bare x) (hm : x.m ≠ 0) (hin : a0i x f.g = true) : f.numM x way = (⟨2, x.neg, x⟩, 0) := by
 have hx : bare (⟨x.neg, x.m, x.e⟩ : Dv) = x := j0v hB
 unfold Fm.numM
 rw [if_neg hm, v0o G hm (by rw [hx]; exact hin), hx]
/-! ### The number 1 -/
theorem z0d (x : Dv) : (f0o x (c0p x)).m = 0 := by
 have := a1z x (c0p x) (e := min x.e 0) (by omega) (show min x.e 0 ≤ x.e by omega)
 rw [n0x, Int.add_right_neg] at this
 exact o1r this
theorem sub_self {f : Fm} {r : Vr} (hc : r.cls ≤ 2) (way : Int) : ∃ g, f.addM r r.opp way = (f.zeroM g, 0) := by
 have ho : r.opp = ⟨r.cls, !r.neg, c0p r.x⟩ := by unfold Vr.opp; rw [if_pos (by omega)]
 rw [ho]
 unfold Fm.addM
 rw [if_neg (by simp only; omega), if_neg (by simp only; omega)]
 unfold Fm.sumM
 rw [if_neg (by rw [z0d]; simp)]
 split
 · exact ⟨_, rfl⟩
 · exact ⟨_, rfl⟩
theorem z0e {a : Dv} {g : Gd} (h : a.m ≠ 0) : a0i a g = true ↔ ((wid g : Int) * g.lo ≤ a.e ∧ topD a ≤ wid g * (g.hi + g.digs)) ∧ ((topD a - 1) / (wid g : Int) - g.digs.toNat + 1 < g.lo → g.grad = true ∧ (wid g : Int) * g.lo ≤ a.e) ∧ (g.lo ≤ (topD a - 1) / (wid g : Int) - g.digs.toNat + 1 → (wid g : Int) * ((topD a - 1) / (wid g : Int) - g.digs.toNat + 1) ≤ a.e) := by
 unfold a0i upK
 rw [if_neg h]
 generalize (topD a - 1) / (wid g : Int) - g.digs.toNat + 1 = K
 by_cases c : a.e < wid g * g.lo ∨ wid g * (g.hi + g.digs) < topD a
 · rw [if_pos c]
   constructor
   · intro k; cases k
   · intro k; omega
 · rw [if_neg c]
   by_cases d : K < g.lo
   · rw [if_pos d]
     cases g.grad
     · simp only [Bool.false_eq_true, if_false, false_iff]
       intro k
       have := (k.2.1 d).1
       cases this
     · simp only [if_true, decide_eq_true_eq, true_and]
       constructor
       · intro k; exact ⟨by omega, fun _ => k, fun q => by omega⟩
       · intro k; exact k.2.1 d
   · rw [if_neg d, decide_eq_true_eq]
     constructor
     · intro k; exact ⟨by omega, fun q => absurd q d, fun _ => k⟩
     · intro k; exact k.2.2 (by omega)
theorem i1b {fm tg : Int} (hf : IsFm fm) (ht : IsFm tg) (hE : m0x (fmt fm) (fmt tg) = true) {x : Dv} (hx : a0i x (fmt fm).g = true) : a0i x (fmt tg).g = true := by
 by_cases h0 : x.m = 0
 · unfold a0i; rw [if_pos h0]
 · rw [z0e h0] at hx ⊢
   have hT : x.e < topD x := by
    have := (d0d x.m).2 (by omega)
    unfold topD; omega
   generalize topD x = T at *
   generalize x.e = e at *
   rcases j0b hf with rfl | rfl | rfl | rfl | rfl | rfl | rfl | rfl <;> rcases j0b ht with rfl | rfl | rfl | rfl | rfl | rfl | rfl | rfl <;>
    first
    | (exfalso; revert hE; decide +kernel)
    | (simp [fmt, wid] at hx ⊢; omega)
theorem e1e {f : Fm} (G : c0f f) {r : Vr} (R : VrOk r) (h2 : r.cls = 2) (hin : a0i r.x f.g = true) (way : Int) : f.takeM r way = (r, 0) ∧ ResF f r := by
 obtain ⟨x1, x2⟩ := R.x2 h2
 have hr : (⟨2, r.x.neg, r.x⟩ : Vr) = r := by cases r; simp only at h2 x2; rw [h2, x2]
 refine ⟨?_, R.c, fun h => by omega, fun _ => ⟨hin, R.bare, x1, x2⟩, fun h => by omega, fun h => by omega, fun h => by omega, fun h => absurd h2 h⟩
 unfold Fm.takeM
 rw [if_neg (by omega), if_pos h2, i1a G R.bare x1 hin, hr]
structure TnD (a : Dv) : Prop where
 len : (dig B32 a.m).length ≤ 40
 lo : -38000 ≤ a.e
 hi : a.e ≤ 38000
theorem VrOk.tn {r : Vr} (R : VrOk r) : TnD r.x := ⟨by have := R.len; omega, by have := R.lo; omega, by have := R.hi; omega⟩
theorem TnD.sm {a : Dv} (h : TnD a) : SmD a := ⟨by have := h.len; omega, by have := h.lo; omega, by have := h.hi; omega⟩
theorem i1c {fm tg way : Int} {s : ByteArray} (h : eCv fm tg way s = 0) : IsFm fm ∧ IsFm tg ∧ a0o fm s = 0 ∧ 1 ≤ way ∧ way ≤ 5 := by
 unfold eCv at h
 split at h
 · rename_i k
   split at h
   · rename_i hp
     split at h
     · rename_i hw; exact ⟨k.1, k.2, hp, hw⟩
     · omega
   · rename_i hp; exact absurd h hp
 · omega
theorem j1e {fm tg way : Int} {s : ByteArray} (hf : IsFm fm) (ht : IsFm tg) (hp : a0o fm s = 0) (hw : 1 ≤ way ∧ way ≤ 5) : eCv fm tg way s = 0 := by
 unfold eCv; rw [if_pos ⟨hf, ht⟩, if_pos hp, if_pos hw]
theorem t0l {fm tg way : Int} {s : ByteArray} (h : eCv fm tg way s = 0) (hc : (refD fm s).cls = 2) (hin : a0i (refD fm s).x (fmt tg).g = true) :
 oCv fm tg way s = strR tg (refD fm s) ∧ fCv fm tg way s = 0 ∧ a0o tg (strR tg (refD fm s)) = 0 ∧ refD tg (strR tg (refD fm s)) = refD fm s := by
 obtain ⟨hf, ht, hp, hw⟩ := i1c h
 obtain ⟨k, R⟩ := e1e (b0h ht) (h0h (s := s) hf).ok hc hin way
 obtain ⟨q1, q2⟩ := l0e ht R
 unfold oCv fCv
 rw [if_pos h, if_pos h, k]
 exact ⟨rfl, rfl, q1, q2⟩
theorem i1d {n tg : Int} {v : Vl} {r : Vr} {k : Nat} (hn : IsFm n) (ht : IsFm tg) (hE : m0x (fmt n) (fmt tg) = true) (B : h0y n v r k) (ho : okX (fmt n) r.x k = true) (hin : a0i r.x (fmt n).g = true) :
 (oCv n tg 1 (strR n (c0m (fmt n) r.x k)) = strR tg (c0m (fmt n) r.x k) ∧ fCv n tg 1 (strR n (c0m (fmt n) r.x k)) = 0 ∧ eCv n tg 1 (strR n (c0m (fmt n) r.x k)) = 0) ∧
 oCv tg n 1 (strR tg (c0m (fmt n) r.x k)) = strR n (c0m (fmt n) r.x k) ∧ fCv tg n 1 (strR tg (c0m (fmt n) r.x k)) = 0 ∧ eCv tg n 1 (strR tg (c0m (fmt n) r.x k)) = 0 := by
 unfold okX at ho
 obtain ⟨o1, o2, o3, o4⟩ := oTr ho
 have hp := B.pat
 have hr := B.ref
 generalize c0m (fmt n) r.x k = b at *
 have hx : b.x = r.x := by
  generalize b.x = y at *
  generalize r.x = z at *
  obtain ⟨y1, y2, y3⟩ := y
  obtain ⟨z1, z2, z3⟩ := z
  simp only at o2 o3 o4
  rw [o2, o3, o4]
 have a0 := j1e (way := 1) hn ht hp ⟨by omega, by omega⟩
 obtain ⟨a1, a2, a3, a4⟩ := t0l a0 (by rw [hr]; exact o1) (by rw [hr, hx]; exact i1b hn ht hE hin)
 rw [hr] at a1 a3 a4
 have b0 := j1e (way := 1) ht hn a3 ⟨by omega, by omega⟩
 obtain ⟨b1, b2, _, _⟩ := t0l b0 (by rw [a4]; exact o1) (by rw [a4, hx]; exact hin)
 rw [a4] at b1
 exact ⟨⟨a1, a2, a0⟩, b1, b2, b0⟩
theorem n0h (n : Int) (s : ByteArray) (tg : Int) (w : World) (hT : TabW w) (hP : PowW w) : Calls Tryz.prog 10 #[.int .i64 n, .string s, .int .i64 tg] w fun en w' => en = .returned (.bool true) ∧ Below w.heap.size w w' := by
 have HB := fun W h h2 => hi0 (r0b W h h2)
 have HB0 := fun W h => hi0 (r0d W h)
 have HX := fun W h => hi0 (e1d n tg W h)
 have HS := fun W h h2 => hi0 (k0r n s W h h2)
 have HC := fun W h => hi0 (z0a n s W h)
 have HD := fun W h => hi0 (e0s n s W h)
 have hK := @h1y n s
 have hs2 := @l1y n s
 have hBk := fun k h0 hc hin hk => j1d (n := n) (s := s) (k := k) h0 hc hin hk
 have hN := fun h0 hc => q0z (n := n) (s := s) h0 hc
 generalize b0s n s = es at *
 generalize c0y n s = ts at *
 generalize refD n s = r at *
 generalize decP n s = v at *
 have hn : a0o n s = 0 → IsFm n := fun h => (b0d.1 h).1
 generalize a0o n s = er at *
 have hXX : eEx n tg = 0 → oEx n tg = true → IsFm tg ∧ m0x (fmt n) (fmt tg) = true := fun h1 h2 => by
  unfold eEx at h1
  unfold oEx at h2
  split at h2
  · rename_i k; exact ⟨k.2, h2⟩
  · cases h2
 have HPa := fun (k : Nat) (hn : IsFm n) (B : h0y n v r k) W h => hi0 (by
   have h := o0q n (a0c (numT v.neg (numX r.x k).1 (numX r.x k).2)) 1 W h
   obtain ⟨q1, q2⟩ := z0b hn B
   rw [q1, q2] at h
   exact h : Calls Tryz.prog 15 #[.int .i64 n, .string (a0c (numT v.neg (numX r.x k).1 (numX r.x k).2)), .int .i64 1] W fun en w' => en = .returned (.tuple #[.string (strR n (c0m (fmt n) r.x k)), .int .i64 ((flP' n 1 (a0b (a0c (numT v.neg (numX r.x k).1 (numX r.x k).2))) : Nat) : Int), .int .i64 0]) ∧ Below W.heap.size W w')
 have HD2 := fun (k : Nat) (B : h0y n v r k) (h : okX (fmt n) r.x k = true) W h2 => hi0 (by
   have h2 := e0s n (strR n (c0m (fmt n) r.x k)) W h2
   rw [B.pat, h1x B h] at h2
   exact h2 : Calls Tryz.prog 28 #[.int .i64 n, .string (strR n (c0m (fmt n) r.x k))] W (u0y W v 0))
 have HSv := fun (N : NumV (fmt n) v r) p q c d b1 b2 W h1 h2 => hi0 (by
   have h := v0l v v p q c d b1 b2 W h1 h2 (by have := N.len; omega) (by have := N.len; omega)
   rw [decide_eq_true (show v.cls = v.cls ∧ v.neg = v.neg ∧ v.pow = v.pow ∧ v.d = v.d from ⟨rfl, rfl, rfl, rfl⟩)] at h
   exact h : Calls Tryz.prog 30 #[.agg #[.int .i64 (v.cls : Int), .bool v.neg, .slice p (dig B32 v.d).length c, .int .i64 v.pow], .agg #[.int .i64 (v.cls : Int), .bool v.neg, .slice q (dig B32 v.d).length d, .int .i64 v.pow]] W fun en w' => en = .returned (.bool true) ∧ Below W.heap.size W w')
 have HC1 := fun s W h => hi0 (m0y n tg 1 s W h)
 have HC2 := fun s W h => hi0 (m0y tg n 1 s W h)
 have hTC := fun k hn ht hE B ho hin => i1d (n := n) (tg := tg) (v := v) (r := r) (k := k) hn ht hE B ho hin
 generalize eEx n tg = ex at *
 generalize oEx n tg = ox at *
 have I := Inv.start w [tabF, powF] ⟨hT, hP, True.intro⟩
 refine a0e [.v (.int .i64 n), .v (.string s), .v (.int .i64 tg)] I Tryz.func10 ?_
 refine zq I (fun Al W I => (HB W I.fa.1 I.fa.2.1).out) fun Al W I => zq I (fun Al W I => (HB0 W I.fa.1).out) fun Al W I => zq I (fun Al W I => (HX W I.fa.1).out) fun Al W I => zq I (fun Al W I => (HS W I.fa.1 I.fa.2.1).out) fun Al W I => ?_
 rcases bTF (ex != 0) with f43 | f43
 · refine zb I 43 (ex != 0) (true) (f43) fun Al W I => zrb I
 refine zb I 43 (ex != 0) (false) (f43) fun Al W I => ?_
 rcases bTF (es != 0) with f46 | f46
 · refine zb I 46 (es != 0) (true) (f46) fun Al W I => zrb I
 refine zb I 46 (es != 0) (false) (f46) fun Al W I => ?_
 rcases bTF (!ox) with f50 | f50
 · refine zb I 50 (!ox) (true) (f50) fun Al W I => zrb I
 refine zb I 50 (!ox) (false) (f50) fun Al W I => zq I (fun Al W I => (HC W I.fa.1).out) fun Al W I => ?_
 rcases bTF ((v.cls : Int) != 2) with f56 | f56
 · refine zb I 56 ((v.cls : Int) != 2) (true) (f56) fun Al W I => zrb I
 refine zb I 56 ((v.cls : Int) != 2) (false) (f56) fun Al W I => ?_
 have hes : es = 0 := bne_eq_false_iff_eq.1 f46
 have hc : v.cls = 2 := by have := bne_eq_false_iff_eq.1 f56; omega
 obtain ⟨h0, hr, hin, rfl⟩ := hK hes hc
 subst h0
 have hn := hn rfl
 obtain ⟨ht, hE⟩ := hXX (bne_eq_false_iff_eq.1 f43) (by simpa using f50)
 obtain ⟨k1, k2, k3, _⟩ := hs2 rfl hr hin
 have N := hN rfl hr
 have B1 := hBk _ rfl hr hin ⟨k1, by omega⟩
 obtain ⟨⟨t1, t2, t3⟩, t4, t5, t6⟩ := hTC _ hn ht hE B1 k3 hin
 have HC1 := HC1 (strR n (c0m (fmt n) r.x (d0p (fmt n) r.x)))
 have HC2 := HC2 (strR tg (c0m (fmt n) r.x (d0p (fmt n) r.x)))
 rw [t1, t2, t3] at HC1
 rw [t4, t5, t6] at HC2
 generalize d0p (fmt n) r.x = K at *
 refine zq I (fun Al W I => (HPa K hn B1 W I.fa.1).out) fun Al W I => zq I (fun Al W I => (HC1 W I.fa.1).out) fun Al W I => zq I (fun Al W I => (HC2 W I.fa.1).out) fun Al W I => zqo I (fun Al W I => (HD W I.fa.1).out) fun Al W p84 c84 I => zqo I (fun Al W I => (HD2 K B1 k3 W I.fa.2.1).out) fun Al W p90 c90 I => zb I 113 (((0 : Nat) : Int) == 0) (true) (rfl) fun Al W I => zb I 117 (((0 : Nat) : Int) == 0) (true) (rfl) fun Al W I => zq I (fun Al W I => (HSv N p84 p90 c84 c90 _ _ W I.fa.2.1 I.fa.1).out) fun Al W I => zrb I
end Go.Proofs.YtbamiajjampgnaaGreatDoor
