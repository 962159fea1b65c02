/- grid: Fit. -/
import Derived.Deep.LoopGhost
import Derived.Deep.RegionHeld3
import Derived.Deep.DeepCutAuto
import Derived.Outline
import Derived.Test.YtgbbhlginbmghaaGreatDoorMCc1
import Derived.Test.YtgbbhlginbmghaaGreatDoorMCc2
import Derived.Test.YtgbbhlginbmghaaGreatDoorMCc3
import Derived.Test.YtgbbhlginbmghaaGreatDoorMCc4
set_option maxHeartbeats 8000000
set_option maxRecDepth 100000
namespace Go.Proofs.YtgbbhlginbmghaaGreatDoor
open Go.RowKit Go.Slip
def z0b (w : World) (d : Pl) (en : Ending) (w' : World) : Prop :=
 ∃ p c, en = .returned (.agg #[.bool d.neg, .slice p (dig B32 d.d).length c, .int .i64 d.pow, .bool d.exact, .bool d.over, .bool d.under]) ∧ Own w' w.heap.size .u32 139 p c (dig B32 d.d) ∧ Below w.heap.size w w'
theorem u0y {wd : Nat} {k : Int} {B : Int} (h1 : wd ≤ 4) (hk : -B ≤ k ∧ k ≤ B) : -(4 * B) ≤ (wd : Int) * k ∧ (wd : Int) * k ≤ 4 * B := by
 have h0 : 0 ≤ (wd : Int) := by omega
 have a1 := Int.mul_le_mul_of_nonneg_left hk.1 h0
 have a2 := Int.mul_le_mul_of_nonneg_left hk.2 h0
 have hB : 0 ≤ B := by omega
 have a3 : (wd : Int) * B ≤ 4 * B := Int.mul_le_mul_of_nonneg_right (by omega) hB
 have a4 : (wd : Int) * -B = -((wd : Int) * B) := Int.mul_neg _ _
 omega
theorem k1i {x B : Int} {wd : Nat} (h0 : 1 ≤ wd) (h : -B ≤ x ∧ x ≤ B) : -B ≤ x / wd ∧ x / wd ≤ B := by
 have h1 := g0d x wd h0
 have hB : 0 ≤ B := by omega
 generalize x / (wd : Int) = y at *
 constructor
 · rcases Int.lt_or_le y (-B) with h2 | h2
   · have h3 : (wd : Int) * (y + 1) ≤ wd * (-B) := Int.mul_le_mul_of_nonneg_left (by omega) (by omega)
     have h4 : (wd : Int) * (-B) ≤ 1 * (-B) := Int.mul_le_mul_of_nonpos_right (by omega) (by omega)
     rw [Int.mul_add] at h3
     omega
   · exact h2
 · rcases Int.lt_or_le B y with h2 | h2
   · have h3 : (wd : Int) * (B + 1) ≤ wd * y := Int.mul_le_mul_of_nonneg_left (by omega) (by omega)
     have h4 : 1 * (B + 1) ≤ (wd : Int) * (B + 1) := Int.mul_le_mul_of_nonneg_right (by omega) (by omega)
     omega
   · exact h2
theorem k1j {n : Nat} (h : n < 4294967296) : bits .and .u32 (n : Int) 1 = ((n % 2 : Nat) : Int) := by
 have h1 : (BitVec.ofInt 32 1).toNat = 2 ^ 1 - 1 := by decide
 have h2 : (BitVec.ofInt 32 (n : Int)).toNat = n := by rw [BitVec.ofInt_natCast, BitVec.toNat_ofNat, Nat.mod_eq_of_lt h]
 have key : (BitVec.ofInt 32 (n : Int) &&& BitVec.ofInt 32 1).toNat = n % 2 := by
  rw [BitVec.toNat_and, h2, h1, Nat.and_two_pow_sub_one_eq_mod]
 show IntKind.u32.wrap ((BitVec.ofInt 32 (n : Int) &&& BitVec.ofInt 32 1).toNat : Nat) = _
 rw [key]
 have : n % 2 < 2 := Nat.mod_lt _ (by omega)
 generalize n % 2 = r at *
 obtain rfl | rfl : r = 0 ∨ r = 1 := by omega
 · rfl
 · rfl
def t1a (b : Nat) : PF := ⟨fun w => Ways w b, fun a => b = a, fun _ _ h hb _ => (hb b (Array.getElem?_eq_some_iff.1 h).1 rfl).trans h, fun _ _ h hf => hf ▸ (Array.getElem?_eq_some_iff.1 h).1⟩
theorem f1w {P : Program} {f : FuncId} {args : Array Value} {w : World} {E : Ending} (h : Calls P f args w fun e w' => e = E ∧ w = w') : Calls P f args w fun e w' => e = E ∧ Below w.heap.size w w' :=
 h.mono fun e w' ⟨h1, h2⟩ => ⟨h1, by subst h2; exact Below.refl _ _⟩
theorem f1x {P : Program} {f : FuncId} {args : Array Value} {w : World} {E : Ending} (h : Calls P f args w fun e w' => e = E ∧ w' = w) : Calls P f args w fun e w' => e = E ∧ Below w.heap.size w w' :=
 h.mono fun e w' ⟨h1, h2⟩ => ⟨h1, by subst h2; exact Below.refl _ _⟩
theorem fshl (p : OA) (n c : Nat) (a N x : Nat) (M : Int) (w : World) (hp : Rd w .u32 p (dig B32 a)) (hn : n = (dig B32 a).length) (hl : (dig B32 a).length ≤ 100000000) (hN : N ≤ 1000000000) (hM : M = N) (h : a * 2 ^ N = x) :
 Calls Tryz.prog 67 #[.slice p n c, .int .i64 M] w (f0w w .u32 139 (dig B32 x)) := by
 subst h hM; exact i0c p n c a N w hp hn (by omega) hN
theorem f1y : k0n Tryz.prog 51 139 (.int .u32 0) 4 := tyV (by kernel_rfl) (by kernel_rfl) (by omega) rfl rfl
theorem u1k : k0k Tryz.prog 139 := m0v (by kernel_rfl) (by kernel_rfl)
theorem u0z {P : Program} {w : World} {ty : TypeId} {k : IntKind} {p : OA} {xs : List Nat} (hr : Rd w k p xs) (hT : k0k P ty) {m : Nat} (hm : m < xs.length) : (VO.ld ty (.pointer (some (at_ p m)))).sem.run P w = .ok (.int k ((dg xs m : Nat) : Int)) w := by
 show (Instr.loadAt _ _).run P w = _
 have hl : (load (at_ p m)).run P w = .ok (.int k ((dg xs m : Nat) : Int)) w := by
  have := hr.cells m hm
  simp [go_sem, this]
 simp only [Instr.loadAt, Instr.sureAddr, Sem.run_bind, Sem.run_pure, Result.andThen_ok, loadVar, g0x hT]
 simpa using hl
theorem u1l (X : Nat) : (((X % 2 : Nat) : Int) == 1) = decide (X % 2 = 1) := by
 by_cases h : X % 2 = 1
 · rw [h]; rfl
 · rw [show X % 2 = 0 by omega]; rfl
theorem t1b (Y : Nat) : decide (Y = 0) = (((dig B32 Y).length : Int) == 0) := by
 have := a0h a0b Y
 by_cases h0 : Y = 0
 · rw [decide_eq_true h0, h0, a0e]; rfl
 · rw [decide_eq_false h0]; exact (bFn (by omega)).symm
theorem Inv.ways {E : List Nat} {w0 : World} {A : List Nat} {bx : List Box} {fs : List PF} {W : World} (I : Inv E w0 A bx fs W) {b : Nat} (h : Ways W b) : Inv E w0 A bx (t1a b :: fs) W :=
 I.add (t1a b) h fun a ha e => by
  obtain ⟨j, hj, _, rfl⟩ := ha
  have h1 := I.bt j hj
  have h2 : W.heap[b]? = _ := h
  rw [show b = lk 0 A j from e] at h2
  have h3 := h1.symm.trans h2
  simp at h3
theorem k1k {w w' : World} {pf : Pl} {ng xb ov un : Bool} (h : pf = ⟨ng, 0, 0, xb, ov, un⟩) (hb : Below w.heap.size w w') : z0b w pf (.returned (.agg #[.bool ng, .slice none 0 0, .int .i64 0, .bool xb, .bool ov, .bool un])) w' := by
 subst h
 exact ⟨none, 0, by simp [a0e], by simp only [a0e]; exact Own.nil _ _ _ _, hb⟩
theorem k1l {w w' : World} {pf : Pl} {ng xb ov un : Bool} {dd : Nat} {k2 : Int} {p : OA} {c : Nat} (h : pf = ⟨ng, dd, k2, xb, ov, un⟩) (o : Own w' w.heap.size .u32 139 p c (dig B32 dd)) (hb : Below w.heap.size w w') :
 z0b w pf (.returned (.agg #[.bool ng, .slice p (dig B32 dd).length c, .int .i64 k2, .bool xb, .bool ov, .bool un])) w' := by
 subst h
 exact ⟨p, c, rfl, o, hb⟩
theorem p1n (X : Nat) (h : 0 < (dig B32 X).length) : bits .and .u32 ((dg (dig B32 X) 0 : Nat) : Int) 1 = ((X % 2 : Nat) : Int) := by
 have hx0 : 0 < X := by have := a0h a0b X; omega
 have hd0 : dg (dig B32 X) 0 = X % B32 := by rw [e0e a0b hx0]; rfl
 rw [hd0, k1j (n := X % B32) (Nat.mod_lt _ c0j), show X % B32 % 2 = X % 2 by unfold B32; omega]
theorem s0u (ng : Bool) (p q : OA) (c d : Nat) (num den : Nat) (e : Int) (g : Gd) (way K : Int) (w : World) (hp : Rd w .u32 p (dig B32 num)) (hq : Rd w .u32 q (dig B32 den))
 (hl : (dig B32 num).length ≤ 100000) (hl2 : (dig B32 den).length ≤ 100000) (hn : 0 < num) (hd : 0 < den) (he : -1000000 ≤ e ∧ e ≤ 1000000) (G : f0c g) (hw1 : 1 ≤ way) (hw2 : way ≤ 5) (hK : IsK num den e (wid g) g.digs.toNat K) :
 Calls Tryz.prog 37 #[.agg #[.bool ng, .slice p (dig B32 num).length c, .slice q (dig B32 den).length d, .int .i64 e], .agg #[.int .i64 g.rad, .int .i64 g.digs, .int .i64 g.lo, .int .i64 g.hi, .bool g.grad], .int .i64 way] w (z0b w (fitK ng num den e g way K)) := by
 obtain ⟨_, gd1, gd2, gl1, gl2, gh1, gh2, gle⟩ := G
 obtain ⟨f, hf, hF, hcf⟩ := f1v hw1 hw2
 have HCF := lHd hcf
 clear hcf
 have HF := lHd hF
 have HF0 := lHd hf
 obtain ⟨pf, hpf⟩ : ∃ pf, fitK ng num den e g way K = pf := ⟨_, rfl⟩
 rw [hpf]
 have HPF := lHd hpf
 have HWD := fun W => lHd (f1s g W)
 have wp := b0g g
 obtain ⟨wd, hwd⟩ : ∃ wd, wid g = wd := ⟨_, rfl⟩
 rw [hwd] at wp HWD hK
 have HW := lHd hwd
 obtain ⟨rad, digs, lo, hi, grad⟩ := g
 simp only at *
 obtain ⟨D, rfl⟩ : ∃ D : Nat, digs = D := ⟨digs.toNat, by omega⟩
 rw [Int.toNat_natCast] at hK
 have hD : 1 ≤ D := by omega
 have hden0 : 0 < (dig B32 den).length := by have := a0h a0b den; omega
 have bn := c0x num
 have bd := c0x den
 obtain ⟨F1, F2⟩ := y0q hn hd e (w := wd) (D := D) (by omega) hD _ rfl
 obtain ⟨x, hx⟩ : ∃ x : Int, (blen num : Int) - blen den + e = x := ⟨_, rfl⟩
 have hxb : -5000000 ≤ x ∧ x ≤ 5000000 := by omega
 have hxw := k1i (wd := wd) wp.1 hxb
 have e0 : IntKind.i64.wrap ((blen num : Int) - blen den) = (blen num : Int) - blen den := iwo
 have e1 : IntKind.i64.wrap ((blen num : Int) - blen den + e) = x := by rw [iwo, hx]
 rw [hx] at F1 F2
 have HX := lHd hx
 have hK1 := hK.le hd F1
 have hK2 : K ≤ x / wd - D + 1 := by
  rcases Int.lt_or_le (x / wd - D + 1) K with h | h
  · exact absurd (i0m hd hK.yes (by omega)) F2
  · exact h
 have HK := lHd hK
 clear hF hf hpf hwd hx F1 F2 hK
 have lnum : ∀ k : Int, (dig B32 (qP num den (e - wd * k))).length ≤ 1400000 ∨ True := fun _ => .inr True.intro
 have e1' := e1
 obtain ⟨k0, hk0⟩ : ∃ k0, x / (wd : Int) - D + 1 = k0 := ⟨_, rfl⟩
 have hk0b : -6000000 ≤ k0 ∧ k0 ≤ 6000000 := by omega
 have hk1' : k0 - 1 ≤ K := by omega
 have hm0 : -5001000 ≤ (wd : Int) * k0 ∧ (wd : Int) * k0 ≤ 5001000 := by
  have h1 := g0d x wd wp.1
  have h2 : (wd : Int) * k0 = wd * (x / wd) - wd * D + wd := by rw [← hk0]; grind
  have h3 : (wd : Int) * D ≤ 4 * 120 := Int.mul_le_mul (by omega) (by omega) (by omega) (by omega)
  have h4 : 0 ≤ (wd : Int) * D := Int.mul_nonneg (by omega) (by omega)
  omega
 rw [hk0] at hK2
 obtain ⟨N1, hN1⟩ : ∃ N1 : Nat, N1 = wd * (D - 1) := ⟨_, rfl⟩
 have hN1b : N1 ≤ 480 := by rw [hN1]; exact Nat.le_trans (Nat.mul_le_mul wp.2 (show D - 1 ≤ 120 by omega)) (by omega)
 have n39 : IntKind.i64.wrap ((D : Int) - 1) = ((D - 1 : Nat) : Int) := by rw [iwo]; omega
 have n40 : IntKind.i64.wrap ((wd : Int) * ((D - 1 : Nat) : Int)) = (N1 : Int) := by rw [IntWalk.i64_in _ (by rw [← Int.natCast_mul, ← hN1]; omega), ← Int.natCast_mul, ← hN1]
 have l1 : (dig B32 1).length ≤ 1 := by rw [a0g a0b]; unfold B32; omega
 have lw : (dig B32 (2 ^ N1)).length ≤ 16 := g0z hN1b
 have n34 : IntKind.i64.wrap (x / (wd : Int) - (D : Int) + 1) = k0 := by rw [iwo, hk0]
 have N24 := lHd e0
 have N27 := lHd e1
 have N34 := lHd n34
 have N39 := lHd n39
 have N40 := lHd n40
 have lq : ∀ k : Int, -5002000 ≤ (wd : Int) * k ∧ (wd : Int) * k ≤ 5002000 → (dig B32 (qP num den (e - wd * k))).length ≤ 1400000 := fun k h => Nat.le_trans (a0l a0b (Nat.div_le_self _ _)) (s0s (by omega) (by omega))
 have lz : ∀ k : Int, -5003000 ≤ (wd : Int) * k ∧ (wd : Int) * k ≤ 5003000 → (dig B32 (denP den (e - wd * k))).length ≤ 1400000 := fun k h => s0t (by omega) (by omega)
 have HN1 := lHd hN1
 have HK0 := lHd hk0
 have N146 : Hid (IntKind.i64.wrap ((wd : Int) * (D : Int)) = ((wd * D : Nat) : Int)) := lHd (by have hwD : wd * D ≤ 480 := Nat.le_trans (Nat.mul_le_mul wp.2 (show D ≤ 120 by omega)) (by omega); rw [IntWalk.i64_in _ (by rw [← Int.natCast_mul]; omega), Int.natCast_mul])
 have HLK := fun W b (hW : Ways W b) => lHd (f1u hW hw1 hw2)
 rw [HF0.out] at HLK
 have hxw2 : -6000000 ≤ x / (wd : Int) - D ∧ x / (wd : Int) - D ≤ 6000000 := by omega
 have hlo := u0y (k := lo) wp.2 (B := 17000) ⟨by omega, by omega⟩
 have hmk : ∀ kk : Int, kk ≤ k0 → K ≤ kk → -5002000 ≤ (wd : Int) * kk ∧ (wd : Int) * kk ≤ 5002000 := fun kk h1 h2 => by
  have hkd : kk = k0 ∨ kk = k0 - 1 := by omega
  rcases hkd with rfl | rfl
  · omega
  · rw [Int.mul_sub]; omega
 clear e0 e1 e1' n34 n39 n40 hk0 hN1 lnum
 let aA : Box := ⟨84, [.v (.bool false), .v (.slice none 0 0), .v (.int .i64 0), .v (.bool false), .v (.bool false), .v (.bool false)], false⟩
 let aB : Box := ⟨53, [.v (.bool ng), .v (.slice p (dig B32 num).length c), .v (.slice q (dig B32 den).length d), .v (.int .i64 e)], false⟩
 let aC : Box := ⟨76, [.v (.int .i64 rad), .v (.int .i64 (D : Int)), .v (.int .i64 lo), .v (.int .i64 hi), .v (.bool grad)], false⟩
 let aD : SV := .v (.agg #[.bool ng, .slice p (dig B32 num).length c, .slice q (dig B32 den).length d, .int .i64 e])
 let aE : SV := .v (.agg #[.int .i64 rad, .int .i64 (D : Int), .int .i64 lo, .int .i64 hi, .bool grad])
 have I := Inv.start w [rdF .u32 p (dig B32 num), rdF .u32 q (dig B32 den)] ⟨hp, hq, True.intro⟩
 refine a0c [.v (.agg #[.bool ng, .slice p (dig B32 num).length c, .slice q (dig B32 den).length d, .int .i64 e]), .v (.agg #[.int .i64 rad, .int .i64 (D : Int), .int .i64 lo, .int .i64 hi, .bool grad]), .v (.int .i64 way)] I Tryz.func37 ?_
 refine zq I (fun Al W I => (HWD W).out) fun Al W I => zd [] I fun Al W I => zk [0, 1, 3, 4, 7, 8] I fun I => zo 2 I fun I => zq I (fun Al W I => have hzW := I.bel.size; f1w (i0d p _ c num W I.fa.1 rfl (by omega))) fun Al W I => zo 5 I fun I => zq I (fun Al W I => have hzW := I.bel.size; f1w (i0d q _ d den W I.fa.2.1 rfl (by omega))) fun Al W I => zki 6 I .i64 (((blen num : Nat) : Int) - ((blen den : Nat) : Int)) (((blen num : Int) - blen den)) (N24.out) fun I => zki 9 I .i64 (((blen num : Int) - blen den) + e) (x) (N27.out) fun I => zk [10] I fun I => zd [] I fun Al W I => zk [0, 1, 3, 4] I fun I => zo 2 I fun I => zq I (fun Al W I => have hzW := I.bel.size; f1w (b1p x wd W (by omega) wp.1 (by omega))) fun Al W I => zki 5 I .i64 ((x / (wd : Int)) - (D : Int)) ((x / (wd : Int) - D)) (iwo) fun I => zki 6 I .i64 ((x / (wd : Int) - D) + 1) (k0) (N34.out) fun I => zk [7] I fun I => zd [] I fun Al W I => zk [1, 2, 3] I fun I => zki 4 I .i64 ((D : Int) - 1) (((D - 1 : Nat) : Int)) (N39.out) fun I => zki 5 I .i64 ((wd : Int) * ((D - 1 : Nat) : Int)) ((N1 : Int)) (N40.out) fun I => zo 0 I fun I => zg I (fun Al W I => x0h W) fun Al V Iv _ hB _ kz => ?_
 rintro _ W ⟨p35, c35, rfl, o35, hb⟩
 refine ⟨_, rfl, kz _ _ hb fun I => ?_⟩
 have I := I.own o35
 refine zo 6 I fun I => zg I (fun Al W I => have hzW := I.bel.size; fshl p35 _ c35 1 N1 (2 ^ N1) N1 W I.fa.1.rd rfl (by omega) (by omega) rfl (Nat.one_mul _)) fun Al V Iv _ hB _ kz => ?_
 rintro _ W ⟨p41, c41, rfl, o41, hb⟩
 refine ⟨_, rfl, kz _ _ hb fun I => ?_⟩
 have I := I.own o41
 refine zk [7] I fun I => zi I 51 .i64 ((wd : Int) * k0) ((wd * k0)) (iwo) fun Al W I => zi I 52 .i64 (e - (wd * k0)) ((e - wd * k0)) (iwo) fun Al W I => zg I (fun Al W I => have hzW := I.bel.size; m0a p q _ _ c d num den (e - wd * k0) W I.fa.2.2.1 I.fa.2.2.2.1 rfl rfl (by omega) (by omega) hd (by omega)) fun Al V Iv _ hB _ kz => ?_
 rintro _ W ⟨p53, c53, q53, d53, r53, f53, rfl, a53, b53, z53, -, hb⟩
 refine ⟨_, rfl, kz _ _ hb fun I => ?_⟩
 have I := I.own a53
 have I := I.own b53
 have I := I.rd z53
 refine h0u I (fun gk fr bx gs => ∃ (U900 : Nat → Value) (kk : Int) (p2 : OA) (c2 : Nat) (q2 : OA) (d2 : Nat) (r2 : OA) (f2 : Nat), fr = (aD :: aE :: .v (.int .i64 way) :: .p 0 0 :: .p 1 0 :: .v undef :: .p 2 0 :: .v (.int .i64 (wd : Int)) :: .v (.int .i64 x) :: .v (.int .i64 kk) :: .v (.slice p41 (dig B32 (2 ^ N1)).length c41) :: .v (.slice p2 (dig B32 (qP num den (e - wd * kk))).length c2) :: .v (.slice q2 (dig B32 (rP num den (e - wd * kk))).length d2) :: .v (.slice r2 (dig B32 (denP den (e - wd * kk))).length f2) :: su 2 (sw U900 16 74 (.v undef :: sw U900 91 46 (.v undef :: sw U900 138 9 (.v undef :: sw U900 148 10 (.v undef :: sw U900 159 5 []))))) : List SV) ∧ bx = [aB, aC, aA] ∧ gs = [rdF .u32 r2 (dig B32 (denP den (e - wd * kk))), ownF w.heap.size .u32 139 q2 d2 (dig B32 (rP num den (e - wd * kk))), ownF w.heap.size .u32 139 p2 c2 (dig B32 (qP num den (e - wd * kk))), ownF w.heap.size .u32 139 p41 c41 (dig B32 (2 ^ N1)), rdF .u32 p (dig B32 num), rdF .u32 q (dig B32 den)] ∧ ((gk : Int) = kk - K) ∧ (kk ≤ k0) ∧ (K ≤ kk)) ((k0 - K).toNat) (fun Al W U I => ⟨_, ⟨U, k0, p53, c53, q53, d53, r53, f53, rfl, rfl, rfl, by omega, by omega, by omega⟩, I.pick [0, 1, 2, 3, 5, 6]⟩) ?_
 rintro J0 gk0 _ _ _ ⟨U900, kk, p2, c2, q2, d2, r2, f2, rfl, rfl, rfl, hgk, hkk, hKk⟩ hJ0 Al W I
 have hmk1 := hmk kk hkk hKk
 have lq1 := lq kk hmk1
 by_cases hfull : e0d num den e wd D kk
 · refine zq I (fun Al W I => have hzW := I.bel.size; e0a p2 p41 _ _ c2 c41 (qP num den (e - wd * kk)) (2 ^ N1) W I.fa.2.2.1.rd I.fa.2.2.2.1.rd rfl rfl (by omega) (by omega)) fun Al W I => zb I 60 (decide ((cmpN (qP num den (e - wd * kk)) (2 ^ N1)) < 0)) (false) (dFa (by have h := hfull; unfold e0d at h; rw [← HN1.out] at h; unfold cmpN; rw [if_neg (by omega)]; split <;> omega)) fun Al W I => ?_
   have hkK : kk = K := by have := HK.out.le hd hfull; omega
   obtain ⟨un, hun⟩ : ∃ un, decide (kk < lo) = un := ⟨_, rfl⟩
   refine zb I 83 (decide (kk < lo)) (un) (hun) fun Al W I => zcut I (some 3000010) (fun fr bx gs => ∃ (U1 : Nat → Value) (b1 : Bool), fr = (aD :: aE :: .v (vI way) :: .p 0 0 :: .p 1 0 :: vu :: .p 2 0 :: .v (vI (wd : Int)) :: .v (vI x) :: .v (vI kk) :: .v (vS (dig B32 (2 ^ N1)) p41 c41) :: .v (vS (dig B32 (qP num den (e - wd * kk))) p2 c2) :: .v (vS (dig B32 (rP num den (e - wd * kk))) q2 d2) :: .v (vS (dig B32 (denP den (e - wd * kk))) r2 f2) :: .p 3 0 :: vu :: sw U1 16 44 (.v (.bool false) :: sw U1 61 29 (.v (.bool b1) :: sw U1 91 46 (vu :: sw U1 138 9 (vu :: sw U1 148 10 (vu :: sw U1 159 5 []))))) : List SV) ∧ bx = [aB, aC, aA, ⟨84, [.v (.bool ng), .v (.slice none 0 0), .v (vI 0), .v (.bool false), .v (.bool false), .v (.bool un)], false⟩] ∧ gs = [rdF .u32 r2 (dig B32 (denP den (e - wd * kk))), ownF w.heap.size .u32 139 q2 d2 (dig B32 (rP num den (e - wd * kk))), ownF w.heap.size .u32 139 p2 c2 (dig B32 (qP num den (e - wd * kk))), ownF w.heap.size .u32 139 p41 c41 (dig B32 (2 ^ N1)), rdF .u32 p (dig B32 num), rdF .u32 q (dig B32 den)] ∧ (b1 = (un && grad))) ?_ ?_
   · intro J hJ Al W I
     rcases bTF (un) with f86 | f86
     · refine zb I 86 (un) (true) (f86) fun Al W I => a0i I J fun Al W U I => hJ _ _ _ _ _ ⟨U, grad, rfl, rfl, rfl, by first | (rw [f86, Bool.true_and]; done) | rw [f86, Bool.false_and]⟩ (I.pick [0, 1, 2, 3, 4, 5])
     refine zb I 86 (un) (false) (f86) fun Al W I => a0i I J fun Al W U I => hJ _ _ _ _ _ ⟨U, false, rfl, rfl, rfl, by first | (rw [f86, Bool.true_and]; done) | rw [f86, Bool.false_and]⟩ (I.pick [0, 1, 2, 3, 4, 5])
   rintro _ _ _ ⟨U1, b1, rfl, rfl, rfl, hb1⟩ Al W I
   refine zcut I (some 2000090) (fun fr bx gs => ∃ (U2 : Nat → Value) (kj : Int) (p3 : OA) (c3 : Nat) (q3 : OA) (d3 : Nat) (r3 : OA) (f3 : Nat) (X : Nat) (Y : Nat) (Z : Nat), fr = (aD :: aE :: .v (vI way) :: .p 0 0 :: .p 1 0 :: vu :: .p 2 0 :: .v (vI (wd : Int)) :: .v (vI x) :: .v (vI kj) :: .v (vS (dig B32 (2 ^ N1)) p41 c41) :: .v (vS (dig B32 X) p3 c3) :: .v (vS (dig B32 Y) q3 d3) :: .v (vS (dig B32 Z) r3 f3) :: .p 3 0 :: vu :: sw U2 16 44 (.v (.bool false) :: sw U2 61 29 (.v (.bool b1) :: sw U2 91 46 (vu :: sw U2 138 9 (vu :: sw U2 148 10 (vu :: sw U2 159 5 []))))) : List SV) ∧ bx = [aB, aC, aA, ⟨84, [.v (.bool ng), .v (.slice none 0 0), .v (vI 0), .v (.bool false), .v (.bool false), .v (.bool un)], false⟩] ∧ gs = [rdF .u32 r3 (dig B32 Z), ownF w.heap.size .u32 139 q3 d3 (dig B32 Y), ownF w.heap.size .u32 139 p3 c3 (dig B32 X), ownF w.heap.size .u32 139 p41 c41 (dig B32 (2 ^ N1)), rdF .u32 p (dig B32 num), rdF .u32 q (dig B32 den)] ∧ (powK ⟨rad, D, lo, hi, grad⟩ kk = kj) ∧ (qP num den (e - wd * kj) = X) ∧ (rP num den (e - wd * kj) = Y) ∧ (denP den (e - wd * kj) = Z) ∧ (-5003000 ≤ (wd : Int) * kj ∧ (wd : Int) * kj ≤ 5003000 ∧ -7000000 ≤ kj ∧ kj ≤ 7000000)) ?_ ?_
   · intro J hJ Al W I
     rcases bTF b1 with rfl | rfl
     · refine zi I 102 .i64 ((wd : Int) * lo) ((wd * lo)) (iwo) fun Al W I => zi I 103 .i64 (e - (wd * lo)) ((e - wd * lo)) (iwo) fun Al W I => zg I (fun Al W I => have hzW := I.bel.size; m0a p q _ _ c d num den (e - wd * lo) W I.fa.2.2.2.2.1 I.fa.2.2.2.2.2.1 rfl rfl (by omega) (by omega) hd (by omega)) fun Al V Iv _ hB _ kz => ?_
       rintro _ W ⟨p104, c104, q104, d104, r104, f104, rfl, a104, b104, z104, -, hb⟩
       refine ⟨_, rfl, kz _ _ hb fun I => ?_⟩
       have I := I.own a104
       have I := I.own b104
       have I := I.rd z104
       exact a0i I J fun Al W U I => hJ _ _ _ _ _ ⟨U, lo, p104, c104, q104, d104, r104, f104, _, _, _, rfl, rfl, rfl, (by unfold powK; rw [if_pos ⟨by cases un; (simp at hb1); exact oTr hun, by cases un; (simp at hb1); exact hb1.symm⟩]), rfl, rfl, rfl, (by omega)⟩ (I.pick [0, 1, 2, 6, 7, 8])
     exact a0i I J fun Al W U I => hJ _ _ _ _ _ ⟨U, kk, p2, c2, q2, d2, r2, f2, _, _, _, rfl, rfl, rfl, (by unfold powK; rw [if_neg (by rintro ⟨h1, h2⟩; simp only at h1 h2; rw [← hun, decide_eq_true h1, h2] at hb1; cases hb1)]), rfl, rfl, rfl, (by omega)⟩ (I.pick [0, 1, 2, 3, 4, 5])
   rintro _ _ _ ⟨U2, kj, p3, c3, q3, d3, r3, f3, X, Y, Z, rfl, rfl, rfl, hkj, hX, hY, hZ, hmj⟩ Al W I
   have lX : (dig B32 X).length ≤ 1400000 := by rw [← hX]; exact Nat.le_trans (a0l a0b (Nat.div_le_self _ _)) (s0s (by omega) (by omega))
   have lZ : (dig B32 Z).length ≤ 1400000 := by rw [← hZ]; exact s0t (by omega) (by omega)
   have lY : (dig B32 Y).length ≤ 1400000 := by rw [← hY]; exact Nat.le_trans (a0l a0b (Nat.le_of_lt (Nat.mod_lt _ (e0l hd _)))) (by rw [hZ]; exact lZ)
   obtain ⟨xb, hxb⟩ : ∃ xb, (((dig B32 Y).length : Int) == 0) = xb := ⟨_, rfl⟩
   refine zb I 110 ((((dig B32 Y).length : Nat) : Int) == 0) (xb) (hxb) fun Al W I => zcut I (some 3000014) (fun fr bx gs => ∃ (U3 : Nat → Value) (od : Bool), fr = (aD :: aE :: .v (vI way) :: .p 0 0 :: .p 1 0 :: vu :: .p 2 0 :: .v (vI (wd : Int)) :: .v (vI x) :: .v (vI kj) :: .v (vS (dig B32 (2 ^ N1)) p41 c41) :: .v (vS (dig B32 X) p3 c3) :: .v (vS (dig B32 Y) q3 d3) :: .v (vS (dig B32 Z) r3 f3) :: .p 3 0 :: .v (.bool od) :: sw U3 16 44 (.v (.bool false) :: sw U3 61 29 (.v (.bool b1) :: sw U3 91 46 (vu :: sw U3 138 9 (vu :: sw U3 148 10 (vu :: sw U3 159 5 []))))) : List SV) ∧ bx = [aB, aC, aA, ⟨84, [.v (.bool ng), .v (.slice none 0 0), .v (vI 0), .v (.bool xb), .v (.bool false), .v (.bool un)], false⟩] ∧ gs = [rdF .u32 r3 (dig B32 Z), ownF w.heap.size .u32 139 q3 d3 (dig B32 Y), ownF w.heap.size .u32 139 p3 c3 (dig B32 X), ownF w.heap.size .u32 139 p41 c41 (dig B32 (2 ^ N1)), rdF .u32 p (dig B32 num), rdF .u32 q (dig B32 den)] ∧ (od = decide (X % 2 = 1))) ?_ ?_
   · intro J hJ Al W I
     rcases bTF (decide ((((dig B32 X).length : Nat) : Int) > 0)) with f114 | f114
     · refine zb I 114 (decide ((((dig B32 X).length : Nat) : Int) > 0)) (true) (f114) fun Al W I => ?_
       have hX0 : 0 < (dig B32 X).length := by have := oTr f114; omega
       refine zx I 117 (fun _ => .pointer (some (at_ p3 0))) (fun Al W I => d0x (p := p3) (n := (dig B32 X).length) (c := c3) (m := 0) f1y I.fa.2.2.1.rd.solid hX0) fun Al W I => zx I 118 (fun _ => .int .u32 ((dg (dig B32 X) 0 : Nat) : Int)) (fun Al W I => u0z I.fa.2.2.1.rd u1k (m := 0) hX0) fun Al W I => zbin I 119 _ (fun _ _ _ _ _ => h0v .u32 ((dg (dig B32 X) 0 : Nat) : Int) (1) (((X % 2 : Nat) : Int)) ((p1n X hX0))) fun Al W I => a0i I J fun Al W U I => hJ _ _ _ _ _ ⟨U, ((X % 2 : Nat) : Int) == 1, rfl, rfl, rfl, (by rw [u1l X])⟩ (I.pick [0, 1, 2, 3, 4, 5])
     refine zb I 114 (decide ((((dig B32 X).length : Nat) : Int) > 0)) (false) (f114) fun Al W I => a0i I J fun Al W U I => hJ _ _ _ _ _ ⟨U, false, rfl, rfl, rfl, (by rw [show X = 0 from (a0h a0b X).1 (by have := oFa f114; omega)]; rfl)⟩ (I.pick [0, 1, 2, 3, 4, 5])
   rintro _ _ _ ⟨U3, od, rfl, rfl, rfl, hod⟩ Al W I
   refine zcut I (some 3000015) (fun fr bx gs => ∃ (U4 : Nat → Value) (ub : Bool), fr = (aD :: aE :: .v (vI way) :: .p 0 0 :: .p 1 0 :: vu :: .p 2 0 :: .v (vI (wd : Int)) :: .v (vI x) :: .v (vI kj) :: .v (vS (dig B32 (2 ^ N1)) p41 c41) :: .v (vS (dig B32 X) p3 c3) :: .v (vS (dig B32 Y) q3 d3) :: .v (vS (dig B32 Z) r3 f3) :: .p 3 0 :: .v (.bool od) :: sw U4 16 44 (.v (.bool false) :: sw U4 61 29 (.v (.bool b1) :: sw U4 91 46 (.v (.bool ub) :: sw U4 138 9 (vu :: sw U4 148 10 (vu :: sw U4 159 5 []))))) : List SV) ∧ bx = [aB, aC, aA, ⟨84, [.v (.bool ng), .v (.slice none 0 0), .v (vI 0), .v (.bool xb), .v (.bool false), .v (.bool un)], false⟩] ∧ gs = [rdF .u32 r3 (dig B32 Z), ownF w.heap.size .u32 139 q3 d3 (dig B32 Y), ownF w.heap.size .u32 139 p3 c3 (dig B32 X), ownF w.heap.size .u32 139 p41 c41 (dig B32 (2 ^ N1)), rdF .u32 p (dig B32 num), rdF .u32 q (dig B32 den)] ∧ (upP ng num den e wd way kj = ub)) ?_ ?_
   · intro J hJ Al W I
     by_cases hxx : xb = true
     · refine zd [] I fun Al W I => zk [0] I fun I => zkb 1 I (xb) (true) (hxx) fun I => zk [2, 3, 4, 5, 6, 7, 8, 9, 10, 11, 12, 13, 14, 15] I fun I => a0i I J fun Al W U I => hJ _ _ _ _ _ ⟨U, false, rfl, rfl, rfl, (by have h0 : Y = 0 := (a0h a0b Y).1 (by have h := hxb; rw [hxx] at h; have := beq_iff_eq.1 h; omega); unfold upP; rw [hY, h0]; simp)⟩ (I.pick [0, 1, 2, 3, 4, 5])
     refine zcut I none (fun fr bx gs => ∃ (U5 : Nat → Value) , fr = (aD :: aE :: .v (vI way) :: .p 0 0 :: .p 1 0 :: vu :: .p 2 0 :: .v (vI (wd : Int)) :: .v (vI x) :: .v (vI kj) :: .v (vS (dig B32 (2 ^ N1)) p41 c41) :: .v (vS (dig B32 X) p3 c3) :: .v (vS (dig B32 Y) q3 d3) :: .v (vS (dig B32 Z) r3 f3) :: .p 3 0 :: .v (.bool od) :: sw U5 16 44 (.v (.bool false) :: sw U5 61 29 (.v (.bool b1) :: sw U5 91 46 (.v (.bool (h0o way ng od (cmpN (Y * 2) Z))) :: sw U5 138 9 (vu :: sw U5 148 10 (vu :: sw U5 159 5 []))))) : List SV) ∧ bx = [aB, aC, aA, ⟨84, [.v (.bool ng), .v (.slice none 0 0), .v (vI 0), .v (.bool xb), .v (.bool false), .v (.bool un)], false⟩] ∧ gs = [rdF .u32 r3 (dig B32 Z), ownF w.heap.size .u32 139 q3 d3 (dig B32 Y), ownF w.heap.size .u32 139 p3 c3 (dig B32 X), ownF w.heap.size .u32 139 p41 c41 (dig B32 (2 ^ N1)), rdF .u32 p (dig B32 num), rdF .u32 q (dig B32 den)]) ?_ ?_
     · intro J hJ Al W I
       refine zd [] I fun Al W I => zk [0] I fun I => zkb 1 I (xb) (false) ((by simpa using hxx)) fun I => zk [2, 3, 5, 7, 8, 9, 10, 12] I fun I => zo 4 I fun I => zg I (fun Al W I => x0i W) fun Al V Iv _ hB _ kz => ?_
       rintro _ W ⟨rfl, w126, hb⟩
       refine ⟨_, rfl, kz _ _ hb fun I => ?_⟩
       have I := Inv.ways I w126
       refine zo2 6 11 I (fun I => ?_) (fun I => ?_)
       · refine zx I 128 (fun _ => .func (.func f) #[] #[]) (fun Al W I => (show (VO.lk 147 (.map (some _)) (vI way) false).sem.run _ _ = _ from (HLK _ _ I.fa.1).out)) fun Al W I => zo 11 I fun I => zqo I (fun Al W I => have hzW := I.bel.size; fshl q3 _ d3 Y 1 (Y * 2) 1 W I.fa.2.2.1.rd rfl (by omega) (by omega) rfl (by rw [Nat.pow_one])) fun Al W p133 c133 I => zo 13 I fun I => zq I (fun Al W I => have hzW := I.bel.size; e0a p133 r3 _ _ c133 f3 (Y * 2) Z W I.fa.1.rd I.fa.2.2.1 rfl rfl (by have := l0a Y 1 _ lY; rw [Nat.pow_one] at this; omega) (by omega)) fun Al W I => zo 14 I fun I => zgf (hf := HCF.out) I (fun Al W I => f1x (HF.out ng od (cmpN (Y * 2) Z) W)) fun Al V Iv _ hB _ kz => ?_
         rintro _ W ⟨rfl, hb⟩
         refine ⟨_, rfl, kz _ _ hb fun I => ?_⟩
         refine zk [15] I fun I => a0i I J fun Al W U I => hJ _ _ _ _ _ ⟨U, rfl, rfl, rfl⟩ (I.pick [2, 3, 4, 5, 6, 7])
       refine zqo I (fun Al W I => have hzW := I.bel.size; fshl q3 _ d3 Y 1 (Y * 2) 1 W I.fa.2.2.1.rd rfl (by omega) (by omega) rfl (by rw [Nat.pow_one])) fun Al W p133 c133 I => zo2 6 13 I (fun I => ?_) (fun I => ?_)
       · refine zx I 128 (fun _ => .func (.func f) #[] #[]) (fun Al W I => (show (VO.lk 147 (.map (some _)) (vI way) false).sem.run _ _ = _ from (HLK _ _ I.fa.2.1).out)) fun Al W I => zo 13 I fun I => zq I (fun Al W I => have hzW := I.bel.size; e0a p133 r3 _ _ c133 f3 (Y * 2) Z W I.fa.1.rd I.fa.2.2.1 rfl rfl (by have := l0a Y 1 _ lY; rw [Nat.pow_one] at this; omega) (by omega)) fun Al W I => zo 14 I fun I => zgf (hf := HCF.out) I (fun Al W I => f1x (HF.out ng od (cmpN (Y * 2) Z) W)) fun Al V Iv _ hB _ kz => ?_
         rintro _ W ⟨rfl, hb⟩
         refine ⟨_, rfl, kz _ _ hb fun I => ?_⟩
         refine zk [15] I fun I => a0i I J fun Al W U I => hJ _ _ _ _ _ ⟨U, rfl, rfl, rfl⟩ (I.pick [2, 3, 4, 5, 6, 7])
       refine zq I (fun Al W I => have hzW := I.bel.size; e0a p133 r3 _ _ c133 f3 (Y * 2) Z W I.fa.1.rd I.fa.2.2.1 rfl rfl (by have := l0a Y 1 _ lY; rw [Nat.pow_one] at this; omega) (by omega)) fun Al W I => zo 6 I fun I => zx I 128 (fun _ => .func (.func f) #[] #[]) (fun Al W I => (show (VO.lk 147 (.map (some _)) (vI way) false).sem.run _ _ = _ from (HLK _ _ I.fa.2.1).out)) fun Al W I => zo 14 I fun I => zgf (hf := HCF.out) I (fun Al W I => f1x (HF.out ng od (cmpN (Y * 2) Z) W)) fun Al V Iv _ hB _ kz => ?_
       rintro _ W ⟨rfl, hb⟩
       refine ⟨_, rfl, kz _ _ hb fun I => ?_⟩
       refine zk [15] I fun I => a0i I J fun Al W U I => hJ _ _ _ _ _ ⟨U, rfl, rfl, rfl⟩ (I.pick [2, 3, 4, 5, 6, 7])
     rintro _ _ _ ⟨U5, rfl, rfl, rfl⟩ Al W I
     exact a0i I J fun Al W U I => hJ _ _ _ _ _ ⟨U, h0o way ng od (cmpN (Y * 2) Z), rfl, rfl, rfl, (by have h0 : Y ≠ 0 := fun h => hxx (by rw [← hxb, h, a0e]; rfl); unfold upP; rw [hY, hX, hZ, ← hod, decide_eq_true h0, Bool.true_and])⟩ (I.pick [0, 1, 2, 3, 4, 5])
   rintro _ _ _ ⟨U4, ub, rfl, rfl, rfl, hub⟩ Al W I
   refine zcut I (some 2000137) (fun fr bx gs => ∃ (U5 : Nat → Value) (k2 : Int) (dd : Nat) (p4 : OA) (c4 : Nat), fr = (aD :: aE :: .v (vI way) :: .p 0 0 :: .p 1 0 :: vu :: .p 2 0 :: .v (vI (wd : Int)) :: .v (vI x) :: .v (vI k2) :: .v (vS (dig B32 (2 ^ N1)) p41 c41) :: .v (vS (dig B32 dd) p4 c4) :: .v (vS (dig B32 Y) q3 d3) :: .v (vS (dig B32 Z) r3 f3) :: .p 3 0 :: .v (.bool od) :: sw U5 16 44 (.v (.bool false) :: sw U5 61 29 (.v (.bool b1) :: sw U5 91 46 (.v (.bool ub) :: sw U5 138 20 (vu :: sw U5 159 5 [])))) : List SV) ∧ bx = [aB, aC, aA, ⟨84, [.v (.bool ng), .v (.slice none 0 0), .v (vI 0), .v (.bool xb), .v (.bool false), .v (.bool un)], false⟩] ∧ gs = [ownF w.heap.size .u32 139 p4 c4 (dig B32 dd), rdF .u32 p (dig B32 num), rdF .u32 q (dig B32 den)] ∧ (digP ng num den e wd D way kj = dd) ∧ (powP ng num den e wd D way kj = k2)) ?_ ?_
   · intro J hJ Al W I
     rcases bTF ub with rfl | rfl
     · refine zqo I (fun Al W I => x0h W) fun Al W p139 c139 I => zqo I (fun Al W I => have hzW := I.bel.size; w0e p3 p139 _ _ c3 c139 X 1 W I.fa.2.2.2.1.rd I.fa.1.rd rfl rfl (by omega) (by omega)) fun Al W p140 c140 I => ?_
       by_cases hlong : wd * D < blen (X + 1)
       · refine zd [] I fun Al W I => zk [0, 2, 3, 4] I fun I => zki 5 I .i64 ((wd : Int) * (D : Int)) (((wd * D : Nat) : Int)) (N146.out) fun I => zo 1 I fun I => zq I (fun Al W I => have hzW := I.bel.size; f1w (i0d p140 _ c140 (X + 1) W I.fa.1.rd rfl (by have := f0m a0b X 1; omega))) fun Al W I => zkb 6 I (decide (((blen (X + 1) : Nat) : Int) > ((wd * D : Nat) : Int))) (true) (dTr (Int.ofNat_lt.2 hlong)) fun I => zi I 150 .i64 (kj + 1) ((kj + 1)) (iwo) fun Al W I => a0i I J fun Al W U I => hJ _ _ _ _ _ ⟨U, kj + 1, 2 ^ N1, p41, c41, rfl, rfl, rfl, ((l0w (D := D) hub hX HN1.out).1.trans (by simp [hlong])), ((l0w (D := D) hub hX HN1.out).2.trans (by simp [hlong]))⟩ (I.pick [5, 6, 7])
       refine zd [] I fun Al W I => zk [0, 2, 3, 4] I fun I => zki 5 I .i64 ((wd : Int) * (D : Int)) (((wd * D : Nat) : Int)) (N146.out) fun I => zo 1 I fun I => zq I (fun Al W I => have hzW := I.bel.size; f1w (i0d p140 _ c140 (X + 1) W I.fa.1.rd rfl (by have := f0m a0b X 1; omega))) fun Al W I => zkb 6 I (decide (((blen (X + 1) : Nat) : Int) > ((wd * D : Nat) : Int))) (false) (dFa (fun h => hlong (Int.ofNat_lt.1 h))) fun I => a0i I J fun Al W U I => hJ _ _ _ _ _ ⟨U, kj, X + 1, p140, c140, rfl, rfl, rfl, ((l0w (D := D) hub hX HN1.out).1.trans (by simp [hlong])), ((l0w (D := D) hub hX HN1.out).2.trans (by simp [hlong]))⟩ (I.pick [0, 6, 7])
     exact a0i I J fun Al W U I => hJ _ _ _ _ _ ⟨U, kj, X, p3, c3, rfl, rfl, rfl, ((l0w (D := D) hub hX HN1.out).1.trans (by simp)), ((l0w (D := D) hub hX HN1.out).2.trans (by simp))⟩ (I.pick [2, 4, 5])
   rintro _ _ _ ⟨U5, k2, dd, p4, c4, rfl, rfl, rfl, hdd, hk2⟩ Al W I
   obtain ⟨ov, hov⟩ : ∃ ov, decide (hi < k2) = ov := ⟨_, rfl⟩
   have HP := w0u (neg := ng) (num := num) (den := den) (e := e) (way := way) HW.out (Int.toNat_natCast D) hkj hdd hk2 hY
   simp only at HP
   rw [t1b, hxb, hov, hun, hkK, HPF.out] at HP
   refine zb I 154 (decide (k2 > hi)) (ov) (hov) fun Al W I => ?_
   by_cases hd0 : dd = 0
   · refine zb I 158 (decide ((((dig B32 dd).length : Nat) : Int) > 0)) (false) (dFa (by rw [hd0, a0e]; simp)) fun Al W I => zret I (v := fun Al => .agg #[.bool ng, .slice none 0 0, vI 0, .bool xb, .bool ov, .bool un]) fun Al W I => k1k (by rw [if_pos hd0, hd0] at HP; exact HP) I.below
   refine zb I 158 (decide ((((dig B32 dd).length : Nat) : Int) > 0)) (true) (dTr (by have := a0h a0b dd; omega)) fun Al W I => zret I (v := fun Al => .agg #[.bool ng, .slice p4 (dig B32 dd).length c4, vI k2, .bool xb, .bool ov, .bool un]) fun Al W I => k1l (by rw [if_neg hd0] at HP; exact HP) I.fa.1 I.below
 refine zq I (fun Al W I => have hzW := I.bel.size; e0a p2 p41 _ _ c2 c41 (qP num den (e - wd * kk)) (2 ^ N1) W I.fa.2.2.1.rd I.fa.2.2.2.1.rd rfl rfl (by omega) (by omega)) fun Al W I => zb I 60 (decide ((cmpN (qP num den (e - wd * kk)) (2 ^ N1)) < 0)) (true) (dTr (by have h := hfull; unfold e0d at h; rw [← HN1.out] at h; rw [n0f (by omega)]; omega)) fun Al W I => ?_
 have hk7 : K ≤ kk - 1 := by rcases Int.lt_or_le (kk - 1) K with h | h; (obtain rfl : kk = K := by omega); exact absurd HK.out.yes hfull; exact h
 have hmk2 : -5003000 ≤ (wd : Int) * (kk - 1) ∧ (wd : Int) * (kk - 1) ≤ 5003000 := by rw [Int.mul_sub]; omega
 refine zi I 62 .i64 (kk - 1) ((kk - 1)) (iwo) fun Al W I => zi I 72 .i64 ((wd : Int) * (kk - 1)) ((wd * (kk - 1))) (iwo) fun Al W I => zi I 73 .i64 (e - (wd * (kk - 1))) ((e - wd * (kk - 1))) (iwo) fun Al W I => zg I (fun Al W I => have hzW := I.bel.size; m0a p q _ _ c d num den (e - wd * (kk - 1)) W I.fa.2.2.2.2.1 I.fa.2.2.2.2.2.1 rfl rfl (by omega) (by omega) hd (by omega)) fun Al V Iv _ hB _ kz => ?_
 rintro _ W ⟨p74, c74, q74, d74, r74, f74, rfl, a74, b74, z74, -, hb⟩
 refine ⟨_, rfl, kz _ _ hb fun I => ?_⟩
 have I := I.own a74
 have I := I.own b74
 have I := I.rd z74
 exact a0i I J0 fun Al W U I => hJ0 (gk0 - 1) _ _ _ _ _ (by omega) ⟨U, kk - 1, p74, c74, q74, d74, r74, f74, rfl, rfl, rfl, by omega, by omega, hk7⟩ (I.pick [0, 1, 2, 6, 7, 8])
end Go.Proofs.YtgbbhlginbmghaaGreatDoor
