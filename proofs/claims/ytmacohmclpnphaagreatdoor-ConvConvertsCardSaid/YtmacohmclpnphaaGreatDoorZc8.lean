/- The references' Placed. -/
import Derived.Outline
import Derived.Carry
import Derived.LoopN
import Derived.Deep.LoopGhost
import Derived.Laws.BitsLemmas
import Derived.Deep.RegionHeld3
import Derived.Test.YtmacohmclpnphaaGreatDoorZc1
import Derived.Test.YtmacohmclpnphaaGreatDoorZc2
import Derived.Test.YtmacohmclpnphaaGreatDoorZc3
import Derived.Test.YtmacohmclpnphaaGreatDoorZc4
import Derived.Test.YtmacohmclpnphaaGreatDoorZc5
import Derived.Test.YtmacohmclpnphaaGreatDoorZc6
import Derived.Test.YtmacohmclpnphaaGreatDoorZc7
set_option maxHeartbeats 8000000
set_option maxRecDepth 100000
namespace Go.Proofs.YtmacohmclpnphaaGreatDoor
open Go.RowKit Go.Slip
theorem m1j (n way : Int) (ng : Bool) (d : Nat) (pw : Int) (pp : Option Addr) (cc : Nat) (w : World) (hn : IsFm n) (ex un : Bool) (hf : (fmt n).fam = 2) :
 Calls Tryz.prog 124 #[.int .i64 n, .agg #[.bool ng, .slice pp (dig B16 d).length cc, .int .i64 pw, .bool ex, .bool true, .bool un], .int .i64 way] w (GVf w w.heap.size ((fmt n).greatM ng, 5)) := by
 have HF := fun W => hi0 (b0e n W)
 rw [decide_eq_true hn, hf] at HF
 have HG := fun W => hi0 (h0y n ng W hn)
 generalize (fmt n).greatM ng = r at *
 generalize fmt n = f at *
 clear hf hn
 cases ex
 · have I := Inv.start w [] True.intro
   refine a0d [.v (.int .i64 n), .v (.agg #[.bool ng, .slice pp (dig B16 d).length cc, .int .i64 pw, .bool false, .bool true, .bool un]), .v (.int .i64 way)] I Tryz.func124 ?_
   refine zq I (fun Al W I => (HF W).out) fun Al W I => ?_
   refine zqr I (fun Al W I => (HG W).out) fun Al W p28 c28 I => ?_
   exact zret I fun Al W I => ⟨p28, c28, rfl, I.fa.1, I.below⟩
 · have I := Inv.start w [] True.intro
   refine a0d [.v (.int .i64 n), .v (.agg #[.bool ng, .slice pp (dig B16 d).length cc, .int .i64 pw, .bool true, .bool true, .bool un]), .v (.int .i64 way)] I Tryz.func124 ?_
   refine zq I (fun Al W I => (HF W).out) fun Al W I => ?_
   refine zqr I (fun Al W I => (HG W).out) fun Al W p28 c28 I => ?_
   exact zret I fun Al W I => ⟨p28, c28, rfl, I.fa.1, I.below⟩
theorem m1k (n way : Int) (ng : Bool) (d : Nat) (pw : Int) (pp : Option Addr) (cc : Nat) (w : World) (hn : IsFm n) (ex un : Bool) (hf : (fmt n).fam = 3) :
 Calls Tryz.prog 124 #[.int .i64 n, .agg #[.bool ng, .slice pp (dig B16 d).length cc, .int .i64 pw, .bool ex, .bool true, .bool un], .int .i64 way] w (GVf w w.heap.size ((fmt n).nothM, 5)) := by
 have HF := fun W => hi0 (b0e n W)
 rw [decide_eq_true hn, hf] at HF
 have HG := fun W => hi0 (g0c n W hn)
 have hr : (fmt n).nothM = ⟨(fmt n).nothM.cls, false, vz⟩ := rfl
 rw [hr]
 generalize (fmt n).nothM.cls = k at *
 generalize fmt n = f at *
 clear hf hn
 cases ex
 · have I := Inv.start w [] True.intro
   refine a0d [.v (.int .i64 n), .v (.agg #[.bool ng, .slice pp (dig B16 d).length cc, .int .i64 pw, .bool false, .bool true, .bool un]), .v (.int .i64 way)] I Tryz.func124 ?_
   refine zq I (fun Al W I => (HF W).out) fun Al W I => ?_
   refine zq I (fun Al W I => (HG W).out) fun Al W I => ?_
   exact zret I fun Al W I => b0h (k := k) (fl := 5) rfl I.below
 · have I := Inv.start w [] True.intro
   refine a0d [.v (.int .i64 n), .v (.agg #[.bool ng, .slice pp (dig B16 d).length cc, .int .i64 pw, .bool true, .bool true, .bool un]), .v (.int .i64 way)] I Tryz.func124 ?_
   refine zq I (fun Al W I => (HF W).out) fun Al W I => ?_
   refine zq I (fun Al W I => (HG W).out) fun Al W I => ?_
   exact zret I fun Al W I => b0h (k := k) (fl := 5) rfl I.below
theorem m1l (n way : Int) (ng : Bool) (d : Nat) (pw : Int) (pp : Option Addr) (cc : Nat) (w : World) (hn : IsFm n) (ex un : Bool) (hf : (fmt n).fam = 1) (hw : 1 ≤ way ∧ way ≤ 5) :
 Calls Tryz.prog 124 #[.int .i64 n, .agg #[.bool ng, .slice pp (dig B16 d).length cc, .int .i64 pw, .bool ex, .bool true, .bool un], .int .i64 way] w (GVf w w.heap.size (if way ≤ 2 ∨ (way = 4 ∧ ng = false) ∨ (way = 5 ∧ ng = true) then infM ng else (fmt n).greatM ng, 5)) := by
 have HF := fun W => hi0 (b0e n W)
 rw [decide_eq_true hn, hf] at HF
 have HG := fun W => hi0 (h0y n ng W hn)
 generalize fmt n = f at *
 clear hf hn
 rcases (show way = 1 ∨ way = 2 ∨ way = 3 ∨ way = 4 ∨ way = 5 by omega) with rfl | rfl | rfl | rfl | rfl <;> cases ng <;> cases ex
 · rw [if_pos (by decide)]
   have I := Inv.start w [] True.intro
   refine a0d [.v (.int .i64 n), .v (.agg #[.bool false, .slice pp (dig B16 d).length cc, .int .i64 pw, .bool false, .bool true, .bool un]), .v (.int .i64 1)] I Tryz.func124 ?_
   refine zq I (fun Al W I => (HF W).out) fun Al W I => ?_
   exact zret I fun Al W I => b0h (k := 3) (fl := 5) rfl I.below
 · rw [if_pos (by decide)]
   have I := Inv.start w [] True.intro
   refine a0d [.v (.int .i64 n), .v (.agg #[.bool false, .slice pp (dig B16 d).length cc, .int .i64 pw, .bool true, .bool true, .bool un]), .v (.int .i64 1)] I Tryz.func124 ?_
   refine zq I (fun Al W I => (HF W).out) fun Al W I => ?_
   exact zret I fun Al W I => b0h (k := 3) (fl := 5) rfl I.below
 · rw [if_pos (by decide)]
   have I := Inv.start w [] True.intro
   refine a0d [.v (.int .i64 n), .v (.agg #[.bool true, .slice pp (dig B16 d).length cc, .int .i64 pw, .bool false, .bool true, .bool un]), .v (.int .i64 1)] I Tryz.func124 ?_
   refine zq I (fun Al W I => (HF W).out) fun Al W I => ?_
   exact zret I fun Al W I => b0h (k := 3) (fl := 5) rfl I.below
 · rw [if_pos (by decide)]
   have I := Inv.start w [] True.intro
   refine a0d [.v (.int .i64 n), .v (.agg #[.bool true, .slice pp (dig B16 d).length cc, .int .i64 pw, .bool true, .bool true, .bool un]), .v (.int .i64 1)] I Tryz.func124 ?_
   refine zq I (fun Al W I => (HF W).out) fun Al W I => ?_
   exact zret I fun Al W I => b0h (k := 3) (fl := 5) rfl I.below
 · rw [if_pos (by decide)]
   have I := Inv.start w [] True.intro
   refine a0d [.v (.int .i64 n), .v (.agg #[.bool false, .slice pp (dig B16 d).length cc, .int .i64 pw, .bool false, .bool true, .bool un]), .v (.int .i64 2)] I Tryz.func124 ?_
   refine zq I (fun Al W I => (HF W).out) fun Al W I => ?_
   exact zret I fun Al W I => b0h (k := 3) (fl := 5) rfl I.below
 · rw [if_pos (by decide)]
   have I := Inv.start w [] True.intro
   refine a0d [.v (.int .i64 n), .v (.agg #[.bool false, .slice pp (dig B16 d).length cc, .int .i64 pw, .bool true, .bool true, .bool un]), .v (.int .i64 2)] I Tryz.func124 ?_
   refine zq I (fun Al W I => (HF W).out) fun Al W I => ?_
   exact zret I fun Al W I => b0h (k := 3) (fl := 5) rfl I.below
 · rw [if_pos (by decide)]
   have I := Inv.start w [] True.intro
   refine a0d [.v (.int .i64 n), .v (.agg #[.bool true, .slice pp (dig B16 d).length cc, .int .i64 pw, .bool false, .bool true, .bool un]), .v (.int .i64 2)] I Tryz.func124 ?_
   refine zq I (fun Al W I => (HF W).out) fun Al W I => ?_
   exact zret I fun Al W I => b0h (k := 3) (fl := 5) rfl I.below
 · rw [if_pos (by decide)]
   have I := Inv.start w [] True.intro
   refine a0d [.v (.int .i64 n), .v (.agg #[.bool true, .slice pp (dig B16 d).length cc, .int .i64 pw, .bool true, .bool true, .bool un]), .v (.int .i64 2)] I Tryz.func124 ?_
   refine zq I (fun Al W I => (HF W).out) fun Al W I => ?_
   exact zret I fun Al W I => b0h (k := 3) (fl := 5) rfl I.below
 · rw [if_neg (by decide)]
   generalize f.greatM false = r at *
   have I := Inv.start w [] True.intro
   refine a0d [.v (.int .i64 n), .v (.agg #[.bool false, .slice pp (dig B16 d).length cc, .int .i64 pw, .bool false, .bool true, .bool un]), .v (.int .i64 3)] I Tryz.func124 ?_
   refine zq I (fun Al W I => (HF W).out) fun Al W I => ?_
   refine zqr I (fun Al W I => (HG W).out) fun Al W p61 c61 I => ?_
   exact zret I fun Al W I => ⟨p61, c61, rfl, I.fa.1, I.below⟩
 · rw [if_neg (by decide)]
   generalize f.greatM false = r at *
   have I := Inv.start w [] True.intro
   refine a0d [.v (.int .i64 n), .v (.agg #[.bool false, .slice pp (dig B16 d).length cc, .int .i64 pw, .bool true, .bool true, .bool un]), .v (.int .i64 3)] I Tryz.func124 ?_
   refine zq I (fun Al W I => (HF W).out) fun Al W I => ?_
   refine zqr I (fun Al W I => (HG W).out) fun Al W p61 c61 I => ?_
   exact zret I fun Al W I => ⟨p61, c61, rfl, I.fa.1, I.below⟩
 · rw [if_neg (by decide)]
   generalize f.greatM true = r at *
   have I := Inv.start w [] True.intro
   refine a0d [.v (.int .i64 n), .v (.agg #[.bool true, .slice pp (dig B16 d).length cc, .int .i64 pw, .bool false, .bool true, .bool un]), .v (.int .i64 3)] I Tryz.func124 ?_
   refine zq I (fun Al W I => (HF W).out) fun Al W I => ?_
   refine zqr I (fun Al W I => (HG W).out) fun Al W p61 c61 I => ?_
   exact zret I fun Al W I => ⟨p61, c61, rfl, I.fa.1, I.below⟩
 · rw [if_neg (by decide)]
   generalize f.greatM true = r at *
   have I := Inv.start w [] True.intro
   refine a0d [.v (.int .i64 n), .v (.agg #[.bool true, .slice pp (dig B16 d).length cc, .int .i64 pw, .bool true, .bool true, .bool un]), .v (.int .i64 3)] I Tryz.func124 ?_
   refine zq I (fun Al W I => (HF W).out) fun Al W I => ?_
   refine zqr I (fun Al W I => (HG W).out) fun Al W p61 c61 I => ?_
   exact zret I fun Al W I => ⟨p61, c61, rfl, I.fa.1, I.below⟩
 · rw [if_pos (by decide)]
   have I := Inv.start w [] True.intro
   refine a0d [.v (.int .i64 n), .v (.agg #[.bool false, .slice pp (dig B16 d).length cc, .int .i64 pw, .bool false, .bool true, .bool un]), .v (.int .i64 4)] I Tryz.func124 ?_
   refine zq I (fun Al W I => (HF W).out) fun Al W I => ?_
   exact zret I fun Al W I => b0h (k := 3) (fl := 5) rfl I.below
 · rw [if_pos (by decide)]
   have I := Inv.start w [] True.intro
   refine a0d [.v (.int .i64 n), .v (.agg #[.bool false, .slice pp (dig B16 d).length cc, .int .i64 pw, .bool true, .bool true, .bool un]), .v (.int .i64 4)] I Tryz.func124 ?_
   refine zq I (fun Al W I => (HF W).out) fun Al W I => ?_
   exact zret I fun Al W I => b0h (k := 3) (fl := 5) rfl I.below
 · rw [if_neg (by decide)]
   generalize f.greatM true = r at *
   have I := Inv.start w [] True.intro
   refine a0d [.v (.int .i64 n), .v (.agg #[.bool true, .slice pp (dig B16 d).length cc, .int .i64 pw, .bool false, .bool true, .bool un]), .v (.int .i64 4)] I Tryz.func124 ?_
   refine zq I (fun Al W I => (HF W).out) fun Al W I => ?_
   refine zqr I (fun Al W I => (HG W).out) fun Al W p61 c61 I => ?_
   exact zret I fun Al W I => ⟨p61, c61, rfl, I.fa.1, I.below⟩
 · rw [if_neg (by decide)]
   generalize f.greatM true = r at *
   have I := Inv.start w [] True.intro
   refine a0d [.v (.int .i64 n), .v (.agg #[.bool true, .slice pp (dig B16 d).length cc, .int .i64 pw, .bool true, .bool true, .bool un]), .v (.int .i64 4)] I Tryz.func124 ?_
   refine zq I (fun Al W I => (HF W).out) fun Al W I => ?_
   refine zqr I (fun Al W I => (HG W).out) fun Al W p61 c61 I => ?_
   exact zret I fun Al W I => ⟨p61, c61, rfl, I.fa.1, I.below⟩
 · rw [if_neg (by decide)]
   generalize f.greatM false = r at *
   have I := Inv.start w [] True.intro
   refine a0d [.v (.int .i64 n), .v (.agg #[.bool false, .slice pp (dig B16 d).length cc, .int .i64 pw, .bool false, .bool true, .bool un]), .v (.int .i64 5)] I Tryz.func124 ?_
   refine zq I (fun Al W I => (HF W).out) fun Al W I => ?_
   refine zqr I (fun Al W I => (HG W).out) fun Al W p61 c61 I => ?_
   exact zret I fun Al W I => ⟨p61, c61, rfl, I.fa.1, I.below⟩
 · rw [if_neg (by decide)]
   generalize f.greatM false = r at *
   have I := Inv.start w [] True.intro
   refine a0d [.v (.int .i64 n), .v (.agg #[.bool false, .slice pp (dig B16 d).length cc, .int .i64 pw, .bool true, .bool true, .bool un]), .v (.int .i64 5)] I Tryz.func124 ?_
   refine zq I (fun Al W I => (HF W).out) fun Al W I => ?_
   refine zqr I (fun Al W I => (HG W).out) fun Al W p61 c61 I => ?_
   exact zret I fun Al W I => ⟨p61, c61, rfl, I.fa.1, I.below⟩
 · rw [if_pos (by decide)]
   have I := Inv.start w [] True.intro
   refine a0d [.v (.int .i64 n), .v (.agg #[.bool true, .slice pp (dig B16 d).length cc, .int .i64 pw, .bool false, .bool true, .bool un]), .v (.int .i64 5)] I Tryz.func124 ?_
   refine zq I (fun Al W I => (HF W).out) fun Al W I => ?_
   exact zret I fun Al W I => b0h (k := 3) (fl := 5) rfl I.below
 · rw [if_pos (by decide)]
   have I := Inv.start w [] True.intro
   refine a0d [.v (.int .i64 n), .v (.agg #[.bool true, .slice pp (dig B16 d).length cc, .int .i64 pw, .bool true, .bool true, .bool un]), .v (.int .i64 5)] I Tryz.func124 ?_
   refine zq I (fun Al W I => (HF W).out) fun Al W I => ?_
   exact zret I fun Al W I => b0h (k := 3) (fl := 5) rfl I.below
theorem pr_n (n way : Int) (ng : Bool) (d : Nat) (pw : Int) (pp : Option Addr) (cc : Nat) (w : World) (hn : IsFm n) (hp : Rd w .i64 pp (dig B16 d)) (hl : (dig B16 d).length ≤ 1000) (ex un : Bool) (hpw : ¬ (un = true ∧ (fmt n).fam ≠ 1 ∧ pw < (fmt n).g.lo) → -20000 ≤ pw ∧ pw ≤ 20000) :
 Calls Tryz.prog 124 #[.int .i64 n, .agg #[.bool ng, .slice pp (dig B16 d).length cc, .int .i64 pw, .bool ex, .bool false, .bool un], .int .i64 way] w (GVf w w.heap.size ((fmt n).placedM ⟨ng, d, pw, ex, false, un⟩ way)) := by
 have HF := fun W => hi0 (b0e n W)
 rw [decide_eq_true hn] at HF
 have HZ := fun g W => hi0 (h0x n g W hn)
 have hz : ∀ g, (fmt n).zeroM g = ⟨1, g && decide ((fmt n).fam = 1), vz⟩ := fun _ => rfl
 have HW := fun W => hi0 (c0i (fmt n).g W)
 have hM : (fmt n).placedM ⟨ng, d, pw, ex, false, un⟩ way = if un = true ∧ (fmt n).fam ≠ 1 ∧ pw < (fmt n).g.lo then ((fmt n).zeroM false, 3) else if d = 0 then ((fmt n).zeroM ng, (fmt n).flP ⟨ng, d, pw, ex, false, un⟩) else (⟨2, ng, bare ⟨ng, d, wid (fmt n).g * pw⟩⟩, (fmt n).flP ⟨ng, d, pw, ex, false, un⟩) := by unfold Fm.placedM; simp only [Bool.false_eq_true, if_false]
 have hFL : (fmt n).flP ⟨ng, d, pw, ex, false, un⟩ = if un then (if (fmt n).fam = 1 then (if ex then 0 else 3) else 3) else if ex then 0 else 1 := rfl
 have G := b0s hn
 simp only [hz, Bool.false_and] at hM
 generalize (fmt n).placedM ⟨ng, d, pw, ex, false, un⟩ way = R at *
 generalize (fmt n).flP ⟨ng, d, pw, ex, false, un⟩ = FL at *
 generalize fmt n = f at *
 have hfam := G.fam
 have wp := b0c f.g
 have hmu := fun h => k0d (wd := wid f.g) (k := pw) (B := 20000) wp.2 (hpw h)
 have h0 := a0f a0e d
 generalize hm : (wid f.g : Int) * pw = mw at *
 have HM := hi0 hm
 obtain ⟨x, hx⟩ : ∃ x, bare ⟨ng, d, mw⟩ = x := ⟨_, rfl⟩
 rw [hx] at hM
 have HB := fun hk W p c h => hi0 (i0p ng p _ c mw d x W h rfl (by have := hmu hk; omega) (by have := hmu hk; omega) hx)
 clear hm hx hz
 generalize hq : (fun g : Bool => g && decide (f.fam = 1)) = q
 have hq2 : ∀ g : Bool, (g && decide (f.fam = 1)) = q g := fun g => by rw [← hq]
 have hq3 : q false = false := by rw [← hq]; rfl
 simp only [hq2] at hM HZ
 clear hq hq2
 have I := Inv.start w [rdF .i64 pp (dig B16 d)] ⟨hp, True.intro⟩
 refine a0d [.v (.int .i64 n), .v (.agg #[.bool ng, .slice pp (dig B16 d).length cc, .int .i64 pw, .bool ex, .bool false, .bool un]), .v (.int .i64 way)] I Tryz.func124 ?_
 refine zq I (fun Al W I => (HF W).out) fun Al W I => ?_
 obtain ⟨ne, hne⟩ : ∃ ne, (!ex) = ne := ⟨_, rfl⟩
 refine zb I 18 (!ex) (ne) (hne) fun Al W I => ?_
 refine zcut I (some 2000018) (fun fr bx gs => ∃ (U1 : Nat → Value) (k1 : Nat), fr = (.v (.int .i64 n) :: .v (.agg #[.bool ng, .slice pp (dig B16 d).length cc, .int .i64 pw, .bool ex, .bool false, .bool un]) :: .v (.int .i64 way) :: .v undef :: .p 0 0 :: .v undef :: .p 1 0 :: .v (.int .i64 0) :: .p 2 0 :: .v (U1 9) :: .v (.int .i64 (k1 : Int)) :: sw U1 11 7 (.v (.bool ne) :: .v (U1 19) :: .v undef :: .v (U1 21) :: su 2 (sw U1 24 6 (.v undef :: sw U1 31 22 (.v undef :: sw U1 54 10 (.v undef :: sw U1 65 7 (.v undef :: sw U1 73 2 (.v undef :: sw U1 76 5 (.v undef :: sw U1 82 6 (.v undef :: sw U1 89 21 []))))))))) : List SV) ∧ bx = [⟨48, [.v (.bool ng), .v (.slice pp (dig B16 d).length cc), .v (.int .i64 pw), .v (.bool ex), .v (.bool false), .v (.bool un)], false⟩, ⟨32, [.v (.int .i64 0), .v (.bool false), .v (.bool false), .v (.slice none 0 0), .v (.int .i64 0)], false⟩, ⟨62, [.v (.int .i64 (f.size : Int)), .v (.int .i64 (f.E : Int)), .v (.int .i64 (f.F : Int)), .v (.int .i64 f.g.rad), .v (.int .i64 f.g.digs), .v (.int .i64 f.g.lo), .v (.int .i64 f.g.hi), .v (.bool f.g.grad), .v (.int .i64 (f.fam : Int))], false⟩] ∧ gs = [rdF .i64 pp (dig B16 d)] ∧ (k1 = if ex then 0 else 1)) ?_ ?_
 · intro J hJ Al W I
   rcases Bool.eq_false_or_eq_true ne with rfl | rfl
   · exact a0y I J fun Al W U I => hJ _ _ _ _ _ ⟨U, 1, rfl, rfl, rfl, (by revert hne; cases ex <;> simp)⟩ (I.pick [0])
   exact a0y I J fun Al W U I => hJ _ _ _ _ _ ⟨U, 0, rfl, rfl, rfl, (by revert hne; cases ex <;> simp)⟩ (I.pick [0])
 rintro _ _ _ ⟨U1, k1, rfl, rfl, rfl, hk1⟩ Al W I
 obtain ⟨ub, hub⟩ : ∃ ub, un = ub := ⟨_, rfl⟩
 refine zb I 64 (un) (ub) (hub) fun Al W I => ?_
 refine zcut I (some 2000064) (fun fr bx gs => ∃ (U2 : Nat → Value) (k2 : Nat), fr = (.v (.int .i64 n) :: .v (.agg #[.bool ng, .slice pp (dig B16 d).length cc, .int .i64 pw, .bool ex, .bool false, .bool un]) :: .v (.int .i64 way) :: .v undef :: .p 0 0 :: .v undef :: .p 1 0 :: .v (U2 7) :: .p 2 0 :: .v (U2 9) :: .v (.int .i64 (k2 : Int)) :: sw U2 11 7 (.v (.bool ne) :: .v (U2 19) :: .v (.bool false) :: .v (U2 21) :: su 2 (sw U2 24 6 (.v undef :: sw U2 31 22 (.v undef :: sw U2 54 10 (.v (.bool ub) :: sw U2 65 23 (.v undef :: sw U2 89 21 [])))))) : List SV) ∧ bx = [⟨48, [.v (.bool ng), .v (.slice pp (dig B16 d).length cc), .v (.int .i64 pw), .v (.bool ex), .v (.bool false), .v (.bool un)], false⟩, ⟨32, [.v (.int .i64 0), .v (.bool false), .v (.bool false), .v (.slice none 0 0), .v (.int .i64 0)], false⟩, ⟨62, [.v (.int .i64 (f.size : Int)), .v (.int .i64 (f.E : Int)), .v (.int .i64 (f.F : Int)), .v (.int .i64 f.g.rad), .v (.int .i64 f.g.digs), .v (.int .i64 f.g.lo), .v (.int .i64 f.g.hi), .v (.bool f.g.grad), .v (.int .i64 (f.fam : Int))], false⟩] ∧ gs = [rdF .i64 pp (dig B16 d)] ∧ (FL = k2) ∧ (¬ (un = true ∧ f.fam ≠ 1 ∧ pw < f.g.lo))) ?_ ?_
 · intro J hJ Al W I
   rcases Bool.eq_false_or_eq_true ub with rfl | rfl
   · by_cases h1 : f.fam = 1
     · refine zb I 67 ((f.fam : Int) == 1) (true) (beq_iff_eq.2 (by omega)) fun Al W I => ?_
       rcases Bool.eq_false_or_eq_true (!ex) with f71 | f71
       · refine zb I 71 (!ex) (true) (f71) fun Al W I => ?_
         refine zb I 75 (decide ((f.fam : Int) > 1)) (false) (dFa (by omega)) fun Al W I => ?_
         exact a0y I J fun Al W U I => hJ _ _ _ _ _ ⟨U, 3, rfl, rfl, rfl, (by rw [hFL, if_pos hub, if_pos h1]; revert f71; cases ex <;> simp), (fun h => h.2.1 h1)⟩ (I.pick [0])
       refine zb I 71 (!ex) (false) (f71) fun Al W I => ?_
       refine zb I 75 (decide ((f.fam : Int) > 1)) (false) (dFa (by omega)) fun Al W I => ?_
       exact a0y I J fun Al W U I => hJ _ _ _ _ _ ⟨U, k1, rfl, rfl, rfl, (by rw [hFL, if_pos hub, if_pos h1, hk1]; revert f71; cases ex <;> simp), (fun h => h.2.1 h1)⟩ (I.pick [0])
     refine zb I 67 ((f.fam : Int) == 1) (false) (bFn (by omega)) fun Al W I => ?_
     refine zb I 75 (decide ((f.fam : Int) > 1)) (true) (dTr (by omega)) fun Al W I => ?_
     rcases Bool.eq_false_or_eq_true (decide (pw < f.g.lo)) with f81 | f81
     · refine zb I 81 (decide (pw < f.g.lo)) (true) (f81) fun Al W I => ?_
       refine zq I (fun Al W I => (HZ false W).out) fun Al W I => ?_
       rw [hM, if_pos ⟨hub, h1, oTr f81⟩]
       exact zret I fun Al W I => b0h (k := 1) (fl := 3) rfl I.below
     refine zb I 81 (decide (pw < f.g.lo)) (false) (f81) fun Al W I => ?_
     exact a0y I J fun Al W U I => hJ _ _ _ _ _ ⟨U, 3, rfl, rfl, rfl, (by rw [hFL, if_pos hub, if_neg h1]), (fun h => absurd h.2.2 (oFa f81))⟩ (I.pick [0])
   exact a0y I J fun Al W U I => hJ _ _ _ _ _ ⟨U, k1, rfl, rfl, rfl, (by rw [hFL, if_neg (by rw [hub]; simp), hk1]), (fun h => by rw [hub] at h; cases h.1)⟩ (I.pick [0])
 rintro _ _ _ ⟨U2, k2, rfl, rfl, rfl, hk2, hlo⟩ Al W I
 rcases Bool.eq_false_or_eq_true ((((dig B16 d).length : Nat) : Int) == 0) with f88 | f88
 · refine zb I 88 ((((dig B16 d).length : Nat) : Int) == 0) (true) (f88) fun Al W I => ?_
   refine zq I (fun Al W I => (HZ ng W).out) fun Al W I => ?_
   rw [hM, if_neg hlo, if_pos (h0.1 (by have := beq_iff_eq.1 f88; omega)), hk2]
   exact zret I fun Al W I => b0h (k := 1) (fl := k2) rfl I.below
 refine zb I 88 ((((dig B16 d).length : Nat) : Int) == 0) (false) (f88) fun Al W I => ?_
 refine zd [1] I fun Al W I => ?_
 refine zk [0, 1, 2, 3, 4, 5, 6, 7, 9, 10, 15] I fun I => ?_
 refine zo 8 I fun I => ?_
 refine zq I (fun Al W I => (HW W).out) fun Al W I => ?_
 refine zki 11 I .i64 (((wid f.g : Nat) : Int) * pw) (mw) ((by rw [HM.out]; exact IntWalk.i64_in _ (by have := hmu hlo; omega))) fun I => ?_
 refine zk [12] I fun I => ?_
 refine zo 13 I fun I => ?_
 refine zqr I (fun Al W I => (HB hlo W pp cc I.fa.1).out) fun Al W p107 c107 I => ?_
 refine zk [14] I fun I => ?_
 refine zo 16 I fun I => ?_
 refine zn I fun Al W I => ?_
 refine zk [17] I fun I => ?_
 rw [hM, if_neg hlo, if_neg (fun h => by have := h0.2 h; have := bnF f88; omega), hk2]
 exact zret I fun Al W I => ⟨p107, c107, rfl, I.fa.1, I.below⟩
theorem r0g (n way : Int) (p : Pl) (pp : Option Addr) (cc : Nat) (w : World) (hn : IsFm n) (hw : 1 ≤ way ∧ way ≤ 5) (hp : Rd w .i64 pp (dig B16 p.d)) (hl : (dig B16 p.d).length ≤ 1000) (hpw : p.over = false → ¬ (p.under = true ∧ (fmt n).fam ≠ 1 ∧ p.pow < (fmt n).g.lo) → -20000 ≤ p.pow ∧ p.pow ≤ 20000) :
 Calls Tryz.prog 124 #[.int .i64 n, .agg #[.bool p.neg, .slice pp (dig B16 p.d).length cc, .int .i64 p.pow, .bool p.exact, .bool p.over, .bool p.under], .int .i64 way] w (GVf w w.heap.size ((fmt n).placedM p way)) := by
 obtain ⟨ng, d, pw, ex, ov, un⟩ := p
 simp only at hp hl hpw ⊢
 have hfam := (b0s hn).fam
 cases ov with
 | true =>
  unfold Fm.placedM
  rw [if_pos rfl]
  by_cases f2 : (fmt n).fam = 2
  · rw [if_pos f2]; exact m1j n way ng d pw pp cc w hn ex un f2
  · rw [if_neg f2]
    by_cases f3 : (fmt n).fam = 3
    · rw [if_pos f3]; exact m1k n way ng d pw pp cc w hn ex un f3
    · rw [if_neg f3]; exact m1l n way ng d pw pp cc w hn ex un (by omega) hw
 | false =>
  exact pr_n n way ng d pw pp cc w hn hp hl ex un (fun h => hpw rfl h)
end Go.Proofs.YtmacohmclpnphaaGreatDoor
namespace Go.Slip
open Go.RowKit
/-! ### Slices of structs -/
def OwnS (w : World) (base : Nat) (e : TypeId) (s : Nat) (p : Option Addr) (c n : Nat) (vs : List Value) : Prop := w.ownsRow base e s (.slice p n c) n vs
theorem OwnS.nil (w : World) (base : Nat) (e : TypeId) (s : Nat) : OwnS w base e s none 0 0 [] := World.ownsRow_nil w base e s
section
variable {w w' : World} {base : Nat} {e : TypeId} {s : Nat} {p : Option Addr} {c n : Nat} {vs : List Value}
theorem OwnS.form (h : OwnS w base e s p c n vs) : (p = none ∧ c = 0 ∧ n = 0 ∧ vs = []) ∨ ∃ g, p = some ⟨g, 0, none⟩ ∧ base ≤ g ∧ g < w.heap.size ∧ n ≤ c ∧ c ≤ maxLen := by
 rcases h.2 with ⟨h1, h2⟩ | ⟨g, cap, cur, hv, hb, hg, hn, hc, _, _⟩
 · left
   simp only [Value.slice.injEq] at h1
   refine ⟨h1.1, h1.2.2, h2, List.eq_nil_of_length_eq_zero ?_⟩
   rw [h.1, h2, Nat.zero_mul]
 · right
   simp only [Value.slice.injEq] at hv
   obtain ⟨rfl, _, rfl⟩ := hv
   exact ⟨g, rfl, hb, (Array.getElem?_eq_some_iff.1 hg).1, hn, hc⟩
theorem OwnS.blk_lt (h : OwnS w base e s p c n vs) (hp : p.isSome = true) : base ≤ blk p ∧ blk p < w.heap.size := by
 rcases h.form with ⟨rfl, _, _, rfl⟩ | ⟨g, rfl, h1, h2, _⟩
 · simp at hp
 · exact ⟨h1, h2⟩
theorem OwnS.mono {b' : Nat} (h : OwnS w base e s p c n vs) (hb : b' ≤ base) : OwnS w b' e s p c n vs := by
 refine ⟨h.1, ?_⟩
 rcases h.2 with h1 | ⟨g, cap, cur, hv, hbg, r⟩
 · exact .inl h1
 · exact .inr ⟨g, cap, cur, hv, by omega, r⟩
theorem OwnS.same (h : OwnS w base e s p c n vs) (hb : p.isSome = true → w'.heap[blk p]? = w.heap[blk p]?) : OwnS w' base e s p c n vs := by
 refine ⟨h.1, ?_⟩
 rcases h.2 with h1 | ⟨g, cap, cur, hv, hbg, hg, r⟩
 · exact .inl h1
 · simp only [Value.slice.injEq] at hv
   obtain ⟨rfl, h2, rfl⟩ := hv
   exact .inr ⟨g, c, cur, rfl, hbg, by rw [← hg]; exact hb rfl, r⟩
theorem OwnS.cell (h : OwnS w base e s p c n vs) {j : Nat} {u : Value} (hu : vs[j]? = some u) : w.cell? (at_ p j) = some u := by
 rcases h.form with ⟨_, _, _, rfl⟩ | ⟨g, rfl, _⟩
 · simp at hu
 · have := World.ownsRow.cells h (g := g) rfl j u hu
   rw [← this]
   unfold at_ Addr.add
   split <;> simp_all
theorem OwnS.solid (h : OwnS w base e s p c n vs) : i0t p n := by
 rcases h.form with ⟨_, _, rfl, _⟩ | ⟨g, rfl, _⟩
 · exact fun h => by simp at h
 · exact fun _ => ⟨rfl, rfl⟩
theorem OwnS.far (h : OwnS w base e s p c n vs) {b : Nat} {t : TypeId} {us : Array Value} (hX : Bt w b t us) (hne : Nat.beq t e = false) (hp : p.isSome = true) : blk p ≠ b := by
 rcases h.2 with ⟨h1, h2⟩ | ⟨g, cap, cur, hv, hb, hg, _⟩
 · simp only [Value.slice.injEq] at h1
   rw [h1.1] at hp; cases hp
 · simp only [Value.slice.injEq] at hv
   intro hE
   rw [hv.1] at hE
   have hE2 : g = b := hE
   subst hE2
   have hE3 := hg.symm.trans hX
   simp only [Option.some.injEq, Obj.cells.injEq] at hE3
   rw [hE3.2.1] at hne
   simp at hne
end
def l1j (b : Nat) (e : TypeId) (s : Nat) (p : Option Addr) (c n : Nat) (vs : List Value) : PF :=
 ⟨fun w => OwnS w b e s p c n vs, fun a => p.isSome = true ∧ blk p = a, fun _ _ h hb _ => h.same fun hp => hb _ (h.blk_lt hp).2 ⟨hp, rfl⟩, fun _ _ h hf => hf.2 ▸ (h.blk_lt hf.1).2⟩
section
variable {P : Program} {w : World}
end
section
variable {P : Program} {ops : Array Oper} {rest : List Oper} {o : Oper} {a : Act} {Q : Exit → Act → World → Prop} {w : World} {K : Act → World → Prop}
end
/-! ### A block that was handed in -/
theorem Bt.far {w : World} {b b' : Nat} {t t' : TypeId} {vs us : Array Value} (h : Bt w b t vs) (hX : Bt w b' t' us) (hne : Nat.beq t t' = false) : ¬ (b = b') := by
 intro e
 subst e
 have := h.symm.trans hX
 simp only [Option.some.injEq, Obj.cells.injEq] at this
 rw [this.2.1] at hne
 simp at hne
/-! ### Steps -/
def f1l : List Box → Bool
 | [] => true
 | b :: l => match b.ro with | true => false | false => f1l l
theorem t0f : ∀ {l : List Box}, f1l l = true → ∀ k, k < l.length → (lk bx0 l k).ro = false
 | [], _, _, h => by simp at h
 | b :: l, h, k, hk => by
  unfold f1l at h
  split at h
  · cases h
  · rename_i hb
    cases k with
    | zero => exact hb
    | succ k => exact t0f h k (by simpa using hk)
section
variable {P : Program} {Q : Exit → Act → World → Prop} {E : List Nat} {w0 : World} {A : List Nat} {fs : List PF} {W V : World} {c : Cfg}
theorem Inv.grown {W' : World} {bx : List Box} {b : Nat} {e : TypeId} {s : Nat} {p p' : Option Addr} {cc c' n n' : Nat} {vs vs' : List Value} (I : Inv E w0 A bx (l1j b e s p cc n vs :: fs) W) (hb : w0.heap.size ≤ b) (hrw : f1l bx = true)
 (hO : OwnS W' b e s p' c' n' vs') (hg : W.grownBy W' (p.map (·.block))) (hat : p'.isSome = true → (p.isSome = true ∧ blk p' = blk p) ∨ blk p' = W.heap.size) (hfar : p.isSome = true → PF.far (blk p) fs) :
 Inv E w0 A bx (l1j b e s p' c' n' vs' :: fs) W' := by
 have hrow := I.fa.1
 have hne : ∀ k, p.map (·.block) = some k → p.isSome = true ∧ blk p = k := fun k h => by
  cases p with
  | none => cases h
  | some a => exact ⟨rfl, Option.some.inj h⟩
 have keep : ∀ k, k < W.heap.size → (p.isSome = true → blk p ≠ k) → W'.heap[k]? = W.heap[k]? := fun k hk h => hg.block k hk fun e => by
  obtain ⟨h1, h2⟩ := hne k e.symm
  exact h h1 h2
 refine ⟨⟨hg.os.trans I.bel.os, hg.tape.trans I.bel.tape, hg.output.trans I.bel.output, Nat.le_trans I.bel.size hg.size, fun k hk hkE => ?_⟩, I.ge, I.nd, I.len, I.pre, fun k hk => ?_, ⟨hO, ?_⟩, fun a ha => ⟨fun hf => ?_, (I.far a ha).2⟩⟩
 · rw [keep k (Nat.lt_of_lt_of_le hk I.bel.size) fun hp => by have := (hrow.blk_lt hp).1; omega]
   exact I.bel.block k hk hkE
 · have hF : Fa A bx (lk 0 A k) := ⟨k, hk, t0f hrw k hk, rfl⟩
   have h1 := I.bt k hk
   unfold Bt at h1 ⊢
   rw [keep _ (I.lt _ hF) fun hp e => (I.far _ hF).1 ⟨hp, e⟩]
   exact h1
 · refine PF.all_keep hg.size I.fa.2 fun k hk ha => keep k hk fun hp => ha _ (hfar hp)
 · rcases hat hf.1 with ⟨hp, h⟩ | h
   · exact (I.far a ha).1 ⟨hp, h.symm.trans hf.2⟩
   · have := I.lt a ha
     have := hf.2
     omega
theorem Inv.newb {bx : List Box} (I : Inv E w0 A bx fs V) (hb : Below V.heap.size V W) {b : Nat} {t : TypeId} {cs : List SV} (hge : V.heap.size ≤ b) (hB : Bt W b t (cs.map (SV.r A)).toArray) (h1 : wfL bx.length cs = true) (h2 : wfB bx.length bx = true) :
 Inv E w0 (A ++ [b]) (bx ++ [⟨t, cs, false⟩]) fs W := by
 have I' := I.past hb
 have hl : ∀ k, k < bx.length → lk 0 (A ++ [b]) k = lk 0 A k ∧ lk bx0 (bx ++ [⟨t, cs, false⟩]) k = lk bx0 bx k := fun k h => ⟨c0z 0 (by rw [I.len]; exact h), c0z bx0 h⟩
 have hn : lk 0 (A ++ [b]) bx.length = b ∧ lk bx0 (bx ++ [⟨t, cs, false⟩]) bx.length = ⟨t, cs, false⟩ := ⟨by rw [← I.len, d0j], d0j _⟩
 have hF : ∀ a, Fa (A ++ [b]) (bx ++ [⟨t, cs, false⟩]) a → Fa A bx a ∨ a = b := fun a ⟨k, hk, hr, e⟩ => by
  rw [List.length_append, List.length_singleton] at hk
  by_cases h : k < bx.length
  · rw [(hl k h).2] at hr
    rw [(hl k h).1] at e
    exact .inl ⟨k, h, hr, e⟩
  · obtain rfl : k = bx.length := by omega
    exact .inr (e.trans hn.1)
 refine ⟨I'.bel, fun a ha => ?_, fun i j hi hj hr hne => ?_, by simp [I.len], I.pre.trans (List.prefix_append _ _), fun k hk => ?_, I'.fa, fun a ha => ?_⟩
 · rcases hF a ha with h | rfl
   · exact I.ge a h
   · exact .inl (Nat.le_trans I.bel.size hge)
 · rw [List.length_append, List.length_singleton] at hi hj
   by_cases h : i < bx.length
   · rw [(hl i h).2] at hr
     by_cases h' : j < bx.length
     · rw [(hl i h).1, (hl j h').1]
       exact I.nd i j h h' hr hne
     · obtain rfl : j = bx.length := by omega
       rw [(hl i h).1, hn.1]
       have := (I.bt i h).lt
       omega
   · obtain rfl : i = bx.length := by omega
     have h' : j < bx.length := by omega
     rw [(hl j h').1, hn.1]
     have := (I.bt j h').lt
     omega
 · rw [List.length_append, List.length_singleton] at hk
   by_cases h : k < bx.length
   · rw [(hl k h).1, (hl k h).2]
     have := I'.bt k h
     unfold Box.row at this ⊢
     rw [s0j _ I.len (q0d h2 k)]
     exact this
   · obtain rfl : k = bx.length := by omega
     rw [hn.1, hn.2]
     unfold Box.row
     simp only
     rw [s0j _ I.len h1]
     exact hB
 · rcases hF a ha with h | rfl
   · exact I'.far a h
   · have : ∀ {l : List PF}, PF.all V l → PF.far a l := fun {l} hl => by
      induction l with
      | nil => exact True.intro
      | cons f l ih => exact ⟨fun hf => by have := f.lt V _ hl.1 hf; omega, ih hl.2⟩
     exact this I.fa
theorem l1k {A' : List Nat} {c' : Cfg} (hA : A <+: A') (he : act A c.fr = act A' c'.fr) (h1 : c'.rg = c.rg) (h2 : c'.ks = c.ks) (h : G P Q A' c' W) : G P Q A c W := by
 refine ⟨?_⟩
 have h := h.out
 unfold g1d at *
 obtain ⟨fr, bx, rg, ks⟩ := c
 obtain ⟨fr', bx', rg', ks'⟩ := c'
 simp only at *
 subst h1 h2
 rw [he]
 cases rg' with
 | off => exact h
 | pl => exact h
 | dr ops A0 m fuel listed => exact fun pre => h (pre.on hA)
 | one ops A0 m fuel listed i => exact fun pre => h (pre.on hA)
 | ret => exact h
theorem l1l {bxv : List Box} (I : Inv E w0 A bxv fs V) (hb : Below V.heap.size V W) (k b : Nat) (t : TypeId) (cs : List Value) (hge : V.heap.size ≤ b) (hB : Bt W b t cs.toArray)
 (h : ∀ A', lk 0 A' k = b → Inv E w0 A' (c.bx ++ [⟨t, cs.map .v, false⟩]) fs W → G P Q A' ⟨c.fr, c.bx ++ [⟨t, cs.map .v, false⟩], c.rg, c.ks⟩ W)
 (hbv : bxv = c.bx := by kernel_rfl) (hk : c.bx.length = k := by kernel_rfl) (h1 : wfL c.bx.length (cs.map SV.v) = true := by kernel_rfl) (h2 : wfB c.bx.length c.bx = true := by kernel_rfl) (h3 : wfL c.bx.length c.fr = true := by kernel_rfl) : G P Q A c W := by
 subst hbv
 have hcs : ∀ A, (cs.map SV.v).map (SV.r A) = cs := fun A => by
  rw [List.map_map]
  exact List.map_id _
 have I2 := I.newb hb (cs := cs.map SV.v) hge (by rw [hcs]; exact hB) h1 h2
 refine l1k (A' := A ++ [b]) (c' := ⟨c.fr, c.bx ++ [⟨t, cs.map .v, false⟩], c.rg, c.ks⟩) (List.prefix_append _ _) ?_ rfl rfl (h _ ?_ I2)
 · unfold act
   simp only
   rw [s0j _ I.len h3]
 · rw [← hk, ← I.len, d0j]
theorem l1m (I : Inv E w0 A c.bx fs W) (d k b : Nat) (hk : lk 0 A k = b) (h : ∀ A W, Inv E w0 A (putc (zr P (some d) c) (.p k 0)).bx fs W → G P Q A (putc (zr P (some d) c) (.p k 0)) W)
 (hkl : Nat.ble (k + 1) c.bx.length = true := by kernel_rfl)
 (hv : u0e P (zr P (some d) c) = some (.val (.v (.pointer (some ⟨b, 0, none⟩)))) := by kernel_rfl)
 (hc : ∀ A w, (f0h P (zr P (some d) c) A w).map (·.1) = (f0h P (zr P (some d) c) A w).map (·.2) := by intro _ _; kernel_rfl)
 (hr : ∀ A w, (zms P (some d) 5000 c A w).map (·.1) = (zms P (some d) 5000 c A w).map (·.2) := by intro _ _; kernel_rfl)
 (hm : ok1 (zr P (some d) c).rg (zr P (some d) c).bx = ok2 (zr P (some d) c).rg := by kernel_rfl) : G P Q A c W := by
 refine k0v 5000 I (fun A w => f0o (hr A w)) fun A' W' hA I' => ?_
 rw [← j1y] at I' ⊢
 refine k1b I' _ (.p k 0) ?_ (h A' W') hv (fun A w => f0o (hc A w)) hm
 show Value.pointer (some ⟨b, 0, none⟩) = .pointer (some ⟨lk 0 A' k, 0, none⟩)
 rw [w0g hA (by rw [I.len]; exact h0s hkl), hk]
end
end Go.Slip
namespace Go.Proofs.YtmacohmclpnphaaGreatDoor
open Go.RowKit Go.Slip
theorem TabW.far {w : World} {b : Nat} {t : TypeId} {vs : Array Value} (h : TabW w) (hX : Bt w b t vs) (hne : (match vs[0]? with | some (.int .u8 _) => false | _ => true) = true) : ¬ (0 = b) := by
 intro e
 subst e
 have h1 := h.1 0 (by omega)
 rw [hX.bx.cell 0] at h1
 rw [h1] at hne
 cases hne
def famB (f : Fm) : Int := if f.fam = 1 then 65 else if f.fam = 2 then 66 else 67
abbrev uS (f : Fm) (n way k : Int) : List SV := [.v (.int .i64 n), .v (.int .i64 way), .v (.int .i64 f.g.rad), .v (.int .i64 f.g.digs), .v (.int .i64 f.g.lo), .v (.int .i64 f.g.hi), .v (.bool f.g.grad), .v (.int .u8 (famB f)), .v (.int .i64 k)]
theorem c0t (f : Fm) (n way a b c : Int) (u : Nat) (w : World) (U : Bt w u 182 #[.int .i64 n, .int .i64 way, .int .i64 f.g.rad, .int .i64 f.g.digs, .int .i64 f.g.lo, .int .i64 f.g.hi, .bool f.g.grad, .int .u8 (famB f), .int .i64 a]) (hc : bits .or .i64 a b = c) :
 Calls Tryz.prog 163 #[.pointer (some ⟨u, 0, none⟩), .int .i64 b] w fun e w' => e = .returned (.tuple #[]) ∧ Kp [u] w w' ∧ Bt w' u 182 #[.int .i64 n, .int .i64 way, .int .i64 f.g.rad, .int .i64 f.g.digs, .int .i64 f.g.lo, .int .i64 f.g.hi, .bool f.g.grad, .int .u8 (famB f), .int .i64 c] := by
 have I := Inv.startW w u 182 (uS f n way a) [] U True.intro True.intro
 refine a0d [.p 0 0, .v (.int .i64 b)] I Tryz.func163 ?_
 refine zbin I 9 _ (fun _ _ _ _ _ => g1i .i64 (a) (b) (c) (hc)) fun Al W I => ?_
 exact zret I fun Al W I => ⟨rfl, I.bel, I.boxE 182 _⟩
theorem i1s (f : Fm) (n way a : Int) (u : Nat) (w : World) (U : Bt w u 182 #[.int .i64 n, .int .i64 way, .int .i64 f.g.rad, .int .i64 f.g.digs, .int .i64 f.g.lo, .int .i64 f.g.hi, .bool f.g.grad, .int .u8 (famB f), .int .i64 a]) :
 Calls Tryz.prog 165 #[.pointer (some ⟨u, 0, none⟩)] w fun e w' => e = .returned (.int .i64 ((wid f.g : Nat) : Int)) ∧ Below w.heap.size w w' := by
 by_cases h : f.g.rad = 16
 · have hw : wid f.g = 4 := by unfold wid; rw [if_pos h]
   rw [hw]
   have I := Inv.startR w [u] [⟨182, (uS f n way a), true⟩] [] ⟨U, True.intro⟩ True.intro
   refine a0d [.p 0 0] I Tryz.func165 ?_
   refine zb I 8 (f.g.rad == 16) (true) (beq_iff_eq.2 h) fun Al W I => ?_
   exact zrb I
 · have hw : wid f.g = 1 := by unfold wid; rw [if_neg h]
   rw [hw]
   have I := Inv.startR w [u] [⟨182, (uS f n way a), true⟩] [] ⟨U, True.intro⟩ True.intro
   refine a0d [.p 0 0] I Tryz.func165 ?_
   refine zb I 8 (f.g.rad == 16) (false) (bFn h) fun Al W I => ?_
   exact zrb I
theorem c1p (f : Fm) (n way a : Int) (g : Bool) (u : Nat) (w : World) (U : Bt w u 182 #[.int .i64 n, .int .i64 way, .int .i64 f.g.rad, .int .i64 f.g.digs, .int .i64 f.g.lo, .int .i64 f.g.hi, .bool f.g.grad, .int .u8 (famB f), .int .i64 a]) :
 Calls Tryz.prog 119 #[.pointer (some ⟨u, 0, none⟩), .bool g] w fun e w' => e = .returned (.agg #[.int .i64 1, .bool (g && decide (f.fam = 1)), .slice none 0 0, .int .i64 0]) ∧ Below w.heap.size w w' := by
 have hB : (famB f == 65) = decide (f.fam = 1) := by
  unfold famB
  by_cases h1 : f.fam = 1
  · simp [h1]
  · by_cases h2 : f.fam = 2 <;> simp [h1, h2]
 cases g
 · have I := Inv.startR w [u] [⟨182, (uS f n way a), true⟩] [] ⟨U, True.intro⟩ True.intro
   refine a0d [.p 0 0, .v (.bool false)] I Tryz.func119 ?_
   exact zrb I
 · generalize decide (f.fam = 1) = q at *
   have I := Inv.startR w [u] [⟨182, (uS f n way a), true⟩] [] ⟨U, True.intro⟩ True.intro
   refine a0d [.p 0 0, .v (.bool true)] I Tryz.func119 ?_
   refine zb I 11 ((famB f) == 65) (q) (hB) fun Al W I => ?_
   exact zrb I
theorem f1m : Tryz.prog.underlying 216 = some (.map 5 3) := by kernel_rfl
def n0q : Array MapEntry := #[⟨.int .u8 65, .int .i64 4, 0⟩, ⟨.int .u8 66, .int .i64 1, 1⟩, ⟨.int .u8 67, .int .i64 5, 2⟩]
theorem n0r (f : Fm) (n way a : Int) (u : Nat) (w : World) (U : Bt w u 182 #[.int .i64 n, .int .i64 way, .int .i64 f.g.rad, .int .i64 f.g.digs, .int .i64 f.g.lo, .int .i64 f.g.hi, .bool f.g.grad, .int .u8 (famB f), .int .i64 a]) :
 Calls Tryz.prog 141 #[.pointer (some ⟨u, 0, none⟩)] w fun e w' => e = .returned (.agg #[.int .i64 (f.nothM.cls : Int), .bool false, .slice none 0 0, .int .i64 0]) ∧ Below w.heap.size w w' := by
 have hmm := @run_makeMap Tryz.prog
 go_enter Tryz.func141, Tryz.ntmps141
 have hs : (w.alloc (Obj.cells #[Value.int IntKind.i64 0, Value.bool false, Value.slice none 0 0, Value.int IntKind.i64 0] 75)).heap.size = w.heap.size + 1 := by show (w.heap.push _).size = _; exact Array.size_push ..
 have h1 := e0f (w := w.alloc (Obj.cells #[Value.int IntKind.i64 0, Value.bool false, Value.slice none 0 0, Value.int IntKind.i64 0] 75)) f1m Tryz.underlying5 #[] 0 65 (.int .i64 4) rfl
 have h2 := e0f (w := w.alloc (Obj.cells #[Value.int IntKind.i64 0, Value.bool false, Value.slice none 0 0, Value.int IntKind.i64 0] 75)) f1m Tryz.underlying5 #[⟨.int .u8 65, .int .i64 4, 0⟩] 1 66 (.int .i64 1) rfl
 have h3 := e0f (w := w.alloc (Obj.cells #[Value.int IntKind.i64 0, Value.bool false, Value.slice none 0 0, Value.int IntKind.i64 0] 75)) f1m Tryz.underlying5 #[⟨.int .u8 65, .int .i64 4, 0⟩, ⟨.int .u8 66, .int .i64 1, 1⟩] 2 67 (.int .i64 5) rfl
 rw [hs] at h1 h2 h3
 have U3 : ∀ es c, Bt ((w.alloc (Obj.cells #[Value.int IntKind.i64 0, Value.bool false, Value.slice none 0 0, Value.int IntKind.i64 0] 75)).alloc (Obj.map es c)) u 182 #[.int .i64 n, .int .i64 way, .int .i64 f.g.rad, .int .i64 f.g.digs, .int .i64 f.g.lo, .int .i64 f.g.hi, .bool f.g.grad, .int .u8 (famB f), .int .i64 a] := fun es c => U.past (((Below.refl _ _).alloc (Nat.le_refl _) _).alloc (by rw [hs]; omega) _)
 have hL := (U3 n0q 3).bx.c 7 (v := .int .u8 (famB f)) rfl
 have hM : ((w.alloc (Obj.cells #[Value.int IntKind.i64 0, Value.bool false, Value.slice none 0 0, Value.int IntKind.i64 0] 75)).alloc (Obj.map n0q 3)).heap[w.heap.size + 1]? = some (.map n0q 3) := by
  rw [← hs]; show ((World.alloc _ _).heap.push _)[_]? = _; exact Array.getElem?_push_size
 have hF : ∃ i, Instr.findNow (.int .u8) (.int .u8 (famB f)) n0q.toList 0 = some (some (i, .int .i64 (f.nothM.cls : Int))) := by
  unfold famB Fm.nothM
  by_cases h1 : f.fam = 1
  · rw [if_pos h1, if_pos h1]; exact ⟨0, rfl⟩
  · rw [if_neg h1, if_neg h1]
    by_cases h2 : f.fam = 2
    · rw [if_pos h2, if_pos h2]; exact ⟨1, rfl⟩
    · rw [if_neg h2, if_neg h2]; exact ⟨2, rfl⟩
 obtain ⟨i, hF⟩ := hF
 have hK := i0o f1m Tryz.underlying5 hM (famB f) hF
 simp only [n0q] at hL hK
 clear hM hF U3
 go_wp2_with fail
 have hC : Bt ((w.alloc (Obj.cells #[.int .i64 (f.nothM.cls : Int), .bool false, .slice none 0 0, .int .i64 0] 75)).alloc (Obj.map n0q 3)) w.heap.size 75 #[.int .i64 (f.nothM.cls : Int), .bool false, .slice none 0 0, .int .i64 0] := by
  show ((w.heap.push _).push _)[_]? = _
  rw [Array.getElem?_push_lt (by rw [Array.size_push]; omega)]
  simp
 simp only [n0q] at hC
 have ⟨b0, b1, b2, b3⟩ := hC.bx.e4
 refine bodyPost_ret (v := .agg #[.int .i64 (f.nothM.cls : Int), .bool false, .slice none 0 0, .int .i64 0]) (by simp [results, Tryz.results141, go_sem, b0, b1, b2, b3]) rfl ⟨rfl, ?_⟩
 refine ((Below.refl _ _).alloc (Nat.le_refl _) _).alloc ?_ _
 show _ ≤ (w.heap.push _).size
 rw [Array.size_push]; omega
def i1t (w : World) (v : Vl) (en : Ending) (w' : World) : Prop :=
 ∃ p c, en = .returned (.agg #[.int .i64 (v.cls : Int), .bool v.neg, .slice p (dig B32 v.d).length c, .int .i64 v.pow]) ∧ Own w' w.heap.size .u32 141 p c (dig B32 v.d) ∧ Below w.heap.size w w'
theorem g0p (f : Fm) (n way a : Int) (g : Bool) (u : Nat) (w : World) (U : Bt w u 182 #[.int .i64 n, .int .i64 way, .int .i64 f.g.rad, .int .i64 f.g.digs, .int .i64 f.g.lo, .int .i64 f.g.hi, .bool f.g.grad, .int .u8 (famB f), .int .i64 a]) (hd : 0 ≤ f.g.digs ∧ f.g.digs ≤ 1000) :
 Calls Tryz.prog 164 #[.pointer (some ⟨u, 0, none⟩), .bool g] w (i1t w ⟨2, g, 2 ^ (wid f.g * f.g.digs.toNat) - 1, f.g.hi⟩) := by
 have wp := b0c f.g
 have lu := U.lt
 have hmw : ((wid f.g * f.g.digs.toNat : Nat) : Int) = (wid f.g : Nat) * f.g.digs := by rw [Int.natCast_mul, Int.toNat_of_nonneg hd.1]
 have hmb : wid f.g * f.g.digs.toNat ≤ 4 * 1000 := Nat.mul_le_mul wp.2 (by omega)
 have l1 : (dig B32 1).length ≤ 1 := by rw [a0g a0b]; unfold B32; omega
 have l2 : (dig B32 (2 ^ (wid f.g * f.g.digs.toNat))).length ≤ 126 := a0u (n := wid f.g * f.g.digs.toNat + 1) (k := 126) (Nat.pow_lt_pow_right (a := 2) (by omega) (by omega)) (by omega)
 have h1 := Nat.one_le_two_pow (n := wid f.g * f.g.digs.toNat)
 have HW := fun W u hU => hi0 (i1s f n way a u W hU)
 generalize wid f.g * f.g.digs.toNat = m at *
 generalize hx : 2 ^ m = x at *
 have HX := hi0 hx
 clear hx
 have HM := hi0 hmw
 clear hmw
 have I := Inv.startR w [u] [⟨182, (uS f n way a), true⟩] [] ⟨U, True.intro⟩ True.intro
 refine a0d [.p 0 0, .v (.bool g)] I Tryz.func164 ?_
 refine zq I (fun Al W I => (HW W _ (I.box 0 182 _)).out) fun Al W I => ?_
 refine zd [] I fun Al W I => ?_
 refine zk [1, 2, 3, 4, 5, 6] I fun I => ?_
 refine zki 7 I .i64 (((wid f.g : Nat) : Int) * f.g.digs) ((m : Int)) ((by rw [HM.out]; exact IntWalk.i64_in _ (by rw [← HM.out]; omega))) fun I => ?_
 refine zo 0 I fun I => ?_
 refine zqo I (fun Al W I => have hzW := I.bel.size; sof 1 1 rfl (by omega) W) fun Al W p9 c9 I => ?_
 refine zo 8 I fun I => ?_
 refine zqo I (fun Al W I => have hzW := I.bel.size; sshl p9 _ c9 1 m x _ W I.fa.1.rd rfl (by omega) (by omega) rfl (by rw [HX.out]; omega)) fun Al W p17 c17 I => ?_
 refine zo 9 I fun I => ?_
 refine zqo I (fun Al W I => have hzW := I.bel.size; sof 1 1 rfl (by omega) W) fun Al W p18 c18 I => ?_
 refine zo 10 I fun I => ?_
 refine zqo I (fun Al W I => have hzW := I.bel.size; ssub p17 p18 _ _ c17 c18 x 1 (x - 1) W I.fa.2.1.rd I.fa.1.rd rfl rfl (by omega) (by omega) rfl) fun Al W p19 c19 I => ?_
 refine zk [11] I fun I => ?_
 exact zret I fun Al W I => ⟨p19, c19, rfl, I.fa.1.mono (by omega), I.below⟩
def l0l (f : Fm) (n way c : Int) (u : Nat) (w : World) (v : Vl) (en : Ending) (w' : World) : Prop :=
 ∃ p k, en = .returned (.agg #[.int .i64 (v.cls : Int), .bool v.neg, .slice p (dig B32 v.d).length k, .int .i64 v.pow]) ∧ Own w' w.heap.size .u32 141 p k (dig B32 v.d) ∧ Kp [u] w w' ∧ Bt w' u 182 #[.int .i64 n, .int .i64 way, .int .i64 f.g.rad, .int .i64 f.g.digs, .int .i64 f.g.lo, .int .i64 f.g.hi, .bool f.g.grad, .int .u8 (famB f), .int .i64 c]
theorem f1n (f : Fm) (n way a c : Int) (g : Bool) (u : Nat) (w : World) (U : Bt w u 182 #[.int .i64 n, .int .i64 way, .int .i64 f.g.rad, .int .i64 f.g.digs, .int .i64 f.g.lo, .int .i64 f.g.hi, .bool f.g.grad, .int .u8 (famB f), .int .i64 a]) (hd : 0 ≤ f.g.digs ∧ f.g.digs ≤ 1000) (hc : bits .or .i64 a 5 = c) (h2 : f.fam = 2) :
 Calls Tryz.prog 180 #[.pointer (some ⟨u, 0, none⟩), .bool g] w (l0l f n way c u w ⟨2, g, 2 ^ (wid f.g * f.g.digs.toNat) - 1, f.g.hi⟩) := by
 have hF : famB f = 66 := by unfold famB; rw [if_neg (by omega), if_pos h2]
 have HR := fun W u hU => hi0 (c0t f n way a 5 c u W hU hc)
 have HG := fun W u hU => hi0 (g0p f n way c g u W hU hd)
 generalize 2 ^ (wid f.g * f.g.digs.toNat) - 1 = m at *
 have I := Inv.startW w u 182 (uS f n way a) [] U True.intro True.intro
 refine a0d [.p 0 0, .v (.bool g)] I Tryz.func180 ?_
 refine zge I 0 182 (fun Al W I => (HR W _ (I.box 0 182 _)).out) fun Al V Iv _ _ kz => ?_
 rintro _ W ⟨rfl, hO, hB⟩
 refine ⟨_, rfl, kz _ (uS f n way c) _ hO hB fun I => ?_⟩
 refine zb I 13 ((famB f) == 66) (true) (beq_iff_eq.2 hF) fun Al W I => ?_
 refine zqo I (fun Al W I => (HG W _ (I.box 0 182 _)).out) fun Al W p16 c16 I => ?_
 exact zret I fun Al W I => ⟨p16, c16, rfl, I.fa.1.mono (by omega), I.bel, I.boxE 182 _⟩
theorem d0g {f : Fm} {n way c : Int} {u k : Nat} {g : Bool} {w w' : World} {en : Ending} (h : en = .returned (.agg #[.int .i64 (k : Int), .bool g, .slice none 0 0, .int .i64 0])) (hk : Kp [u] w w') (hb : Bt w' u 182 #[.int .i64 n, .int .i64 way, .int .i64 f.g.rad, .int .i64 f.g.digs, .int .i64 f.g.lo, .int .i64 f.g.hi, .bool f.g.grad, .int .u8 (famB f), .int .i64 c]) : l0l f n way c u w ⟨k, g, 0, 0⟩ en w' := by
 refine ⟨none, 0, ?_, ?_, hk, hb⟩
 · rw [h, a0c]; rfl
 · show Own _ _ _ _ _ _ (dig B32 0); rw [a0c]; exact Own.nil _ _ _ _
theorem f1o (f : Fm) (n way a c : Int) (g : Bool) (u : Nat) (w : World) (U : Bt w u 182 #[.int .i64 n, .int .i64 way, .int .i64 f.g.rad, .int .i64 f.g.digs, .int .i64 f.g.lo, .int .i64 f.g.hi, .bool f.g.grad, .int .u8 (famB f), .int .i64 a]) (hc : bits .or .i64 a 5 = c) (h1 : f.fam ≠ 1) (h2 : f.fam ≠ 2) :
 Calls Tryz.prog 180 #[.pointer (some ⟨u, 0, none⟩), .bool g] w (l0l f n way c u w ⟨f.nothM.cls, false, 0, 0⟩) := by
 have hF : famB f = 67 := by unfold famB; rw [if_neg h1, if_neg h2]
 have HR := fun W u hU => hi0 (c0t f n way a 5 c u W hU hc)
 have HG := fun W u hU => hi0 (n0r f n way c u W hU)
 generalize f.nothM.cls = k at *
 have I := Inv.startW w u 182 (uS f n way a) [] U True.intro True.intro
 refine a0d [.p 0 0, .v (.bool g)] I Tryz.func180 ?_
 refine zge I 0 182 (fun Al W I => (HR W _ (I.box 0 182 _)).out) fun Al V Iv _ _ kz => ?_
 rintro _ W ⟨rfl, hO, hB⟩
 refine ⟨_, rfl, kz _ (uS f n way c) _ hO hB fun I => ?_⟩
 refine zb I 13 ((famB f) == 66) (false) (bFn (by rw [hF]; decide)) fun Al W I => ?_
 refine zb I 18 ((famB f) == 67) (true) (beq_iff_eq.2 hF) fun Al W I => ?_
 refine zq I (fun Al W I => (HG W _ (I.box 0 182 _)).out) fun Al W I => ?_
 exact zret I fun Al W I => d0g rfl I.bel (I.boxE 182 _)
theorem l0c (g : Bool) (w : World) : Calls Tryz.prog 118 #[.bool g] w fun e w' => e = .returned (.agg #[.int .i64 3, .bool g, .slice none 0 0, .int .i64 0]) ∧ Below w.heap.size w w' := by
 have I := Inv.start w [] True.intro
 refine a0d [.v (.bool g)] I Tryz.func118 ?_
 exact zrb I
theorem f1p (f : Fm) (n way a c : Int) (g : Bool) (u : Nat) (w : World) (U : Bt w u 182 #[.int .i64 n, .int .i64 way, .int .i64 f.g.rad, .int .i64 f.g.digs, .int .i64 f.g.lo, .int .i64 f.g.hi, .bool f.g.grad, .int .u8 (famB f), .int .i64 a]) (hd : 0 ≤ f.g.digs ∧ f.g.digs ≤ 1000) (hc : bits .or .i64 a 5 = c) (h1 : f.fam = 1) (hw : 1 ≤ way ∧ way ≤ 5) :
 Calls Tryz.prog 180 #[.pointer (some ⟨u, 0, none⟩), .bool g] w (l0l f n way c u w (if way ≤ 2 ∨ (way = 4 ∧ g = false) ∨ (way = 5 ∧ g = true) then ⟨3, g, 0, 0⟩ else ⟨2, g, 2 ^ (wid f.g * f.g.digs.toNat) - 1, f.g.hi⟩)) := by
 have hF : famB f = 65 := by unfold famB; rw [if_pos h1]
 rcases (show way = 1 ∨ way = 2 ∨ way = 3 ∨ way = 4 ∨ way = 5 by omega) with rfl | rfl | rfl | rfl | rfl <;> cases g
 · rw [if_pos (by decide)]
   have HR := fun W u hU => hi0 (c0t f n 1 a 5 c u W hU hc)
   have I := Inv.startW w u 182 (uS f n 1 a) [] U True.intro True.intro
   refine a0d [.p 0 0, .v (.bool false)] I Tryz.func180 ?_
   refine zge I 0 182 (fun Al W I => (HR W _ (I.box 0 182 _)).out) fun Al V Iv _ _ kz => ?_
   rintro _ W ⟨rfl, hO, hB⟩
   refine ⟨_, rfl, kz _ (uS f n 1 c) _ hO hB fun I => ?_⟩
   refine zb I 13 ((famB f) == 66) (false) (bFn (by rw [hF]; decide)) fun Al W I => ?_
   refine zb I 18 ((famB f) == 67) (false) (bFn (by rw [hF]; decide)) fun Al W I => ?_
   refine zq I (fun Al W I => l0c false W) fun Al W I => ?_
   exact zret I fun Al W I => d0g (k := 3) rfl I.bel (I.boxE 182 _)
 · rw [if_pos (by decide)]
   have HR := fun W u hU => hi0 (c0t f n 1 a 5 c u W hU hc)
   have I := Inv.startW w u 182 (uS f n 1 a) [] U True.intro True.intro
   refine a0d [.p 0 0, .v (.bool true)] I Tryz.func180 ?_
   refine zge I 0 182 (fun Al W I => (HR W _ (I.box 0 182 _)).out) fun Al V Iv _ _ kz => ?_
   rintro _ W ⟨rfl, hO, hB⟩
   refine ⟨_, rfl, kz _ (uS f n 1 c) _ hO hB fun I => ?_⟩
   refine zb I 13 ((famB f) == 66) (false) (bFn (by rw [hF]; decide)) fun Al W I => ?_
   refine zb I 18 ((famB f) == 67) (false) (bFn (by rw [hF]; decide)) fun Al W I => ?_
   refine zq I (fun Al W I => l0c true W) fun Al W I => ?_
   exact zret I fun Al W I => d0g (k := 3) rfl I.bel (I.boxE 182 _)
 · rw [if_pos (by decide)]
   have HR := fun W u hU => hi0 (c0t f n 2 a 5 c u W hU hc)
   have I := Inv.startW w u 182 (uS f n 2 a) [] U True.intro True.intro
   refine a0d [.p 0 0, .v (.bool false)] I Tryz.func180 ?_
   refine zge I 0 182 (fun Al W I => (HR W _ (I.box 0 182 _)).out) fun Al V Iv _ _ kz => ?_
   rintro _ W ⟨rfl, hO, hB⟩
   refine ⟨_, rfl, kz _ (uS f n 2 c) _ hO hB fun I => ?_⟩
   refine zb I 13 ((famB f) == 66) (false) (bFn (by rw [hF]; decide)) fun Al W I => ?_
   refine zb I 18 ((famB f) == 67) (false) (bFn (by rw [hF]; decide)) fun Al W I => ?_
   refine zq I (fun Al W I => l0c false W) fun Al W I => ?_
   exact zret I fun Al W I => d0g (k := 3) rfl I.bel (I.boxE 182 _)
 · rw [if_pos (by decide)]
   have HR := fun W u hU => hi0 (c0t f n 2 a 5 c u W hU hc)
   have I := Inv.startW w u 182 (uS f n 2 a) [] U True.intro True.intro
   refine a0d [.p 0 0, .v (.bool true)] I Tryz.func180 ?_
   refine zge I 0 182 (fun Al W I => (HR W _ (I.box 0 182 _)).out) fun Al V Iv _ _ kz => ?_
   rintro _ W ⟨rfl, hO, hB⟩
   refine ⟨_, rfl, kz _ (uS f n 2 c) _ hO hB fun I => ?_⟩
   refine zb I 13 ((famB f) == 66) (false) (bFn (by rw [hF]; decide)) fun Al W I => ?_
   refine zb I 18 ((famB f) == 67) (false) (bFn (by rw [hF]; decide)) fun Al W I => ?_
   refine zq I (fun Al W I => l0c true W) fun Al W I => ?_
   exact zret I fun Al W I => d0g (k := 3) rfl I.bel (I.boxE 182 _)
 · rw [if_neg (by decide)]
   have HR := fun W u hU => hi0 (c0t f n 3 a 5 c u W hU hc)
   have HG := fun W u hU => hi0 (g0p f n 3 c false u W hU hd)
   generalize 2 ^ (wid f.g * f.g.digs.toNat) - 1 = m at *
   have I := Inv.startW w u 182 (uS f n 3 a) [] U True.intro True.intro
   refine a0d [.p 0 0, .v (.bool false)] I Tryz.func180 ?_
   refine zge I 0 182 (fun Al W I => (HR W _ (I.box 0 182 _)).out) fun Al V Iv _ _ kz => ?_
   rintro _ W ⟨rfl, hO, hB⟩
   refine ⟨_, rfl, kz _ (uS f n 3 c) _ hO hB fun I => ?_⟩
   refine zb I 13 ((famB f) == 66) (false) (bFn (by rw [hF]; decide)) fun Al W I => ?_
   refine zb I 18 ((famB f) == 67) (false) (bFn (by rw [hF]; decide)) fun Al W I => ?_
   refine zqo I (fun Al W I => (HG W _ (I.box 0 182 _)).out) fun Al W p59 c59 I => ?_
   exact zret I fun Al W I => ⟨p59, c59, rfl, I.fa.1.mono (by omega), I.bel, I.boxE 182 _⟩
 · rw [if_neg (by decide)]
   have HR := fun W u hU => hi0 (c0t f n 3 a 5 c u W hU hc)
   have HG := fun W u hU => hi0 (g0p f n 3 c true u W hU hd)
   generalize 2 ^ (wid f.g * f.g.digs.toNat) - 1 = m at *
   have I := Inv.startW w u 182 (uS f n 3 a) [] U True.intro True.intro
   refine a0d [.p 0 0, .v (.bool true)] I Tryz.func180 ?_
   refine zge I 0 182 (fun Al W I => (HR W _ (I.box 0 182 _)).out) fun Al V Iv _ _ kz => ?_
   rintro _ W ⟨rfl, hO, hB⟩
   refine ⟨_, rfl, kz _ (uS f n 3 c) _ hO hB fun I => ?_⟩
   refine zb I 13 ((famB f) == 66) (false) (bFn (by rw [hF]; decide)) fun Al W I => ?_
   refine zb I 18 ((famB f) == 67) (false) (bFn (by rw [hF]; decide)) fun Al W I => ?_
   refine zqo I (fun Al W I => (HG W _ (I.box 0 182 _)).out) fun Al W p59 c59 I => ?_
   exact zret I fun Al W I => ⟨p59, c59, rfl, I.fa.1.mono (by omega), I.bel, I.boxE 182 _⟩
 · rw [if_pos (by decide)]
   have HR := fun W u hU => hi0 (c0t f n 4 a 5 c u W hU hc)
   have I := Inv.startW w u 182 (uS f n 4 a) [] U True.intro True.intro
   refine a0d [.p 0 0, .v (.bool false)] I Tryz.func180 ?_
   refine zge I 0 182 (fun Al W I => (HR W _ (I.box 0 182 _)).out) fun Al V Iv _ _ kz => ?_
   rintro _ W ⟨rfl, hO, hB⟩
   refine ⟨_, rfl, kz _ (uS f n 4 c) _ hO hB fun I => ?_⟩
   refine zb I 13 ((famB f) == 66) (false) (bFn (by rw [hF]; decide)) fun Al W I => ?_
   refine zb I 18 ((famB f) == 67) (false) (bFn (by rw [hF]; decide)) fun Al W I => ?_
   refine zq I (fun Al W I => l0c false W) fun Al W I => ?_
   exact zret I fun Al W I => d0g (k := 3) rfl I.bel (I.boxE 182 _)
 · rw [if_neg (by decide)]
   have HR := fun W u hU => hi0 (c0t f n 4 a 5 c u W hU hc)
   have HG := fun W u hU => hi0 (g0p f n 4 c true u W hU hd)
   generalize 2 ^ (wid f.g * f.g.digs.toNat) - 1 = m at *
   have I := Inv.startW w u 182 (uS f n 4 a) [] U True.intro True.intro
   refine a0d [.p 0 0, .v (.bool true)] I Tryz.func180 ?_
   refine zge I 0 182 (fun Al W I => (HR W _ (I.box 0 182 _)).out) fun Al V Iv _ _ kz => ?_
   rintro _ W ⟨rfl, hO, hB⟩
   refine ⟨_, rfl, kz _ (uS f n 4 c) _ hO hB fun I => ?_⟩
   refine zb I 13 ((famB f) == 66) (false) (bFn (by rw [hF]; decide)) fun Al W I => ?_
   refine zb I 18 ((famB f) == 67) (false) (bFn (by rw [hF]; decide)) fun Al W I => ?_
   refine zqo I (fun Al W I => (HG W _ (I.box 0 182 _)).out) fun Al W p59 c59 I => ?_
   exact zret I fun Al W I => ⟨p59, c59, rfl, I.fa.1.mono (by omega), I.bel, I.boxE 182 _⟩
 · rw [if_neg (by decide)]
   have HR := fun W u hU => hi0 (c0t f n 5 a 5 c u W hU hc)
   have HG := fun W u hU => hi0 (g0p f n 5 c false u W hU hd)
   generalize 2 ^ (wid f.g * f.g.digs.toNat) - 1 = m at *
   have I := Inv.startW w u 182 (uS f n 5 a) [] U True.intro True.intro
   refine a0d [.p 0 0, .v (.bool false)] I Tryz.func180 ?_
   refine zge I 0 182 (fun Al W I => (HR W _ (I.box 0 182 _)).out) fun Al V Iv _ _ kz => ?_
   rintro _ W ⟨rfl, hO, hB⟩
   refine ⟨_, rfl, kz _ (uS f n 5 c) _ hO hB fun I => ?_⟩
   refine zb I 13 ((famB f) == 66) (false) (bFn (by rw [hF]; decide)) fun Al W I => ?_
   refine zb I 18 ((famB f) == 67) (false) (bFn (by rw [hF]; decide)) fun Al W I => ?_
   refine zqo I (fun Al W I => (HG W _ (I.box 0 182 _)).out) fun Al W p59 c59 I => ?_
   exact zret I fun Al W I => ⟨p59, c59, rfl, I.fa.1.mono (by omega), I.bel, I.boxE 182 _⟩
 · rw [if_pos (by decide)]
   have HR := fun W u hU => hi0 (c0t f n 5 a 5 c u W hU hc)
   have I := Inv.startW w u 182 (uS f n 5 a) [] U True.intro True.intro
   refine a0d [.p 0 0, .v (.bool true)] I Tryz.func180 ?_
   refine zge I 0 182 (fun Al W I => (HR W _ (I.box 0 182 _)).out) fun Al V Iv _ _ kz => ?_
   rintro _ W ⟨rfl, hO, hB⟩
   refine ⟨_, rfl, kz _ (uS f n 5 c) _ hO hB fun I => ?_⟩
   refine zb I 13 ((famB f) == 66) (false) (bFn (by rw [hF]; decide)) fun Al W I => ?_
   refine zb I 18 ((famB f) == 67) (false) (bFn (by rw [hF]; decide)) fun Al W I => ?_
   refine zq I (fun Al W I => l0c true W) fun Al W I => ?_
   exact zret I fun Al W I => d0g (k := 3) rfl I.bel (I.boxE 182 _)
theorem g1o (f : Fm) (n way a c : Int) (p : Pl) (u : Nat) (w : World) (U : Bt w u 182 #[.int .i64 n, .int .i64 way, .int .i64 f.g.rad, .int .i64 f.g.digs, .int .i64 f.g.lo, .int .i64 f.g.hi, .bool f.g.grad, .int .u8 (famB f), .int .i64 a]) (G : c0e f) (hc : bits .or .i64 a 5 = c) (hw : 1 ≤ way ∧ way ≤ 5) (ho : p.over = true) :
 Calls Tryz.prog 180 #[.pointer (some ⟨u, 0, none⟩), .bool p.neg] w (l0l f n way c u w (f.placedV p way)) := by
 have GG := b0r G.g
 have h1 := GG.d1
 have h2 := GG.d2
 have hf := G.fam
 unfold Fm.placedV
 rw [if_pos ho]
 by_cases f2 : f.fam = 2
 · rw [if_pos f2]; exact f1n f n way a c p.neg u w U (by omega) hc f2
 · rw [if_neg f2]
   by_cases f3 : f.fam = 3
   · rw [if_pos f3]; exact f1o f n way a c p.neg u w U hc (by omega) f2
   · rw [if_neg f3]; exact f1p f n way a c p.neg u w U (by omega) hc (by omega) hw
def j0d (f : Fm) (n way c : Int) (u : Nat) (w : World) (base : Nat) (v : Vl) (en : Ending) (w' : World) : Prop :=
 ∃ p k, en = .returned (.agg #[.int .i64 (v.cls : Int), .bool v.neg, .slice p (dig B32 v.d).length k, .int .i64 v.pow]) ∧ Own w' base .u32 141 p k (dig B32 v.d) ∧ Kp [u] w w' ∧ Bt w' u 182 #[.int .i64 n, .int .i64 way, .int .i64 f.g.rad, .int .i64 f.g.digs, .int .i64 f.g.lo, .int .i64 f.g.hi, .bool f.g.grad, .int .u8 (famB f), .int .i64 c]
theorem l0l.ub {f : Fm} {n way c : Int} {u base : Nat} {w w' : World} {v : Vl} {en : Ending} (h : l0l f n way c u w v en w') (hb : base ≤ w.heap.size) : j0d f n way c u w base v en w' := by
 obtain ⟨p, k, h1, h2, h3, h4⟩ := h
 exact ⟨p, k, h1, h2.mono hb, h3, h4⟩
theorem f0r {f : Fm} {n way c : Int} {u k base : Nat} {g : Bool} {w w' : World} {en : Ending} (h : en = .returned (.agg #[.int .i64 (k : Int), .bool g, .slice none 0 0, .int .i64 0])) (hk : Kp [u] w w') (hb : Bt w' u 182 #[.int .i64 n, .int .i64 way, .int .i64 f.g.rad, .int .i64 f.g.digs, .int .i64 f.g.lo, .int .i64 f.g.hi, .bool f.g.grad, .int .u8 (famB f), .int .i64 c]) : j0d f n way c u w base ⟨k, g, 0, 0⟩ en w' := by
 refine ⟨none, 0, ?_, ?_, hk, hb⟩
 · rw [h, a0c]; rfl
 · show Own _ _ _ _ _ _ (dig B32 0); rw [a0c]; exact Own.nil _ _ _ _
theorem pl_n (f : Fm) (n way : Int) (ng : Bool) (d : Nat) (pw : Int) (pp : Option Addr) (cc base u : Nat) (w : World) (U : Bt w u 182 #[.int .i64 n, .int .i64 way, .int .i64 f.g.rad, .int .i64 f.g.digs, .int .i64 f.g.lo, .int .i64 f.g.hi, .bool f.g.grad, .int .u8 (famB f), .int .i64 0]) (hp : Own w base .u32 141 pp cc (dig B32 d)) (ex un : Bool) :
 Calls Tryz.prog 166 #[.pointer (some ⟨u, 0, none⟩), .agg #[.bool ng, .slice pp (dig B32 d).length cc, .int .i64 pw, .bool ex, .bool false, .bool un]] w (j0d f n way (((f.placedM ⟨ng, d, pw, ex, false, un⟩ way).2 : Nat) : Int) u w base (f.placedV ⟨ng, d, pw, ex, false, un⟩ way)) := by
 have hV : f.placedV ⟨ng, d, pw, ex, false, un⟩ way = if un = true ∧ f.fam ≠ 1 ∧ pw < f.g.lo then ⟨1, false, 0, 0⟩ else if d = 0 then ⟨1, ng && decide (f.fam = 1), 0, 0⟩ else ⟨2, ng, d, pw⟩ := by unfold Fm.placedV; simp only [Bool.false_eq_true, if_false]
 have hM : (f.placedM ⟨ng, d, pw, ex, false, un⟩ way).2 = if un = true ∧ f.fam ≠ 1 ∧ pw < f.g.lo then 3 else f.flP ⟨ng, d, pw, ex, false, un⟩ := by
  unfold Fm.placedM; simp only [Bool.false_eq_true, if_false]
  split
  · rfl
  · split <;> rfl
 have hFL : f.flP ⟨ng, d, pw, ex, false, un⟩ = if un then (if f.fam = 1 then (if ex then 0 else 3) else 3) else if ex then 0 else 1 := rfl
 have hF1 : f.fam = 1 → (famB f != 65) = false := fun h => by unfold famB; rw [if_pos h]; rfl
 have hF2 : f.fam ≠ 1 → (famB f != 65) = true := fun h => by unfold famB; rw [if_neg h]; split <;> rfl
 have hB1 : (famB f != 65) = true → f.fam ≠ 1 := fun h k => by rw [hF1 k] at h; cases h
 have hB2 : (famB f != 65) = false → f.fam = 1 := fun h => Classical.byContradiction fun k => by rw [hF2 k] at h; cases h
 have hz := a0f a0b d
 have HR9 := fun W u hU => hi0 (c0t f n way 0 1 1 u W hU (by decide +kernel))
 have HR3 := fun k (hk : k = 0 ∨ k = 1) W u hU => hi0 (c0t f n way k 3 3 u W hU (by rcases hk with rfl | rfl <;> decide +kernel))
 have HR2 := fun k (hk : k = 1) W u hU => hi0 (c0t f n way k 2 3 u W hU (by subst hk; decide +kernel))
 have HZ := fun k W u hU => hi0 (c1p f n way k ng u W hU)
 rw [hFL] at hM
 generalize (f.placedM ⟨ng, d, pw, ex, false, un⟩ way).2 = FL at *
 generalize f.placedV ⟨ng, d, pw, ex, false, un⟩ way = v at *
 clear hFL
 generalize (ng && decide (f.fam = 1)) = q at *
 have I := Inv.startW w u 182 (uS f n way 0) [ownF base .u32 141 pp cc (dig B32 d)] U ⟨hp, True.intro⟩ ⟨fun hf => hp.far U (by kernel_rfl) hf.1 hf.2, True.intro⟩
 refine a0d [.p 0 0, .v (.agg #[.bool ng, .slice pp (dig B32 d).length cc, .int .i64 pw, .bool ex, .bool false, .bool un])] I Tryz.func166 ?_
 obtain ⟨ne, hne⟩ : ∃ ne, (!ex) = ne := ⟨_, rfl⟩
 refine zb I 7 (!ex) (ne) (hne) fun Al W I => ?_
 refine zcut I (some 2000007) (fun fr bx gs => ∃ (U1 : Nat → Value) (k1 : Int), fr = (.p 0 0 :: .v (.agg #[.bool ng, .slice pp (dig B32 d).length cc, .int .i64 pw, .bool ex, .bool false, .bool un]) :: .v undef :: .p 1 0 :: .p 2 0 :: sw U1 5 2 (.v (.bool ne) :: sw U1 8 2 (.v undef :: sw U1 11 6 (.v undef :: sw U1 18 18 (.v undef :: .v (U1 37) :: .v undef :: sw U1 39 12 (.v undef :: sw U1 52 11 []))))) : List SV) ∧ bx = [⟨182, (uS f n way k1), false⟩, ⟨87, [.v (.bool ng), .v (.slice pp (dig B32 d).length cc), .v (.int .i64 pw), .v (.bool ex), .v (.bool false), .v (.bool un)], false⟩, ⟨75, [.v (.int .i64 0), .v (.bool false), .v (.slice none 0 0), .v (.int .i64 0)], false⟩] ∧ gs = [ownF base .u32 141 pp cc (dig B32 d)] ∧ (k1 = if ex then 0 else 1)) ?_ ?_
 · intro J hJ Al W I
   rcases Bool.eq_false_or_eq_true ne with rfl | rfl
   · refine zge I 0 182 (fun Al W I => (HR9 W _ (I.box 0 182 _)).out) fun Al V Iv _ _ kz => ?_
     rintro _ W ⟨rfl, hO, hB⟩
     refine ⟨_, rfl, kz _ (uS f n way 1) _ hO hB fun I => ?_⟩
     exact a0y I J fun Al W U I => hJ _ _ _ _ _ ⟨U, 1, rfl, rfl, rfl, (by revert hne; cases ex <;> simp)⟩ (I.pick [0])
   exact a0y I J fun Al W U I => hJ _ _ _ _ _ ⟨U, 0, rfl, rfl, rfl, (by revert hne; cases ex <;> simp)⟩ (I.pick [0])
 rintro _ _ _ ⟨U1, k1, rfl, rfl, rfl, hk1⟩ Al W I
 refine zcut I (some 1000000) (fun fr bx gs => ∃ (U2 : Nat → Value) (k2 : Int), fr = (.p 0 0 :: .v (.agg #[.bool ng, .slice pp (dig B32 d).length cc, .int .i64 pw, .bool ex, .bool false, .bool un]) :: .v undef :: .p 1 0 :: .p 2 0 :: sw U2 5 2 (.v (.bool ne) :: sw U2 8 43 (.v undef :: sw U2 52 11 [])) : List SV) ∧ bx = [⟨182, (uS f n way k2), false⟩, ⟨87, [.v (.bool ng), .v (.slice pp (dig B32 d).length cc), .v (.int .i64 pw), .v (.bool ex), .v (.bool false), .v (.bool un)], false⟩, ⟨75, [.v (.int .i64 0), .v (.bool false), .v (.slice none 0 0), .v (.int .i64 0)], false⟩] ∧ gs = [ownF base .u32 141 pp cc (dig B32 d)] ∧ ((FL : Int) = k2) ∧ (¬ (un = true ∧ f.fam ≠ 1 ∧ pw < f.g.lo))) ?_ ?_
 · intro J hJ Al W I
   rcases Bool.eq_false_or_eq_true (un) with f19 | f19
   · refine zb I 19 (un) (true) (f19) fun Al W I => ?_
     rcases Bool.eq_false_or_eq_true ((famB f) != 65) with f25 | f25
     · refine zb I 25 ((famB f) != 65) (true) (f25) fun Al W I => ?_
       refine zge I 0 182 (fun Al W I => (HR3 k1 (by rw [hk1]; split <;> simp) W _ (I.box 0 182 _)).out) fun Al V Iv _ _ kz => ?_
       rintro _ W ⟨rfl, hO, hB⟩
       refine ⟨_, rfl, kz _ (uS f n way 3) _ hO hB fun I => ?_⟩
       by_cases f36 : pw < f.g.lo
       · refine zd [] I fun Al W I => ?_
         refine zk [0, 1, 2, 3, 4, 5, 6] I fun I => ?_
         refine zkb 7 I (decide (pw < f.g.lo)) (true) (dTr f36) fun I => ?_
         refine zret I (v := fun Al => .agg #[.int .i64 1, .bool false, .slice none 0 0, .int .i64 0]) fun Al W I => ?_
         first | (rw [hV, hM, if_pos ⟨f19, hB1 f25, f36⟩, if_pos ⟨f19, hB1 f25, f36⟩]; exact f0r (k := 1) rfl I.bel (I.boxE 182 _)) | (rw [hV, hk2, if_neg hlo, if_neg (fun h => by have := hz.2 h; have := bnF f51; omega)]; exact ⟨pp, cc, rfl, I.fa.1, I.bel, I.boxE 182 _⟩)
       refine zd [] I fun Al W I => ?_
       refine zk [0, 1, 2, 3, 4, 5, 6] I fun I => ?_
       refine zkb 7 I (decide (pw < f.g.lo)) (false) (dFa f36) fun I => ?_
       exact a0y I J fun Al W U I => hJ _ _ _ _ _ ⟨U, 3, rfl, rfl, rfl, (by have h1 := hB1 f25; rw [hM, if_neg (fun h => f36 h.2.2), if_pos f19, if_neg h1]; rfl), (fun h => f36 h.2.2)⟩ (I.pick [0])
     refine zb I 25 ((famB f) != 65) (false) (f25) fun Al W I => ?_
     refine zb I 40 (un) (true) (f19) fun Al W I => ?_
     rcases Bool.eq_false_or_eq_true (!ex) with f44 | f44
     · refine zb I 44 (!ex) (true) (f44) fun Al W I => ?_
       refine zge I 0 182 (fun Al W I => (HR2 k1 (by rw [hk1]; revert f44; cases ex <;> simp) W _ (I.box 0 182 _)).out) fun Al V Iv _ _ kz => ?_
       rintro _ W ⟨rfl, hO, hB⟩
       refine ⟨_, rfl, kz _ (uS f n way 3) _ hO hB fun I => ?_⟩
       exact a0y I J fun Al W U I => hJ _ _ _ _ _ ⟨U, 3, rfl, rfl, rfl, (by have h1 := hB2 f25; rw [hM, if_neg (fun h => h.2.1 h1), if_pos f19, if_pos h1]; revert f44; cases ex <;> simp), (fun h => by have h1 := hB2 f25; exact h.2.1 h1)⟩ (I.pick [0])
     refine zb I 44 (!ex) (false) (f44) fun Al W I => ?_
     exact a0y I J fun Al W U I => hJ _ _ _ _ _ ⟨U, k1, rfl, rfl, rfl, (by have h1 := hB2 f25; rw [hM, if_neg (fun h => h.2.1 h1), if_pos f19, if_pos h1, hk1]; revert f44; cases ex <;> simp), (fun h => by have h1 := hB2 f25; exact h.2.1 h1)⟩ (I.pick [0])
   refine zb I 19 (un) (false) (f19) fun Al W I => ?_
   refine zb I 40 (un) (false) (f19) fun Al W I => ?_
   exact a0y I J fun Al W U I => hJ _ _ _ _ _ ⟨U, k1, rfl, rfl, rfl, (by rw [hM, if_neg (fun h => by rw [f19] at h; cases h.1), if_neg (by rw [f19]; simp), hk1]; split <;> rfl), (fun h => by rw [f19] at h; cases h.1)⟩ (I.pick [0])
 rintro _ _ _ ⟨U2, k2, rfl, rfl, rfl, hk2, hlo⟩ Al W I
 rcases Bool.eq_false_or_eq_true ((((dig B32 d).length : Nat) : Int) == 0) with f51 | f51
 · refine zb I 51 ((((dig B32 d).length : Nat) : Int) == 0) (true) (f51) fun Al W I => ?_
   refine zq I (fun Al W I => (HZ k2 W _ (I.box 0 182 _)).out) fun Al W I => ?_
   rw [hV, hk2, if_neg hlo, if_pos (hz.1 (by have := beq_iff_eq.1 f51; omega))]
   exact zret I fun Al W I => f0r (k := 1) rfl I.bel (I.boxE 182 _)
 refine zb I 51 ((((dig B32 d).length : Nat) : Int) == 0) (false) (f51) fun Al W I => ?_
 refine zret I (v := fun Al => .agg #[.int .i64 2, .bool ng, .slice pp (dig B32 d).length cc, .int .i64 pw]) fun Al W I => ?_
 first | (rw [hV, hM, if_pos ⟨f19, hB1 f25, f36⟩, if_pos ⟨f19, hB1 f25, f36⟩]; exact f0r (k := 1) rfl I.bel (I.boxE 182 _)) | (rw [hV, hk2, if_neg hlo, if_neg (fun h => by have := hz.2 h; have := bnF f51; omega)]; exact ⟨pp, cc, rfl, I.fa.1, I.bel, I.boxE 182 _⟩)
theorem m1m (f : Fm) (n way : Int) (p : Pl) (pp : Option Addr) (cc base u : Nat) (w : World) (U : Bt w u 182 #[.int .i64 n, .int .i64 way, .int .i64 f.g.rad, .int .i64 f.g.digs, .int .i64 f.g.lo, .int .i64 f.g.hi, .bool f.g.grad, .int .u8 (famB f), .int .i64 0]) (hb : base ≤ w.heap.size) (G : c0e f) (hw : 1 ≤ way ∧ way ≤ 5) (ho : p.over = true) :
 Calls Tryz.prog 166 #[.pointer (some ⟨u, 0, none⟩), .agg #[.bool p.neg, .slice pp (dig B32 p.d).length cc, .int .i64 p.pow, .bool true, .bool true, .bool p.under]] w (j0d f n way 5 u w base (f.placedV p way)) := by
 have HO := fun W u hU => hi0 (g1o f n way 0 5 p u W hU G (by decide +kernel) hw ho)
 generalize f.placedV p way = v at *
 have I := Inv.startW w u 182 (uS f n way 0) [] U True.intro True.intro
 refine a0d [.p 0 0, .v (.agg #[.bool p.neg, .slice pp (dig B32 p.d).length cc, .int .i64 p.pow, .bool true, .bool true, .bool p.under])] I Tryz.func166 ?_
 refine zge I 0 182 (fun Al W I => (HO W _ (I.box 0 182 _)).out) fun Al V Iv _ _ kz => ?_
 rintro _ W ⟨p16, c16, rfl, o16, hO, hB⟩
 refine ⟨_, rfl, kz _ (uS f n way 5) _ hO hB fun I => ?_⟩
 have I := I.ownB base o16
 exact zret I fun Al W I => ⟨p16, c16, rfl, I.fa.1, I.bel, I.boxE 182 _⟩
theorem m1n (f : Fm) (n way : Int) (p : Pl) (pp : Option Addr) (cc base u : Nat) (w : World) (U : Bt w u 182 #[.int .i64 n, .int .i64 way, .int .i64 f.g.rad, .int .i64 f.g.digs, .int .i64 f.g.lo, .int .i64 f.g.hi, .bool f.g.grad, .int .u8 (famB f), .int .i64 0]) (hb : base ≤ w.heap.size) (G : c0e f) (hw : 1 ≤ way ∧ way ≤ 5) (ho : p.over = true) :
 Calls Tryz.prog 166 #[.pointer (some ⟨u, 0, none⟩), .agg #[.bool p.neg, .slice pp (dig B32 p.d).length cc, .int .i64 p.pow, .bool false, .bool true, .bool p.under]] w (j0d f n way 5 u w base (f.placedV p way)) := by
 have HO := fun W u hU => hi0 (g1o f n way 1 5 p u W hU G (by decide +kernel) hw ho)
 have HR := fun W u hU => hi0 (c0t f n way 0 1 1 u W hU (by decide +kernel))
 generalize f.placedV p way = v at *
 have I := Inv.startW w u 182 (uS f n way 0) [] U True.intro True.intro
 refine a0d [.p 0 0, .v (.agg #[.bool p.neg, .slice pp (dig B32 p.d).length cc, .int .i64 p.pow, .bool false, .bool true, .bool p.under])] I Tryz.func166 ?_
 refine zge I 0 182 (fun Al W I => (HR W _ (I.box 0 182 _)).out) fun Al V Iv _ _ kz => ?_
 rintro _ W ⟨rfl, hO, hB⟩
 refine ⟨_, rfl, kz _ (uS f n way 1) _ hO hB fun I => ?_⟩
 refine zge I 0 182 (fun Al W I => (HO W _ (I.box 0 182 _)).out) fun Al V Iv _ _ kz => ?_
 rintro _ W ⟨p16, c16, rfl, o16, hO, hB⟩
 refine ⟨_, rfl, kz _ (uS f n way 5) _ hO hB fun I => ?_⟩
 have I := I.ownB base o16
 exact zret I fun Al W I => ⟨p16, c16, rfl, I.fa.1, I.bel, I.boxE 182 _⟩
theorem i1u (f : Fm) (n way : Int) (p : Pl) (pp : Option Addr) (cc base u : Nat) (w : World) (U : Bt w u 182 #[.int .i64 n, .int .i64 way, .int .i64 f.g.rad, .int .i64 f.g.digs, .int .i64 f.g.lo, .int .i64 f.g.hi, .bool f.g.grad, .int .u8 (famB f), .int .i64 0]) (hp : Own w base .u32 141 pp cc (dig B32 p.d)) (hb : base ≤ w.heap.size) (G : c0e f) (hw : 1 ≤ way ∧ way ≤ 5) :
 Calls Tryz.prog 166 #[.pointer (some ⟨u, 0, none⟩), .agg #[.bool p.neg, .slice pp (dig B32 p.d).length cc, .int .i64 p.pow, .bool p.exact, .bool p.over, .bool p.under]] w (j0d f n way (((f.placedM p way).2 : Nat) : Int) u w base (f.placedV p way)) := by
 obtain ⟨ng, d, pw, ex, ov, un⟩ := p
 cases ov with
 | true =>
  have e : (f.placedM ⟨ng, d, pw, ex, true, un⟩ way).2 = 5 := by unfold Fm.placedM; rw [if_pos rfl]
  rw [e]
  cases ex
  · exact m1n f n way ⟨ng, d, pw, false, true, un⟩ pp cc base u w U hb G hw rfl
  · exact m1m f n way ⟨ng, d, pw, true, true, un⟩ pp cc base u w U hb G hw rfl
 | false =>
  exact pl_n f n way ng d pw pp cc base u w U hp ex un
theorem t0g (ng : Bool) (p q : Option Addr) (c d : Nat) (num den : Nat) (e : Int) (g : Gd) (way : Int) (w : World) (hp : Rd w .u32 p (dig B32 num)) (hq : Rd w .u32 q (dig B32 den))
 (hl : (dig B32 num).length ≤ 100000) (hl2 : (dig B32 den).length ≤ 100000) (hn : 0 < num) (hd : 0 < den) (he : -1000000 ≤ e ∧ e ≤ 1000000) (G : h0g g) (hw1 : 1 ≤ way) (hw2 : way ≤ 5) :
 Calls Tryz.prog 72 #[.agg #[.bool ng, .slice p (dig B32 num).length c, .slice q (dig B32 den).length d, .int .i64 e], .agg #[.int .i64 g.rad, .int .i64 g.digs, .int .i64 g.lo, .int .i64 g.hi, .bool g.grad], .int .i64 way] w (w0m w (a0l ng num den e g way)) := by
 have h := u0t ng p q c d num den e g way (theK num den e (wid g) g.digs.toNat) w hp hq hl hl2 hn hd he G hw1 hw2 (m0k hn hd e (b0c g).1 (by have := G.d1; omega))
 unfold a0l
 rw [if_neg (by omega)]
 exact h
theorem m1o (f : Fm) (n way : Int) (ng : Bool) (p q : Option Addr) (c d : Nat) (num den : Nat) (e : Int) (u : Nat) (w : World) (U : Bt w u 182 #[.int .i64 n, .int .i64 way, .int .i64 f.g.rad, .int .i64 f.g.digs, .int .i64 f.g.lo, .int .i64 f.g.hi, .bool f.g.grad, .int .u8 (famB f), .int .i64 0]) (hp : Rd w .u32 p (dig B32 num)) (hq : Rd w .u32 q (dig B32 den))
 (hl : (dig B32 num).length ≤ 100000) (hl2 : (dig B32 den).length ≤ 100000) (hn : 0 < num) (hd : 0 < den) (he : -1000000 ≤ e ∧ e ≤ 1000000) (G : c0e f) (hw : 1 ≤ way ∧ way ≤ 5) :
 Calls Tryz.prog 122 #[.pointer (some ⟨u, 0, none⟩), .agg #[.bool ng, .slice p (dig B32 num).length c, .slice q (dig B32 den).length d, .int .i64 e]] w
  (l0l f n way (((f.placedM (a0l ng num den e f.g way) way).2 : Nat) : Int) u w (f.placedV (a0l ng num den e f.g way) way)) := by
 have GG := b0r G.g
 have HF := fun W h1 h2 => hi0 (t0g ng p q c d num den e f.g way W h1 h2 hl hl2 hn hd he GG hw.1 hw.2)
 have HP := fun pp cc base u W U h1 h2 => hi0 (i1u f n way (a0l ng num den e f.g way) pp cc base u W U h1 h2 G hw)
 have hR := v0a (neg := ng) (num := num) (e := e) (way := way) hd GG
 generalize (f.placedM (a0l ng num den e f.g way) way).2 = fl at *
 generalize f.placedV (a0l ng num den e f.g way) way = v at *
 generalize a0l ng num den e f.g way = P at *
 have I := Inv.startW w u 182 (uS f n way 0) [rdF .u32 p (dig B32 num), rdF .u32 q (dig B32 den)] U ⟨hp, hq, True.intro⟩ ⟨fun hf => hp.far U (by kernel_rfl) hf.1 hf.2, fun hf => hq.far U (by kernel_rfl) hf.1 hf.2, True.intro⟩
 refine a0d [.p 0 0, .v (.agg #[.bool ng, .slice p (dig B32 num).length c, .slice q (dig B32 den).length d, .int .i64 e])] I Tryz.func122 ?_
 refine zcut I none (fun fr bx gs => ∃ (U1 : Nat → Value) (p16 : Option Addr) (c16 : Nat), fr = (.p 0 0 :: .v (.agg #[.bool ng, .slice p (dig B32 num).length c, .slice q (dig B32 den).length d, .int .i64 e]) :: .v undef :: .p 1 0 :: .p 2 0 :: sw U1 5 12 [] : List SV) ∧ bx = [⟨182, (uS f n way (fl : Int)), false⟩, ⟨122, [.v (.bool ng), .v (.slice p (dig B32 num).length c), .v (.slice q (dig B32 den).length d), .v (.int .i64 e)], false⟩, ⟨75, [.v (.int .i64 (v.cls : Int)), .v (.bool v.neg), .v (.slice p16 (dig B32 v.d).length c16), .v (.int .i64 v.pow)], false⟩] ∧ gs = [ownF w.heap.size .u32 141 p16 c16 (dig B32 v.d), rdF .u32 p (dig B32 num), rdF .u32 q (dig B32 den)]) ?_ ?_
 · intro J hJ Al W I
   refine zd [0, 2] I fun Al W I => ?_
   refine zk [0, 1, 2, 3, 4, 6, 7, 8] I fun I => ?_
   refine zo2 5 9 I (fun I => ?_) (fun I => ?_)
   · refine zn I fun Al W I => ?_
     refine zo 9 I fun I => ?_
     refine zn I fun Al W I => ?_
     refine zo 10 I fun I => ?_
     refine zqo I (fun Al W I => (HF W I.fa.1 I.fa.2.1).out) fun Al W p15 c15 I => ?_
     refine zo 11 I fun I => ?_
     refine zge I 0 182 (fun Al W I => have hzW := I.bel.size; (HP p15 c15 _ _ W (I.box 0 182 _) I.fa.1 (by omega)).out) fun Al V Iv _ _ kz => ?_
     rintro _ W ⟨p16, c16, rfl, o16, hO, hB⟩
     refine ⟨_, rfl, kz _ (uS f n way (fl : Int)) _ hO hB fun I => ?_⟩
     have I := I.own o16
     refine zo 12 I fun I => ?_
     refine zn I fun Al W I => ?_
     exact a0y I J fun Al W U I => hJ _ _ _ _ _ ⟨U, p16, c16, rfl, rfl, rfl⟩ (I.pick [0, 2, 3])
   refine zn I fun Al W I => ?_
   refine zo 5 I fun I => ?_
   refine zn I fun Al W I => ?_
   refine zo 10 I fun I => ?_
   refine zqo I (fun Al W I => (HF W I.fa.1 I.fa.2.1).out) fun Al W p15 c15 I => ?_
   refine zo 11 I fun I => ?_
   refine zge I 0 182 (fun Al W I => have hzW := I.bel.size; (HP p15 c15 _ _ W (I.box 0 182 _) I.fa.1 (by omega)).out) fun Al V Iv _ _ kz => ?_
   rintro _ W ⟨p16, c16, rfl, o16, hO, hB⟩
   refine ⟨_, rfl, kz _ (uS f n way (fl : Int)) _ hO hB fun I => ?_⟩
   have I := I.own o16
   refine zo 12 I fun I => ?_
   refine zn I fun Al W I => ?_
   exact a0y I J fun Al W U I => hJ _ _ _ _ _ ⟨U, p16, c16, rfl, rfl, rfl⟩ (I.pick [0, 2, 3])
 rintro _ _ _ ⟨U1, p16, c16, rfl, rfl, rfl⟩ Al W I
 exact zret I fun Al W I => ⟨p16, c16, rfl, I.fa.1, I.bel, I.boxE 182 _⟩
structure VrOk (r : Vr) : Prop where
 c : 1 ≤ r.cls ∧ r.cls ≤ 5
 x0 : r.cls ≠ 2 → r.x = vz
 x2 : r.cls = 2 → r.x.m ≠ 0 ∧ r.x.neg = r.neg
 bare : Bare r.x
 len : (dig B32 r.x.m).length ≤ 20
 lo : -18000 ≤ r.x.e
 hi : r.x.e ≤ 18000
def j0e (f : Fm) (n way : Int) (u : Nat) (w : World) (base : Nat) (r : Vr × Nat) (en : Ending) (w' : World) : Prop :=
 ∃ v, VRep f v r.1 ∧ j0d f n way ((r.2 : Nat) : Int) u w base v en w'
theorem d0k {f : Fm} {n way : Int} {u k fl base : Nat} {g : Bool} {x : Dv} {w w' : World} {en : Ending} (hk2 : k ≠ 2) (h : en = .returned (.agg #[.int .i64 (k : Int), .bool g, .slice none 0 0, .int .i64 0])) (hk : Kp [u] w w') (hb : Bt w' u 182 #[.int .i64 n, .int .i64 way, .int .i64 f.g.rad, .int .i64 f.g.digs, .int .i64 f.g.lo, .int .i64 f.g.hi, .bool f.g.grad, .int .u8 (famB f), .int .i64 (fl : Int)]) : j0e f n way u w base (⟨k, g, x⟩, fl) en w' :=
 ⟨⟨k, g, 0, 0⟩, g0o hk2, f0r h hk hb⟩
theorem j0e.mono {f : Fm} {n way : Int} {u base b' : Nat} {w w' : World} {r : Vr × Nat} {en : Ending} (h : j0e f n way u w base r en w') (hb : b' ≤ base) : j0e f n way u w b' r en w' := by
 obtain ⟨v, h1, p, k, h2, h3, h4, h5⟩ := h
 exact ⟨v, h1, p, k, h2, h3.mono hb, h4, h5⟩
theorem w0v (f : Fm) (n way : Int) (x : Dv) (p : Option Addr) (c u : Nat) (w : World) (U : Bt w u 182 #[.int .i64 n, .int .i64 way, .int .i64 f.g.rad, .int .i64 f.g.digs, .int .i64 f.g.lo, .int .i64 f.g.hi, .bool f.g.grad, .int .u8 (famB f), .int .i64 0]) (hp : Rd w .u32 p (dig B32 x.m))
 (hl : (dig B32 x.m).length ≤ 100000) (he : -1000000 ≤ x.e ∧ x.e ≤ 1000000) (G : c0e f) (hw : 1 ≤ way ∧ way ≤ 5) :
 Calls Tryz.prog 69 #[.pointer (some ⟨u, 0, none⟩), .agg #[.bool x.neg, .slice p (dig B32 x.m).length c, .int .i64 x.e]] w (j0e f n way u w w.heap.size (f.numM x way)) := by
 have hs : g0g ⟨x.neg, x.m, x.e⟩ = g0g x := rfl
 have HS := fun W => hi0 (e0i x.neg p _ c x.e x.m W rfl)
 rw [hs] at HS
 have h0 := a1h x
 by_cases hx : x.m = 0
 · have hn : f.numM x way = (⟨1, false, vz⟩, 0) := by unfold Fm.numM Fm.zeroM; rw [if_pos hx]; simp
   rw [hn]
   have HZ := fun W u hU => hi0 (c1p f n way 0 false u W hU)
   rw [Bool.false_and] at HZ
   have hd := h0.2 hx
   generalize g0g x = sx at *
   have I := Inv.startW w u 182 (uS f n way 0) [rdF .u32 p (dig B32 x.m)] U ⟨hp, True.intro⟩ ⟨fun hf => hp.far U (by kernel_rfl) hf.1 hf.2, True.intro⟩
   refine a0d [.p 0 0, .v (.agg #[.bool x.neg, .slice p (dig B32 x.m).length c, .int .i64 x.e])] I Tryz.func69 ?_
   refine zq I (fun Al W I => (HS W).out) fun Al W I => ?_
   refine zb I 7 (sx == 0) (true) (beq_iff_eq.2 hd) fun Al W I => ?_
   refine zq I (fun Al W I => (HZ W _ (I.box 0 182 _)).out) fun Al W I => ?_
   exact zret I fun Al W I => d0k (k := 1) (by decide) rfl I.bel (I.boxE 182 _)
 · have hn : f.numM x way = f.placedM (a0l x.neg x.m 1 x.e f.g way) way := by unfold Fm.numM; rw [if_neg hx]
   rw [hn]
   have hd : g0g x ≠ 0 := fun h => hx (h0.1 h)
   have l1 : (dig B32 1).length ≤ 1 := by rw [a0g a0b]; unfold B32; omega
   have HF := fun p q c d u W U h1 h2 => hi0 (m1o f n way x.neg p q c d x.m 1 x.e u W U h1 h2 hl (by omega) (by omega) (by omega) he G hw)
   have HV := (l0b G (neg := x.neg) (num := x.m) (den := 1) (e := x.e) (way := way) (by omega)).2
   have hm : f.placedM (a0l x.neg x.m 1 x.e f.g way) way = ((f.placedM (a0l x.neg x.m 1 x.e f.g way) way).1, (f.placedM (a0l x.neg x.m 1 x.e f.g way) way).2) := rfl
   rw [hm]
   generalize (f.placedM (a0l x.neg x.m 1 x.e f.g way) way).1 = r at *
   generalize (f.placedM (a0l x.neg x.m 1 x.e f.g way) way).2 = fl at *
   generalize f.placedV (a0l x.neg x.m 1 x.e f.g way) way = v at *
   generalize g0g x = sx at *
   have I := Inv.startW w u 182 (uS f n way 0) [rdF .u32 p (dig B32 x.m)] U ⟨hp, True.intro⟩ ⟨fun hf => hp.far U (by kernel_rfl) hf.1 hf.2, True.intro⟩
   refine a0d [.p 0 0, .v (.agg #[.bool x.neg, .slice p (dig B32 x.m).length c, .int .i64 x.e])] I Tryz.func69 ?_
   refine zq I (fun Al W I => (HS W).out) fun Al W I => ?_
   refine zb I 7 (sx == 0) (false) (bFn hd) fun Al W I => ?_
   refine zd [0, 2] I fun Al W I => ?_
   refine zk [0, 1, 2, 3, 4, 5, 6, 8, 9, 10] I fun I => ?_
   refine zo 7 I fun I => ?_
   refine zqo I (fun Al W I => have hzW := I.bel.size; sof 1 1 rfl (by omega) W) fun Al W p17 c17 I => ?_
   refine zk [11] I fun I => ?_
   refine zo 12 I fun I => ?_
   refine zge I 0 182 (fun Al W I => (HF p p17 c c17 _ W (I.box 0 182 _) I.fa.2.1 I.fa.1.rd).out) fun Al V Iv _ _ kz => ?_
   rintro _ W ⟨p22, c22, rfl, o22, hO, hB⟩
   refine ⟨_, rfl, kz _ (uS f n way (fl : Int)) _ hO hB fun I => ?_⟩
   have I := I.own o22
   refine zo 13 I fun I => ?_
   refine zn I fun Al W I => ?_
   exact zret I fun Al W I => ⟨v, HV, p22, c22, rfl, I.fa.1.mono (by omega), I.bel, I.boxE 182 _⟩
structure Vp where
 v : Vl
 p : Option Addr
 c : Nat
def Vp.cells (x : Vp) : List Value := [.int .i64 (x.v.cls : Int), .bool x.v.neg, .slice x.p (dig B32 x.v.d).length x.c, .int .i64 x.v.pow]
theorem Vp.len (x : Vp) : x.cells.length = 4 := rfl
theorem t0h (x y : Dv) (p q : Option Addr) (c d base : Nat) (w : World) (hx : Bare x) (hy : Bare y) (sx : SmD x) (sy : SmD y) (hp : Own w base .u32 141 p c (dig B32 x.m)) (hq : Own w base .u32 141 q d (dig B32 y.m)) (hT : TabW w) (hb : base ≤ w.heap.size) :
 Calls Tryz.prog 66 #[.agg #[.bool x.neg, .slice p (dig B32 x.m).length c, .int .i64 x.e], .agg #[.bool y.neg, .slice q (dig B32 y.m).length d, .int .i64 y.e]] w (g0i w base (f0e x y)) := by
 have h1 := sx.len
 have h2 := sy.len
 have h3 := sx.lo
 have h4 := sx.hi
 have h5 := sy.lo
 have h6 := sy.hi
 have := z0i x.neg y.neg p q _ c _ d base x.e y.e x.m y.m w hp hq rfl rfl (by omega) (by omega) (by omega) (by omega) hT hb
 rw [show (⟨x.neg, x.m, x.e⟩ : Dv) = x from rfl, show (⟨y.neg, y.m, y.e⟩ : Dv) = y from rfl, d1f hx hy] at this
 exact this
theorem VrOk.sm {r : Vr} (R : VrOk r) : SmD r.x := ⟨by have := R.len; omega, by have := R.lo; omega, by have := R.hi; omega⟩
theorem i1v (f : Fm) (n way : Int) (u : Nat) (w : World) (U : Bt w u 182 #[.int .i64 n, .int .i64 way, .int .i64 f.g.rad, .int .i64 f.g.digs, .int .i64 f.g.lo, .int .i64 f.g.hi, .bool f.g.grad, .int .u8 (famB f), .int .i64 0]) :
 Calls Tryz.prog 117 #[.pointer (some ⟨u, 0, none⟩), .int .i64 16] w fun en w' => en = .returned (.agg #[.int .i64 (f.nothM.cls : Int), .bool false, .slice none 0 0, .int .i64 0]) ∧ Kp [u] w w' ∧ Bt w' u 182 #[.int .i64 n, .int .i64 way, .int .i64 f.g.rad, .int .i64 f.g.digs, .int .i64 f.g.lo, .int .i64 f.g.hi, .bool f.g.grad, .int .u8 (famB f), .int .i64 16] := by
 have HR := fun W u hU => hi0 (c0t f n way 0 16 16 u W hU (by decide +kernel))
 have HN := fun W u hU => hi0 (n0r f n way 16 u W hU)
 generalize f.nothM.cls = k at *
 have I := Inv.startW w u 182 (uS f n way 0) [] U True.intro True.intro
 refine a0d [.p 0 0, .v (.int .i64 16)] I Tryz.func117 ?_
 refine zge I 0 182 (fun Al W I => (HR W _ (I.box 0 182 _)).out) fun Al V Iv _ _ kz => ?_
 rintro _ W ⟨rfl, hO, hB⟩
 refine ⟨_, rfl, kz _ (uS f n way 16) _ hO hB fun I => ?_⟩
 refine zq I (fun Al W I => (HN W _ (I.box 0 182 _)).out) fun Al W I => ?_
 exact zret I fun Al W I => ⟨rfl, I.bel, I.boxE 182 _⟩
def two (a b : Vp) : List Vp := [a, b]
theorem t0i (n : Int) (w : World) : Calls Tryz.prog 43 #[.int .i64 n] w fun en w' => en = .returned (.tuple #[.agg #[.int .i64 (fmt n).g.rad, .int .i64 (fmt n).g.digs, .int .i64 (fmt n).g.lo, .int .i64 (fmt n).g.hi, .bool (fmt n).g.grad], .int .i64 (d0f n)]) ∧ Below w.heap.size w w' := by
 by_cases hn : IsFm n
 · have h0 : d0f n = 0 := by unfold d0f; rw [if_pos hn]
   rw [h0]
   have HF := fun W => hi0 (g0m n hn W)
   generalize fmt n = f at *
   have I := Inv.start w [] True.intro
   refine a0d [.v (.int .i64 n)] I Tryz.func43 ?_
   refine zq I (fun Al W I => (HF W).out) fun Al W I => ?_
   exact zrb I
 · have h0 : d0f n = 6 := by unfold d0f; rw [if_neg hn]
   rw [h0, q0v hn]
   have HF := fun W => hi0 (h0t n hn W)
   have I := Inv.start w [] True.intro
   refine a0d [.v (.int .i64 n)] I Tryz.func43 ?_
   refine zq I (fun Al W I => (HF W).out) fun Al W I => ?_
   exact zrb I
theorem r0h (n way : Int) (w : World) (h : ¬ (IsFm n ∧ 1 ≤ way ∧ way ≤ 5)) : Calls Tryz.prog 63 #[.int .i64 n, .int .i64 way] w fun en w' => en = .returned (.tuple #[.pointer none, .int .i64 6]) ∧ Below w.heap.size w w' := by
 have HG := fun W => hi0 (t0i n W)
 by_cases hn : IsFm n
 · have he : d0f n = 0 := by unfold d0f; rw [if_pos hn]
   have h' : way < 1 ∨ 5 < way := by by_cases k : 1 ≤ way ∧ way ≤ 5; exact absurd ⟨hn, k⟩ h; omega
   rw [he] at HG
   generalize fmt n = f at *
   have I := Inv.start w [] True.intro
   refine a0d [.v (.int .i64 n), .v (.int .i64 way)] I Tryz.func63 ?_
   refine zq I (fun Al W I => (HG W).out) fun Al W I => ?_
   by_cases h1 : way < 1
   · refine zb I 18 (decide (way < 1)) (true) (dTr h1) fun Al W I => ?_
     exact zrb I
   refine zb I 18 (decide (way < 1)) (false) (dFa h1) fun Al W I => ?_
   refine zb I 21 (decide (way > 5)) (true) (dTr (by omega)) fun Al W I => ?_
   exact zrb I
 · have he : d0f n = 6 := by unfold d0f; rw [if_neg hn]
   rw [he] at HG
   generalize fmt n = f at *
   have I := Inv.start w [] True.intro
   refine a0d [.v (.int .i64 n), .v (.int .i64 way)] I Tryz.func63 ?_
   refine zq I (fun Al W I => (HG W).out) fun Al W I => ?_
   exact zrb I
def n0s (f : Fm) (n way : Int) (w : World) (en : Ending) (w' : World) : Prop :=
 ∃ u, en = .returned (.tuple #[.pointer (some ⟨u, 0, none⟩), .int .i64 0]) ∧ w.heap.size ≤ u ∧ Bt w' u 182 #[.int .i64 n, .int .i64 way, .int .i64 f.g.rad, .int .i64 f.g.digs, .int .i64 f.g.lo, .int .i64 f.g.hi, .bool f.g.grad, .int .u8 (famB f), .int .i64 0] ∧ Below w.heap.size w w'
theorem v0f (n way : Int) (w : World) (hn : IsFm n) (hw : 1 ≤ way ∧ way ≤ 5) : Calls Tryz.prog 63 #[.int .i64 n, .int .i64 way] w (n0s (fmt n) n way w) := by
 have HG := fun W => hi0 (t0i n W)
 have he : d0f n = 0 := by unfold d0f; rw [if_pos hn]
 rw [he] at HG
 have G := b0s hn
 generalize fmt n = f at *
 have hrad := G.rad
 have hgr := G.grad
 by_cases f2 : f.fam = 2
 · have hBf : famB f = 66 := by unfold famB; rw [if_neg (by omega), if_pos f2]
   rw [if_pos f2] at hrad
   have I := Inv.start w [] True.intro
   refine a0d [.v (.int .i64 n), .v (.int .i64 way)] I Tryz.func63 ?_
   refine zq I (fun Al W I => (HG W).out) fun Al W I => ?_
   refine zb I 18 (decide (way < 1)) (false) (dFa (by omega)) fun Al W I => ?_
   refine zb I 21 (decide (way > 5)) (false) (dFa (by omega)) fun Al W I => ?_
   refine zb I 31 (f.g.rad == 16) (true) (beq_iff_eq.2 hrad) fun Al W I => ?_
   exact zret I (v := fun Al => .tuple #[.pointer (some ⟨(lk 0 Al 1), 0, none⟩), .int .i64 0]) fun Al W I => ⟨_, rfl, (I.geB 1), by rw [hBf]; exact (I.box 1 182 _), I.below⟩
 · rw [if_neg f2] at hrad
   by_cases f1 : f.fam = 1
   · have hBf : famB f = 65 := by unfold famB; rw [if_pos f1]
     rw [decide_eq_true f1] at hgr
     unfold n0s
     rw [hBf, hgr]
     simp only [hgr] at HG
     have I := Inv.start w [] True.intro
     refine a0d [.v (.int .i64 n), .v (.int .i64 way)] I Tryz.func63 ?_
     refine zq I (fun Al W I => (HG W).out) fun Al W I => ?_
     refine zb I 18 (decide (way < 1)) (false) (dFa (by omega)) fun Al W I => ?_
     refine zb I 21 (decide (way > 5)) (false) (dFa (by omega)) fun Al W I => ?_
     refine zb I 31 (f.g.rad == 16) (false) (bFn (by omega)) fun Al W I => ?_
     exact zret I fun Al W I => ⟨_, rfl, (I.geB 1), (I.box 1 182 _), I.below⟩
   · have hBf : famB f = 67 := by unfold famB; rw [if_neg f1, if_neg f2]
     rw [decide_eq_false f1] at hgr
     unfold n0s
     rw [hBf, hgr]
     simp only [hgr] at HG
     have I := Inv.start w [] True.intro
     refine a0d [.v (.int .i64 n), .v (.int .i64 way)] I Tryz.func63 ?_
     refine zq I (fun Al W I => (HG W).out) fun Al W I => ?_
     refine zb I 18 (decide (way < 1)) (false) (dFa (by omega)) fun Al W I => ?_
     refine zb I 21 (decide (way > 5)) (false) (dFa (by omega)) fun Al W I => ?_
     refine zb I 31 (f.g.rad == 16) (false) (bFn (by omega)) fun Al W I => ?_
     exact zret I fun Al W I => ⟨_, rfl, (I.geB 1), (I.box 1 182 _), I.below⟩
theorem g1p (n way fl : Int) (a : Vp) (r : Vr) (base u : Nat) (w : World) (U : Bt w u 182 #[.int .i64 n, .int .i64 way, .int .i64 (fmt n).g.rad, .int .i64 (fmt n).g.digs, .int .i64 (fmt n).g.lo, .int .i64 (fmt n).g.hi, .bool (fmt n).g.grad, .int .u8 (famB (fmt n)), .int .i64 fl]) (oa : Own w base .u32 141 a.p a.c (dig B32 a.v.d)) (hn : IsFm n) (V : VRep (fmt n) a.v r) (R : ResF (fmt n) r) (hT : TabW w) :
 Calls Tryz.prog 68 #[.pointer (some ⟨u, 0, none⟩), .agg #[.int .i64 (a.v.cls : Int), .bool a.v.neg, .slice a.p (dig B32 a.v.d).length a.c, .int .i64 a.v.pow]] w fun en w' => en = .returned (.tuple #[.string (b0k ((fmt n).strP ((fmt n).encP r.cls r.neg r.x))), .int .i64 fl, .int .i64 0]) ∧ Below w.heap.size w w' := by
 have HE := fun W (h1 : Own W base .u32 141 a.p a.c (dig B32 a.v.d)) h2 => hi0 (y0e n (a.v.cls : Int) (dinV a.v a.p a.c) W (i1r h1 V.len) h2)
 obtain ⟨e1, e2⟩ := l1g R V a.p a.c
 unfold v0d t0c at HE
 rw [if_pos hn, e1, e2] at HE
 simp only [if_true] at HE
 have HE2 : ∀ W, Own W base .u32 141 a.p a.c (dig B32 a.v.d) → TabW W → Hid (Calls Tryz.prog 42 #[.int .i64 n, .agg #[.int .i64 (a.v.cls : Int), .bool a.v.neg, .slice a.p (dig B32 a.v.d).length a.c, .int .i64 a.v.pow]] W fun en w' => en = .returned (.tuple #[.string (b0k ((fmt n).strP ((fmt n).encP r.cls r.neg r.x))), .int .i64 0]) ∧ Below W.heap.size W w') := HE
 clear HE e1 e2 V R
 generalize b0k ((fmt n).strP ((fmt n).encP r.cls r.neg r.x)) = s at *
 generalize fmt n = f at *
 have I := Inv.startR w [u] [⟨182, (uS f n way fl), true⟩] [ownF base .u32 141 a.p a.c (dig B32 a.v.d), tabF] ⟨U, True.intro⟩ ⟨oa, hT, True.intro⟩
 refine a0d [.p 0 0, .v (.agg #[.int .i64 (a.v.cls : Int), .bool a.v.neg, .slice a.p (dig B32 a.v.d).length a.c, .int .i64 a.v.pow])] I Tryz.func68 ?_
 refine zd [] I fun Al W I => ?_
 refine zk [0, 1, 2, 3, 4] I fun I => ?_
 refine zo 5 I fun I => ?_
 refine zq I (fun Al W I => (HE2 W I.fa.1 I.fa.2.1).out) fun Al W I => ?_
 refine zk [6, 7, 8, 9, 10] I fun I => ?_
 refine zd [] I fun Al W I => ?_
 refine zk [0, 1, 2, 3, 4, 5, 6, 7] I fun I => ?_
 exact zrb I
end Go.Proofs.YtmacohmclpnphaaGreatDoor
namespace Go.Slip
open Go.RowKit
end Go.Slip
namespace Go.Proofs.YtmacohmclpnphaaGreatDoor
open Go.RowKit Go.Slip
def errL (n : Int) : List ByteArray → Int
 | [] => 0
 | s :: r => if b0o n s = 0 then errL n r else b0o n s
end Go.Proofs.YtmacohmclpnphaaGreatDoor
namespace Go.Slip
open Go.RowKit
theorem Inv.rdN {E : List Nat} {w0 : World} {A : List Nat} {bx bx' : List Box} {fs fs' : List PF} {W V : World} (I : Inv E w0 A bx fs W) {k : IntKind} {p : Option Addr} {xs : List Nat} (o : Rd W k p xs) (hat : 0 < xs.length → V.heap.size ≤ blk p) (hB : ∀ a, Fa A bx a → Fa A bx' a) (J : Inv E w0 A bx' fs' V) : Inv E w0 A bx (rdF k p xs :: fs) W :=
 I.add (rdF k p xs) o fun a ha hf => by
  have h1 := J.lt a (hB a ha)
  have h2 := hat hf.1
  have h3 := hf.2
  omega
end Go.Slip
namespace Go.Proofs.YtmacohmclpnphaaGreatDoor
open Go.RowKit Go.Slip
structure Wp where
 r : Vr
 p : Option Addr
 c : Nat
def Wp.cells (x : Wp) : List Value := [.int .i64 (x.r.cls : Int), .bool x.r.neg, .bool x.r.x.neg, .slice x.p (dig B16 x.r.x.m).length x.c, .int .i64 x.r.x.e]
theorem Wp.len (x : Wp) : x.cells.length = 5 := rfl
theorem f1q {neg : Bool} {num den : Nat} {e way : Int} {f : Fm} (G : c0e f) (hd : 0 < den) (ho : (a0l neg num den e f.g way).over = false) (hz : ¬ ((a0l neg num den e f.g way).under = true ∧ f.fam ≠ 1 ∧ (a0l neg num den e f.g way).pow < f.g.lo)) :
 -20000 ≤ (a0l neg num den e f.g way).pow ∧ (a0l neg num den e f.g way).pow ≤ 20000 := by
 by_cases h0 : (a0l neg num den e f.g way).d = 0
 · have : (a0l neg num den e f.g way).pow = 0 := by
    unfold a0l at *
    by_cases hn : num = 0
    · rw [if_pos hn]
    · rw [if_neg hn] at *
      generalize theK num den e (wid f.g) f.g.digs.toNat = K at *
      have h0 : digP neg num den e (wid f.g) f.g.digs.toNat way (powK f.g K) = 0 := h0
      show (if digP neg num den e (wid f.g) f.g.digs.toNat way (powK f.g K) = 0 then 0 else powP neg num den e (wid f.g) f.g.digs.toNat way (powK f.g K)) = 0
      rw [if_pos h0]
   omega
 · have V := (l0b G (neg := neg) (num := num) (den := den) (e := e) (way := way) hd).2
   have hl := V.lo
   have hh := V.hi
   have e : f.placedV (a0l neg num den e f.g way) way = ⟨2, (a0l neg num den e f.g way).neg, (a0l neg num den e f.g way).d, (a0l neg num den e f.g way).pow⟩ := by
    unfold Fm.placedV
    rw [if_neg (by rw [ho]; simp), if_neg hz, if_neg h0]
   rw [e] at hl hh
   exact ⟨hl, hh⟩
theorem y0g (a : Dv) (p : Option Addr) (c base : Nat) (w : World) (hp : Rf w base p c (dig B16 a.m)) :
 Calls Tryz.prog 22 #[.agg #[.bool a.neg, .slice p (dig B16 a.m).length c, .int .i64 a.e]] w fun en w' => ∃ q, en = .returned (.agg #[.bool a.neg, .slice p (dig B16 a.m).length c, .slice q 1 1, .int .i64 a.e]) ∧ Rf w' w.heap.size q 1 (dig B16 1) ∧ Below w.heap.size w w' := by
 have I := Inv.start w [rfF base p c (dig B16 a.m)] ⟨hp, True.intro⟩
 refine a0d [.v (.agg #[.bool a.neg, .slice p (dig B16 a.m).length c, .int .i64 a.e])] I Tryz.func22 ?_
 exact zret I fun Al W I => ⟨some ⟨(lk 0 Al 2), 0, none⟩, rfl, (w0n (I.box 2 3 _)).mono (I.geB 2), I.below⟩
theorem r0i (n way : Int) (ng : Bool) (p q : Option Addr) (c d b1 b2 : Nat) (num den : Nat) (e : Int) (w : World) (hn : IsFm n) (hw : 1 ≤ way ∧ way ≤ 5) (hp : Rf w b1 p c (dig B16 num)) (hq : Rf w b2 q d (dig B16 den))
 (hl : (dig B16 num).length ≤ 20000) (hl2 : (dig B16 den).length ≤ 20000) (hd : 0 < den) (he : -200000 ≤ e ∧ e ≤ 200000) :
 Calls Tryz.prog 53 #[.int .i64 n, .agg #[.bool ng, .slice p (dig B16 num).length c, .slice q (dig B16 den).length d, .int .i64 e], .int .i64 way] w (GVf w w.heap.size ((fmt n).placedM (a0l ng num den e (fmt n).g way) way)) := by
 have HF := fun W => hi0 (b0e n W)
 rw [decide_eq_true hn] at HF
 have G := b0s hn
 have GG := b0r G.g
 have HR := fun W h1 h2 => hi0 (o0b ng p q c d num den e (fmt n).g way W h1 h2 hl hl2 hd he GG hw.1 hw.2)
 have hlen := v0a (neg := ng) (num := num) (e := e) (way := way) hd GG
 have HP := fun W pp cc h1 => hi0 (r0g n way (a0l ng num den e (fmt n).g way) pp cc W hn hw h1 (by have := j0p (a0l ng num den e (fmt n).g way).d; omega) (f1q G hd))
 generalize a0l ng num den e (fmt n).g way = P at *
 obtain ⟨r, fl, hr⟩ : ∃ r fl, (fmt n).placedM P way = (r, fl) := ⟨_, _, rfl⟩
 rw [hr] at HP ⊢
 unfold GVf at HP
 simp only at HP
 clear hr
 generalize fmt n = f at *
 have I := Inv.start w [rfF b1 p c (dig B16 num), rfF b2 q d (dig B16 den)] ⟨hp, hq, True.intro⟩
 refine a0d [.v (.int .i64 n), .v (.agg #[.bool ng, .slice p (dig B16 num).length c, .slice q (dig B16 den).length d, .int .i64 e]), .v (.int .i64 way)] I Tryz.func53 ?_
 refine zq I (fun Al W I => (HF W).out) fun Al W I => ?_
 refine zg I (fun Al W I => (HR W I.fa.1.rd I.fa.2.1.rd).out) fun Al V Iv _ hB _ kz => ?_
 rintro _ W ⟨p20, c20, rfl, o20, a20, hb⟩
 refine ⟨_, rfl, kz _ _ hb fun I => ?_⟩
 have I := I.rdN o20 a20 (hB _) Iv
 refine zqr I (fun Al W I => (HP W p20 c20 I.fa.1).out) fun Al W p22 c22 I => ?_
 exact zret I fun Al W I => ⟨p22, c22, rfl, I.fa.1, I.below⟩
theorem n0t (n way : Int) (a : Dv) (p : Option Addr) (c base : Nat) (w : World) (hn : IsFm n) (hw : 1 ≤ way ∧ way ≤ 5) (hp : Rf w base p c (dig B16 a.m)) (hl : (dig B16 a.m).length ≤ 20000) (he : -200000 ≤ a.e ∧ a.e ≤ 200000) :
 Calls Tryz.prog 17 #[.int .i64 n, .agg #[.bool a.neg, .slice p (dig B16 a.m).length c, .int .i64 a.e], .int .i64 way] w (GVf w w.heap.size ((fmt n).numM a way)) := by
 have h0 := a0f a0e a.m
 have HZ := fun W => hi0 (h0x n false W hn)
 rw [Bool.false_and] at HZ
 have HO := fun W h => hi0 (y0g a p c base W h)
 by_cases ha : a.m = 0
 · have hM : (fmt n).numM a way = (⟨1, false, vz⟩, 0) := by unfold Fm.numM Fm.zeroM; rw [if_pos ha]; simp
   rw [hM]
   have hl0 := h0.2 ha
   generalize (dig B16 a.m).length = L at *
   have I := Inv.start w [] True.intro
   refine a0d [.v (.int .i64 n), .v (.agg #[.bool a.neg, .slice p L c, .int .i64 a.e]), .v (.int .i64 way)] I Tryz.func17 ?_
   refine zb I 11 ((L : Int) == 0) (true) (beq_iff_eq.2 (by omega)) fun Al W I => ?_
   refine zq I (fun Al W I => (HZ W).out) fun Al W I => ?_
   exact zret I fun Al W I => b0h (k := 1) (fl := 0) rfl I.below
 · have hM : (fmt n).numM a way = (fmt n).placedM (a0l a.neg a.m 1 a.e (fmt n).g way) way := by unfold Fm.numM; rw [if_neg ha]
   rw [hM]
   have HFt := fun W q h1 h2 => hi0 (r0i n way a.neg p q c 1 base w.heap.size a.m 1 a.e W hn hw h1 h2 hl (by rw [← h0v]; omega) (by omega) he)
   rw [← h0v] at HFt
   obtain ⟨r, fl, hr⟩ : ∃ r fl, (fmt n).placedM (a0l a.neg a.m 1 a.e (fmt n).g way) way = (r, fl) := ⟨_, _, rfl⟩
   rw [hr] at HFt ⊢
   unfold GVf at HFt
   simp only at HFt
   clear hr hM
   have I := Inv.start w [rfF base p c (dig B16 a.m)] ⟨hp, True.intro⟩
   refine a0d [.v (.int .i64 n), .v (.agg #[.bool a.neg, .slice p (dig B16 a.m).length c, .int .i64 a.e]), .v (.int .i64 way)] I Tryz.func17 ?_
   refine zb I 11 ((((dig B16 a.m).length : Nat) : Int) == 0) (false) (bFn (fun h => ha (h0.1 (by omega)))) fun Al W I => ?_
   refine zg I (fun Al W I => (HO W I.fa.1).out) fun Al V Iv _ hB _ kz => ?_
   rintro _ W ⟨q16, rfl, o16, hb⟩
   refine ⟨_, rfl, kz _ _ hb fun I => ?_⟩
   have I := I.rf o16 (hB _) Iv
   refine zqr I (fun Al W I => (HFt W q16 I.fa.2.1 I.fa.1).out) fun Al W p18 c18 I => ?_
   exact zret I fun Al W I => ⟨p18, c18, rfl, I.fa.1, I.below⟩
theorem v0g (n : Int) (w : World) (hn : IsFm n) : Calls Tryz.prog 50 #[.int .i64 n] w fun en w' => en = .returned (.tuple #[.agg #[.int .i64 (((fmt n).nothM.cls : Nat) : Int), .bool false, .bool false, .slice none 0 0, .int .i64 0], .int .i64 16]) ∧ Below w.heap.size w w' := by
 have HN := fun W => hi0 (g0c n W hn)
 generalize (fmt n).nothM.cls = k at *
 have I := Inv.start w [] True.intro
 refine a0d [.v (.int .i64 n)] I Tryz.func50 ?_
 refine zq I (fun Al W I => (HN W).out) fun Al W I => ?_
 exact zrb I
def errR (n way : Int) (L : List ByteArray) : Int := if IsFm n then (if errL n L = 0 then (if 1 ≤ way ∧ way ≤ 5 then 0 else 6) else errL n L) else 6
def strR (n : Int) (r : Vr) : ByteArray := b0k ((fmt n).strP ((fmt n).encP r.cls r.neg r.x))
structure VrF (f : Fm) (r : Vr) : Prop where
 ok : VrOk r
 inf : r.cls = 3 → f.fam = 1
def refD (n : Int) (s : ByteArray) : Vr := (fmt n).refN (a0x (fmt n) s)
theorem l1n {f : Fm} (G : c0e f) (neg : Bool) {e frac : Nat} (h : e < 2 ^ f.E) : (f.dec neg e frac).p = 0 ∨ (f.g.lo ≤ (f.dec neg e frac).p ∧ (f.dec neg e frac).p ≤ f.g.hi + 1) := by
 have h3 := G.hi1
 have h4 := G.hi2
 have h5 := G.hi3
 have h6 := G.fam
 have gg := (b0r G.g).le
 have e1 := G.e1
 have hE1 : (2 : Nat) ^ 7 ≤ 2 ^ f.E := Nat.pow_le_pow_right (by omega) e1
 unfold Fm.dec
 generalize 2 ^ f.E = T at *
 repeat' split
 all_goals first | exact .inl rfl | (right; simp only; omega)
theorem i1w {f : Fm} (neg : Bool) {e frac : Nat} (h : (f.dec neg e frac).c = 3) : f.fam = 1 := by
 have h : (f.dec neg e frac).cls = 3 := by
  unfold Dc.c at h
  split at h <;> omega
 unfold Fm.dec at h
 split at h
 · simp at h
 · split at h
   · rename_i k
     exact k.1
   · split at h
     · split at h <;> simp at h
     · split at h
       · simp at h
       · split at h
         · simp at h
         · split at h <;> simp at h
theorem v0h {n : Int} {s : ByteArray} (hn : IsFm n) : VrF (fmt n) (refD n s) := by
 have G := b0s hn
 have GG := b0r G.g
 obtain ⟨w1, w2, w3⟩ := k0r G.g
 have he : (fmt n).exp (a0x (fmt n) s) < 2 ^ (fmt n).E := Nat.mod_lt _ (Nat.pow_pos (by omega))
 have hx : (fmt n).frac (a0x (fmt n) s) < 2 ^ (fmt n).F := Nat.mod_lt _ (Nat.pow_pos (by omega))
 have hm := h1c (f := fmt n) ((fmt n).neg (a0x (fmt n) s)) (e := (fmt n).exp (a0x (fmt n) s)) hx
 have hp := l1n G ((fmt n).neg (a0x (fmt n) s)) (frac := (fmt n).frac (a0x (fmt n) s)) he
 have hi := fun h => i1w (f := fmt n) ((fmt n).neg (a0x (fmt n) s)) (e := (fmt n).exp (a0x (fmt n) s)) (frac := (fmt n).frac (a0x (fmt n) s)) h
 have hcls := a1d (fmt n) ((fmt n).neg (a0x (fmt n) s)) ((fmt n).exp (a0x (fmt n) s)) ((fmt n).frac (a0x (fmt n) s))
 have z2 := G.f2
 unfold refD Fm.refN Fm.decN
 generalize (fmt n).dec ((fmt n).neg (a0x (fmt n) s)) ((fmt n).exp (a0x (fmt n) s)) ((fmt n).frac (a0x (fmt n) s)) = D at *
 generalize (fmt n).neg (a0x (fmt n) s) = g at *
 generalize fmt n = f at *
 have hc : 1 ≤ D.c ∧ D.c ≤ 5 := by unfold Dc.c; split <;> omega
 have hml : (dig B32 D.m).length ≤ 3 := a0u hm (by omega)
 have wp := b0c f.g
 have hwp : -17010 ≤ (wid f.g : Int) * D.p ∧ (wid f.g : Int) * D.p ≤ 17010 := by
  rcases hp with h | ⟨h1, h2⟩
  · rw [h, Int.mul_zero]; omega
  · have a1 : (wid f.g : Int) * f.g.lo ≤ wid f.g * D.p := Int.mul_le_mul_of_nonneg_left h1 (by omega)
    have a2 : (wid f.g : Int) * D.p ≤ wid f.g * (f.g.hi + 1) := Int.mul_le_mul_of_nonneg_left h2 (by omega)
    rw [Int.mul_add, Int.mul_one] at a2
    omega
 refine ⟨⟨hc, fun h => ?_, fun h => ?_, ?_, ?_, ?_, ?_⟩, hi⟩
 · have h : ¬ D.c = 2 := h
   unfold Fm.vr
   simp only [if_neg h]
   rfl
 · have h : D.c = 2 := h
   have hm0 := f1v h
   unfold Fm.vr
   simp only [h, if_true]
   obtain ⟨b1, b2⟩ := r0e (g := g) (e := (wid f.g : Int) * D.p) hm0
   exact ⟨b2, by rw [b1]; rfl⟩
 · unfold Fm.vr
   simp only
   split
   · exact g0e _
   · exact .inr rfl
 · unfold Fm.vr
   simp only
   split
   · exact Nat.le_trans (j0o a0b _) (by show (dig B32 D.m).length ≤ _; omega)
   · show (dig B32 0).length ≤ _; rw [a0c]; decide
 · unfold Fm.vr
   simp only
   split
   · have := r0x (⟨g, D.m, wid f.g * D.p⟩ : Dv) (n := 3) hml (lo := -17100) (hi := 17100) (by simp only; omega) (by simp only; omega) (by omega) (by omega)
     omega
   · show (-18000 : Int) ≤ 0; decide
 · unfold Fm.vr
   simp only
   split
   · have := r0x (⟨g, D.m, wid f.g * D.p⟩ : Dv) (n := 3) hml (lo := -17100) (hi := 17100) (by simp only; omega) (by simp only; omega) (by omega) (by omega)
     omega
   · show (0 : Int) ≤ 18000; decide
theorem w0w {n : Int} {s : ByteArray} (h0 : b0o n s = 0) : VRep (fmt n) (decP n s) (refD n s) := by
 obtain ⟨hn, hs⟩ := d0y.1 h0
 have G := b0s hn
 have hd : decP n s = (fmt n).valN (a0x (fmt n) s) := by unfold decP; rw [if_pos h0]
 have he : (fmt n).exp (a0x (fmt n) s) < 2 ^ (fmt n).E := Nat.mod_lt _ (Nat.pow_pos (by omega))
 have hx : (fmt n).frac (a0x (fmt n) s) < 2 ^ (fmt n).F := Nat.mod_lt _ (Nat.pow_pos (by omega))
 have hb := l1s G ((fmt n).neg (a0x (fmt n) s)) he hx ((fmt n).neg (a0x (fmt n) s))
 have hk := d1p (fmt n) ((fmt n).neg (a0x (fmt n) s)) ((fmt n).decN (a0x (fmt n) s))
 have ho := d1r (fmt n) ((fmt n).neg (a0x (fmt n) s)) ((fmt n).decN (a0x (fmt n) s))
 rw [hd]
 exact ⟨rfl, rfl, fun _ => hk, fun h => ho h, hb.1, hb.2.1, hb.2.2⟩
/-! ### Results -/
theorem w0x {f : Fm} (G : c0e f) (x : Dv) (way : Int) : ResF f (f.numM x way).1 := by
 unfold Fm.numM
 split
 · exact r0f G _
 · exact (l0b G (by omega)).1
theorem i1x {f : Fm} {r : Vr} (h : r.cls = 3) (R : VrF f r) : ResF f r :=
 ⟨by omega, fun k => by omega, fun k => by omega, fun _ => R.inf h, fun k => by omega, fun k => by omega, fun _ => R.ok.x0 (by omega)⟩
def _root_.Go.Slip.Vr.opp (r : Vr) : Vr := if r.cls ≤ 3 then ⟨r.cls, !r.neg, d0h r.x⟩ else r
theorem i1y {f : Fm} (G : c0e f) {r : Vr} (R : ResF f r) : CanF f r.cls r.neg r.x :=
 ⟨R.c, R.c1, fun h => ⟨p0w G (R.c2 h).1 (R.c2 h).2.2.1, (R.c2 h).2.1, (R.c2 h).2.2.1, (R.c2 h).2.2.2⟩, R.c3, R.c4, R.c5⟩
theorem f1r {n : Int} (hn : IsFm n) {r : Vr} (R : ResF (fmt n) r) : b0o n (strR n r) = 0 ∧ refD n (strR n r) = r := by
 have G := b0s hn
 have C := i1y G R
 have hlt := a1g G (cls := r.cls) (g := r.neg) (d := r.x) (fun h => (C.c2 h).1)
 have hs : (strR n r).size = (fmt n).size := by unfold strR; rw [x0d]; exact h1d _ _ _ _
 refine ⟨d0y.2 ⟨hn, hs⟩, ?_⟩
 have hv := h1f G C
 obtain ⟨q1, q2, q3⟩ := a1e (f := fmt n) (neg := ((fmt n).encP r.cls r.neg r.x).neg) hlt.1 hlt.2
 unfold refD Fm.refN Fm.decN strR Fm.strP
 rw [v0e G hlt.1 hlt.2, q1, q2, q3, hv]
 by_cases h2 : r.cls = 2
 · rw [if_pos h2]
 · rw [if_neg h2, show (⟨false, 0, 0⟩ : Dv) = r.x from (R.x0 h2).symm]
def outS (n way : Int) (L : List ByteArray) (R : Vr × Nat) : ByteArray := if errR n way L = 0 then strR n R.1 else b0k []
def outF (n way : Int) (L : List ByteArray) (R : Vr × Nat) : Nat := if errR n way L = 0 then R.2 else 0
def r0j (n way : Int) (L : List ByteArray) (R : Vr × Nat) (w : World) (en : Ending) (w' : World) : Prop :=
 (if errR n way L = 0 then en = .returned (.tuple #[.string (strR n R.1), .int .i64 ((R.2 : Nat) : Int), .int .i64 (errR n way L)]) else en = .returned (.tuple #[.string (b0k []), .int .i64 0, .int .i64 (errR n way L)])) ∧ Below w.heap.size w w'
theorem c1q {n way : Int} {L : List ByteArray} (h0 : errR n way L = 0) : IsFm n ∧ errL n L = 0 ∧ 1 ≤ way ∧ way ≤ 5 := by
 have hn : IsFm n := by unfold errR at h0; split at h0; assumption; omega
 unfold errR at h0
 rw [if_pos hn] at h0
 have hL : errL n L = 0 := by split at h0; assumption; contradiction
 rw [if_pos hL] at h0
 exact ⟨hn, hL, by split at h0; assumption; omega⟩
theorem c1r {n way : Int} {L : List ByteArray} {R : Vr × Nat} {w : World} {fn : FuncId} {args : Array Value} (h : Calls Tryz.prog fn args w (r0j n way L R w)) :
 Calls Tryz.prog fn args w fun en w' => en = .returned (.tuple #[.string (outS n way L R), .int .i64 ((outF n way L R : Nat) : Int), .int .i64 (errR n way L)]) ∧ Below w.heap.size w w' := by
 refine h.mono fun en w' hh => ⟨?_, hh.2⟩
 unfold outS outF
 have := hh.1
 by_cases h0 : errR n way L = 0
 · rw [if_pos h0] at this ⊢; rw [if_pos h0]; exact this
 · rw [if_neg h0] at this ⊢; rw [if_neg h0]; exact this
end Go.Proofs.YtmacohmclpnphaaGreatDoor
namespace Go.Slip
theorem m1p (n : Int) : bits .and .i64 n 4611686018427387903 = n % 4611686018427387904 := by
 have h1 : (BitVec.ofInt 64 4611686018427387903).toNat = 2 ^ 62 - 1 := by decide
 have h2 : (BitVec.ofInt 64 n).toNat = (n % 18446744073709551616).toNat := by rw [BitVec.toNat_ofInt]; rfl
 have key : (BitVec.ofInt 64 n &&& BitVec.ofInt 64 4611686018427387903).toNat = (n % 4611686018427387904).toNat := by
  rw [BitVec.toNat_and, h2, h1, Nat.and_two_pow_sub_one_eq_mod]
  omega
 show IntKind.i64.wrap ((BitVec.ofInt 64 n &&& BitVec.ofInt 64 4611686018427387903).toNat : Nat) = _
 rw [key, Int.toNat_of_nonneg (by omega)]
 exact iwo
def intD (n : Int) : Dv := norm n 0
theorem r0k (m : Nat) (e : Int) : bare ⟨false, m, e⟩ = norm (m : Int) e := (h0m false m e).symm
theorem l0d (a b : Int) (j k : Nat) : f0e (norm a j) (norm b k) = norm (a * 2 ^ j + b * 2 ^ k) 0 := by
 have h : ∀ (c : Int) (i : Nat), (0 : Int) ≤ (norm c i).e ∧ zOf (norm c i) 0 = c * 2 ^ i := fun c i => by
  have e : norm c (i : Int) = norm (c * 2 ^ i) 0 := by rw [o0k]; congr 1; omega
  rw [e]
  exact ⟨j1n _ (Int.le_refl 0), r0a _ _⟩
 rw [o0l _ _ (h a j).1 (h b k).1, (h a j).2, (h b k).2]
end Go.Slip
namespace Go.Proofs.YtmacohmclpnphaaGreatDoor
open Go.RowKit Go.Slip
theorem w0y (n : Int) (v : Vl) (r : Vr) (p : Option Addr) (c b0 : Nat) (w : World) (hn : IsFm n) (hp : Own w b0 .u32 141 p c (dig B32 v.d)) (V : VRep (fmt n) v r) (R : VrOk r) (hT : TabW w) :
 Calls Tryz.prog 71 #[.int .i64 n, .agg #[.int .i64 (v.cls : Int), .bool v.neg, .slice p (dig B32 v.d).length c, .int .i64 v.pow]] w (g0i w w.heap.size r.x) := by
 have HG := fun W => hi0 (e1y n W)
 have h0 : d0f n = 0 := by unfold d0f; rw [if_pos hn]
 rw [h0] at HG
 generalize fmt n = f at *
 have hx : bare ⟨v.neg, v.d, wid f.g * v.pow⟩ = r.x := by
  by_cases h2 : r.cls = 2
  · exact V.num h2
  · rw [R.x0 h2, (V.oth h2).1]; rfl
 have hl := V.len
 have hlo := V.lo
 have hhi := V.hi
 have wp := b0c f.g
 have hmu := k0d (wd := wid f.g) (k := v.pow) (B := 20000) wp.2 ⟨hlo, hhi⟩
 rw [← hx, ← s0i]
 clear hx R V h0
 have hwd : wid f.g = if f.g.rad = 16 then 4 else 1 := rfl
 generalize hmw : (wid f.g : Int) * v.pow = mw at *
 have HMW := hi0 hmw
 have HH := fun W (c : Nat) h1 h0 h2 => hi0 (n0a p _ c mw v.d W h1 rfl h0 (by omega) (by omega) h2)
 clear hmw
 generalize bare ⟨false, v.d, mw⟩ = d at *
 obtain ⟨rb, hrb⟩ : ∃ b, (f.g.rad == 16) = b := ⟨_, rfl⟩
 have HRB := hi0 hrb
 have h4 : rb = true → (4 : Int) = ((wid f.g : Nat) : Int) := fun h => by rw [h] at hrb; rw [hwd, if_pos (beq_iff_eq.1 hrb)]; rfl
 have h1 : rb = false → (1 : Int) = ((wid f.g : Nat) : Int) := fun h => by rw [h] at hrb; rw [hwd, if_neg (bnF hrb)]; rfl
 clear hrb hwd
 have I := Inv.start w [ownF b0 .u32 141 p c (dig B32 v.d), tabF] ⟨hp, hT, True.intro⟩
 refine a0d [.v (.int .i64 n), .v (.agg #[.int .i64 (v.cls : Int), .bool v.neg, .slice p (dig B32 v.d).length c, .int .i64 v.pow])] I Tryz.func71 ?_
 refine zq I (fun Al W I => (HG W).out) fun Al W I => ?_
 refine zb I 16 (f.g.rad == 16) (rb) (HRB.out) fun Al W I => ?_
 refine zcut I (some 2000016) (fun fr bx gs => ∃ (U1 : Nat → Value) (k1 : Int), fr = (.v (.int .i64 n) :: .v (.agg #[.int .i64 (v.cls : Int), .bool v.neg, .slice p (dig B32 v.d).length c, .int .i64 v.pow]) :: .v undef :: .p 0 0 :: .p 1 0 :: .p 2 0 :: .v (U1 6) :: .v (.int .i64 k1) :: .v undef :: sw U1 9 7 (.v (.bool rb) :: sw U1 17 8 (.v undef :: sw U1 26 3 [])) : List SV) ∧ bx = [⟨75, [.v (.int .i64 (v.cls : Int)), .v (.bool v.neg), .v (.slice p (dig B32 v.d).length c), .v (.int .i64 v.pow)], false⟩, ⟨112, [.v (.bool false), .v (.slice none 0 0), .v (.int .i64 0)], false⟩, ⟨54, [.v (.int .i64 f.g.rad), .v (.int .i64 f.g.digs), .v (.int .i64 f.g.lo), .v (.int .i64 f.g.hi), .v (.bool f.g.grad)], false⟩] ∧ gs = [ownF b0 .u32 141 p c (dig B32 v.d), tabF] ∧ (k1 = ((wid f.g : Nat) : Int))) ?_ ?_
 · intro J hJ Al W I
   rcases Bool.eq_false_or_eq_true rb with rfl | rfl
   · exact a0y I J fun Al W U I => hJ _ _ _ _ _ ⟨U, 4, rfl, rfl, rfl, h4 rfl⟩ (I.pick [0, 1])
   exact a0y I J fun Al W U I => hJ _ _ _ _ _ ⟨U, 1, rfl, rfl, rfl, h1 rfl⟩ (I.pick [0, 1])
 rintro _ _ _ ⟨U1, k1, rfl, rfl, rfl, hk1⟩ Al W I
 refine zi I 22 .i64 (k1 * v.pow) (mw) ((by rw [hk1, HMW.out]; exact iwo)) fun Al W I => ?_
 refine zqo I (fun Al W I => (HH W c I.fa.1.rd I.fa.1.le_cap I.fa.2.1).out) fun Al W p23 c23 I => ?_
 by_cases ng : v.neg = true
 · refine zb I 25 (v.neg) (true) (ng) fun Al W I => ?_
   refine zq I (fun Al W I => u0o d.neg p23 _ c23 d.e d.m W rfl) fun Al W I => ?_
   rw [if_pos ng]
   exact zret I fun Al W I => ⟨p23, c23, rfl, I.fa.1.mono (by omega), I.below⟩
 refine zb I 25 (v.neg) (false) ((by simpa using ng)) fun Al W I => ?_
 rw [if_neg ng]
 exact zret I fun Al W I => ⟨p23, c23, rfl, I.fa.1.mono (by omega), I.below⟩
end Go.Proofs.YtmacohmclpnphaaGreatDoor
namespace Go.Slip
theorem v0i (z e : Int) : d0h (norm z e) = norm (-z) e := by
 by_cases h : z = 0
 · subst h; rfl
 · have h1 : (bare (ofZ z e)).m ≠ 0 := o0m h e
   unfold norm at *
   unfold ofZ bare at *
   simp only at h1 ⊢
   rw [if_neg (by omega)] at h1
   rw [if_neg (by omega), if_neg (by omega)]
   unfold d0h
   simp only at h1 ⊢
   rw [Int.natAbs_neg, decide_eq_true (Nat.pos_of_ne_zero h1), Bool.and_true]
   simp only [Dv.mk.injEq, and_true]
   by_cases k : z < 0
   · rw [decide_eq_true k, decide_eq_false (by omega)]; rfl
   · rw [decide_eq_false k, decide_eq_true (by omega)]; rfl
def RepG (g : Gd) (z : Nat) (k : Int) : Prop := 0 < z ∧ z < 2 ^ (wid g * g.digs.toNat) ∧ (g.lo < k ∨ g.grad = false → 2 ^ (wid g * (g.digs.toNat - 1)) ≤ z) ∧ g.lo ≤ k
theorem RepG.stepK {g : Gd} (G : h0g g) {z : Nat} {k : Int} (h : RepG g z k) {s : Int} (hs : s.natAbs = z) : stepK (norm s (wid g * k)) g = k := by
 obtain ⟨h1, h2, h3, h4⟩ := h
 refine f1e G (by omega) (by omega) h4 ?_
 rcases Int.lt_or_le g.lo k with h | h
 · left; rw [hs]; exact h3 (.inl h)
 · right; omega
end Go.Slip
namespace Go.Proofs.YtmacohmclpnphaaGreatDoor
open Go.RowKit Go.Slip
theorem c1s {n : Int} (h : -9223372036854775808 ≤ n ∧ n ≤ 9223372036854775807) : (dig B32 (intD n).m).length ≤ 2 ∧ -100 ≤ (intD n).e ∧ (intD n).e ≤ 100 ∧ Bare (intD n) := by
 have hl : (dig B32 n.natAbs).length ≤ 2 := (a0g a0b _ 2).2 (by unfold B32; omega)
 have h1 := j0o a0b ⟨decide (n < 0), n.natAbs, 0⟩
 have h2 := r0x ⟨decide (n < 0), n.natAbs, 0⟩ (n := 2) hl (lo := -1) (hi := 1) (by simp only; omega) (by simp only; omega) (by omega) (by omega)
 have h3 := g0e ⟨decide (n < 0), n.natAbs, 0⟩
 have e : intD n = bare ⟨decide (n < 0), n.natAbs, 0⟩ := rfl
 rw [← e] at h1 h2 h3
 simp only at h1
 exact ⟨by omega, by omega, by omega, h3⟩
theorem h0z {m : Nat} {e : Int} (h : m < 18446744073709551616) (he : 0 ≤ e ∧ e ≤ 62) : SmD (norm (m : Int) e) ∧ Bare (norm (m : Int) e) := by
 have hl : (dig B32 m).length ≤ 2 := (a0g a0b _ 2).2 (by unfold B32; omega)
 have h1 := j0o a0b ⟨false, m, e⟩
 have h2 := r0x ⟨false, m, e⟩ (n := 2) hl (lo := -1) (hi := 100) (by simp only; omega) (by simp only; omega) (by omega) (by omega)
 rw [r0k] at h1 h2
 simp only at h1
 exact ⟨⟨by omega, by omega, by omega⟩, by rw [← r0k]; exact g0e _⟩
theorem n0u (n fm way : Int) (w : World) (hr : -9223372036854775808 ≤ n ∧ n ≤ 9223372036854775807) (hT : TabW w) :
 Calls Tryz.prog 16 #[.int .i64 n, .int .i64 fm, .int .i64 way] w (r0j fm way [] ((fmt fm).numM (intD n) way) w) := by
 unfold r0j
 by_cases hok : IsFm fm ∧ 1 ≤ way ∧ way ≤ 5
 · obtain ⟨hn, hw⟩ := hok
   have h0 : errR fm way [] = 0 := by unfold errR; rw [if_pos hn, if_pos (show errL fm [] = 0 from rfl), if_pos hw]
   simp only [h0, if_true]
   have HO := fun W => hi0 (v0f fm way W hn hw)
   have RS : ResF (fmt fm) ((fmt fm).numM (intD n) way).1 := w0x (b0s hn) _ _
   obtain ⟨b1, b2, b3, b4⟩ := c1s hr
   have HNU := fun (x : Dv) (hx : x = intD n) W p c u (h1 : Bt W u 182 #[.int .i64 fm, .int .i64 way, .int .i64 (fmt fm).g.rad, .int .i64 (fmt fm).g.digs, .int .i64 (fmt fm).g.lo, .int .i64 (fmt fm).g.hi, .bool (fmt fm).g.grad, .int .u8 (famB (fmt fm)), .int .i64 0]) (h2 : Rd W .u32 p (dig B32 x.m)) => hi0 (show Calls Tryz.prog 69 #[.pointer (some ⟨u, 0, none⟩), .agg #[.bool x.neg, .slice p (dig B32 x.m).length c, .int .i64 x.e]] W (j0e (fmt fm) fm way u W W.heap.size ((fmt fm).numM (intD n) way)) from by
     subst hx; exact w0v (fmt fm) fm way _ p c u W h1 h2 (by omega) (by omega) (b0s hn) hw)
   obtain ⟨rS, flS, hS⟩ : ∃ rS flS, (fmt fm).numM (intD n) way = (rS, flS) := ⟨_, _, rfl⟩
   rw [hS] at HNU RS ⊢
   have HTL := fun W (v : Vl) p c b u h1 h2 h3 h4 => hi0 (g1p fm way (flS : Int) ⟨v, p, c⟩ rS b u W h1 h2 hn h3 RS h4)
   rw [show b0k ((fmt fm).strP ((fmt fm).encP rS.cls rS.neg rS.x)) = strR fm rS from rfl] at HTL
   clear hS RS h0
   generalize strR fm rS = str at *
   generalize fmt fm = f at *
   -- the lower bits
   obtain ⟨N1, hN1⟩ : ∃ N1 : Nat, (N1 : Int) = n % 4611686018427387904 := ⟨(n % 4611686018427387904).toNat, by omega⟩
   have HW := fun (m : Nat) (e : Int) (hm : m < 18446744073709551616) (he : 0 ≤ e ∧ e ≤ 62) W p c h1 h2 h3 => hi0 ((r0k m e) ▸ n0a p _ c e m W h1 rfl h2 (by have : (dig B32 m).length ≤ 2 := (a0g a0b _ 2).2 (by unfold B32; omega); omega) (by omega) h3)
   have HPL := fun (m k : Nat) (e : Int) (hm : m < 18446744073709551616) (hk : k < 18446744073709551616) (he : 0 ≤ e ∧ e ≤ 62) W p q c d b h1 h2 h3 h4 => hi0 (t0h (norm (m : Int) e) (norm (k : Int) 0) p q c d b W (h0z hm he).2 (h0z hk (by omega)).2 (h0z hm he).1 (h0z hk (by omega)).1 h1 h2 h3 h4)
   have HPR := fun (m k : Nat) (hm : m < 18446744073709551616) (hk : k < 18446744073709551616) W p q c d b h1 h2 h3 h4 => hi0 (t0h (norm (m : Int) 0) (norm (k : Int) 62) p q c d b W (h0z hm (by omega)).2 (h0z hk (by omega)).2 (h0z hm (by omega)).1 (h0z hk (by omega)).1 h1 h2 h3 h4)
   have hI : ∀ z : Int, norm z 0 = intD z := fun _ => rfl
   have eP : ∀ m : Nat, (m : Int) < 4611686018427387904 → (m : Int) = n → norm (m : Int) 0 = intD n := fun m _ h => by rw [h]; rfl
   have e2 : ∀ a b : Nat, (a : Int) * 2 + b = -n → d0h (f0e (norm (a : Int) 1) (norm (b : Int) 0)) = intD n := fun a b h => by
    have := l0d a b 1 0
    simp only [Int.natCast_one, Int.natCast_zero, Int.pow_succ, Int.pow_zero, Int.one_mul, Int.mul_one] at this
    rw [this, v0i, h, Int.neg_neg]
    rfl
   have e3 : ∀ m : Nat, (m : Int) + 4611686018427387904 = n → f0e (norm (m : Int) 0) (norm ((1 : Nat) : Int) 62) = intD n := fun m h => by
    have := l0d m 1 0 62
    simp only [Int.natCast_zero, Int.pow_zero, Int.mul_one] at this
    rw [show ((1 : Nat) : Int) = 1 from rfl, show (62 : Int) = ((62 : Nat) : Int) from rfl, this, show (m : Int) + 1 * 2 ^ 62 = n by omega]
    rfl
   have hN2 : (N1 : Int) < 4611686018427387904 ∧ 0 ≤ (N1 : Int) := by omega
   have HAND := hi0 ((m1p n).trans hN1.symm)
   have td : n < 0 → n.tdiv 2 = -((-n) / 2) ∧ n.tmod 2 = -((-n) % 2) := fun h => by
    have a1 := Int.neg_tdiv (-n) 2
    have a2 := Int.neg_tmod (-n) 2
    rw [Int.neg_neg] at a1 a2
    rw [a1, a2, Int.tdiv_eq_ediv_of_nonneg (by omega), Int.tmod_eq_emod_of_nonneg (by omega)]
    exact ⟨rfl, rfl⟩
   obtain ⟨qa, hqa⟩ : ∃ qa : Nat, n < 0 → (qa : Int) = -(n.tdiv 2) := ⟨(-(n.tdiv 2)).toNat, fun h => by have := td h; omega⟩
   obtain ⟨qb, hqb⟩ : ∃ qb : Nat, n < 0 → (qb : Int) = -(n.tmod 2) := ⟨(-(n.tmod 2)).toNat, fun h => by have := td h; omega⟩
   have hq3 : n < 0 → (qa : Int) * 2 + qb = -n := fun h => by have := hqa h; have := hqb h; have := td h; omega
   have I := Inv.start w [tabF] ⟨hT, True.intro⟩
   refine a0d [.v (.int .i64 n), .v (.int .i64 fm), .v (.int .i64 way)] I Tryz.func16 ?_
   refine zg I (fun Al W I => (HO W).out) fun Al V Iv _ hB _ kz => ?_
   rintro _ W ⟨u15, rfl, hge, hB, hb⟩
   refine ⟨_, rfl, kz _ _ hb fun I => ?_⟩
   refine l1l Iv hb 0 u15 182 [(.int .i64 fm), (.int .i64 way), (.int .i64 f.g.rad), (.int .i64 f.g.digs), (.int .i64 f.g.lo), (.int .i64 f.g.hi), (.bool f.g.grad), (.int .u8 (famB f)), (.int .i64 0)] hge hB fun Al hAl_15 I => ?_
   refine l1m I 16 0 u15 hAl_15 fun Al W I => ?_
   refine zbin I 22 _ (fun _ _ _ _ _ => b1l .i64 (n) (4611686018427387903) ((N1 : Int)) ((HAND.out))) fun Al W I => ?_
   refine zqo I (fun Al W I => have hzW := I.bel.size; sof (N1 : Int) N1 rfl (by omega) W) fun Al W p23 c23 I => ?_
   refine zqo I (fun Al W I => have hzW := I.bel.size; (HW N1 0 (by omega) (by omega) W p23 c23 I.fa.1.rd I.fa.1.le_cap I.fa.2.1).out) fun Al W p24 c24 I => ?_
   by_cases hneg : n < 0
   · refine zb I 26 (decide (n < 0)) (true) (dTr hneg) fun Al W I => ?_
     refine zbin I 28 _ (fun _ _ _ _ _ => m0y .i64 (n) (2) ((n.tdiv 2)) (by omega) ((by exact IntWalk.i64_in _ (by have := td hneg; omega)))) fun Al W I => ?_
     refine zi I 29 .i64 (0 - (n.tdiv 2)) (-(n.tdiv 2)) ((iwo).trans (by omega)) fun Al W I => ?_
     refine zqo I (fun Al W I => have hzW := I.bel.size; sof _ qa (by first | exact (hqa hneg).symm | omega) (by have := hqa hneg; have := td hneg; omega) W) fun Al W p30 c30 I => ?_
     refine zqo I (fun Al W I => have hzW := I.bel.size; (HW qa 1 (by have := hqa hneg; have := td hneg; omega) (by omega) W p30 c30 I.fa.1.rd I.fa.1.le_cap I.fa.2.2.2.1).out) fun Al W p31 c31 I => ?_
     refine zbin I 33 _ (fun _ _ _ _ _ => q0n .i64 (n) (2) ((n.tmod 2)) (by omega) (rfl)) fun Al W I => ?_
     refine zi I 34 .i64 (0 - (n.tmod 2)) (-(n.tmod 2)) ((iwo).trans (by omega)) fun Al W I => ?_
     refine zqo I (fun Al W I => have hzW := I.bel.size; sof _ qb (by first | exact (hqb hneg).symm | omega) (by have := hqb hneg; have := td hneg; omega) W) fun Al W p35 c35 I => ?_
     refine zqo I (fun Al W I => have hzW := I.bel.size; (HW qb 0 (by have := hqb hneg; have := td hneg; omega) (by omega) W p35 c35 I.fa.1.rd I.fa.1.le_cap I.fa.2.2.2.2.2.1).out) fun Al W p36 c36 I => ?_
     refine zqo I (fun Al W I => have hzW := I.bel.size; (HPL qa qb 1 (by have := hqa hneg; have := td hneg; omega) (by have := hqb hneg; have := td hneg; omega) (by omega) W p31 p36 c31 c36 _ I.fa.2.2.1 I.fa.1 I.fa.2.2.2.2.2.2.1 I.bel.size).out) fun Al W p37 c37 I => ?_
     refine zq I (fun Al W I => u0o (f0e (norm (qa : Int) 1) (norm (qb : Int) 0)).neg p37 _ c37 (f0e (norm (qa : Int) 1) (norm (qb : Int) 0)).e (f0e (norm (qa : Int) 1) (norm (qb : Int) 0)).m W rfl) fun Al W I => ?_
     refine zge I 0 182 (fun Al W I => (HNU _ (e2 qa qb (hq3 hneg)) W p37 c37 _ (I.box 0 182 _) I.fa.1.rd).out) fun Al V Iv _ _ kz => ?_
     rintro _ W ⟨v48, hR48, p48, c48, rfl, o48, hO, hB⟩
     refine ⟨_, rfl, kz _ (uS f fm way (flS : Int)) _ hO hB fun I => ?_⟩
     have I := I.own o48
     refine zq I (fun Al W I => (HTL W v48 p48 c48 _ _ (I.box 0 182 _) I.fa.1 hR48 I.fa.2.2.2.2.2.2.2.2.1).out) fun Al W I => ?_
     exact zrb I
   refine zb I 26 (decide (n < 0)) (false) (dFa hneg) fun Al W I => ?_
   by_cases hbig : n ≥ 4611686018427387904
   · refine zb I 40 (decide (n ≥ 4611686018427387904)) (true) (dTr hbig) fun Al W I => ?_
     refine zcut I none (fun fr bx gs => ∃ (U1 : Nat → Value) (p44 : Option Addr) (c44 : Nat), fr = (.v (.int .i64 n) :: .v (.int .i64 fm) :: .v (.int .i64 way) :: su 3 (.v (Go.Value.string (ByteArray.mk #[])) :: .v (.int .i64 0) :: .v (.int .i64 0) :: .p 0 0 :: .v (.int .i64 0) :: .p 1 0 :: sw U1 12 7 (.v (.bool false) :: sw U1 20 6 (.v (.bool false) :: sw U1 27 13 (.v (.bool true) :: sw U1 41 12 [])))) : List SV) ∧ bx = [⟨182, (uS f fm way 0), false⟩, ⟨112, [.v (.bool ((f0e (norm (N1 : Int) 0) (norm ((1 : Nat) : Int) 62)).neg)), .v (.slice p44 (dig B32 (f0e (norm (N1 : Int) 0) (norm ((1 : Nat) : Int) 62)).m).length c44), .v (.int .i64 ((f0e (norm (N1 : Int) 0) (norm ((1 : Nat) : Int) 62)).e))], false⟩] ∧ gs = [ownF w.heap.size .u32 141 p44 c44 (dig B32 (f0e (norm (N1 : Int) 0) (norm ((1 : Nat) : Int) 62)).m), ownF w.heap.size .u32 141 p24 c24 (dig B32 (norm (N1 : Int) 0).m), ownF w.heap.size .u32 141 p23 c23 (dig B32 N1), tabF]) ?_ ?_
     · intro J hJ Al W I
       refine zd [1] I fun Al W I => ?_
       refine zo2 0 1 I (fun I => ?_) (fun I => ?_)
       · refine zn I fun Al W I => ?_
         refine zo 1 I fun I => ?_
         refine zqo I (fun Al W I => q0r W) fun Al W p42 c42 I => ?_
         refine zo 2 I fun I => ?_
         refine zqo I (fun Al W I => have hzW := I.bel.size; (HW 1 62 (by omega) (by omega) W p42 c42 I.fa.1.rd I.fa.1.le_cap I.fa.2.2.2.1).out) fun Al W p43 c43 I => ?_
         refine zo 3 I fun I => ?_
         refine zqo I (fun Al W I => have hzW := I.bel.size; (HPR N1 1 (by omega) (by omega) W p24 p43 c24 c43 _ I.fa.2.2.1 I.fa.1 I.fa.2.2.2.2.1 I.bel.size).out) fun Al W p44 c44 I => ?_
         refine zo 4 I fun I => ?_
         refine zn I fun Al W I => ?_
         exact a0y I J fun Al W U I => hJ _ _ _ _ _ ⟨U, p44, c44, rfl, rfl, rfl⟩ (I.pick [0, 3, 4, 5])
       refine zqo I (fun Al W I => q0r W) fun Al W p42 c42 I => ?_
       refine zo2 0 2 I (fun I => ?_) (fun I => ?_)
       · refine zn I fun Al W I => ?_
         refine zo 2 I fun I => ?_
         refine zqo I (fun Al W I => have hzW := I.bel.size; (HW 1 62 (by omega) (by omega) W p42 c42 I.fa.1.rd I.fa.1.le_cap I.fa.2.2.2.1).out) fun Al W p43 c43 I => ?_
         refine zo 3 I fun I => ?_
         refine zqo I (fun Al W I => have hzW := I.bel.size; (HPR N1 1 (by omega) (by omega) W p24 p43 c24 c43 _ I.fa.2.2.1 I.fa.1 I.fa.2.2.2.2.1 I.bel.size).out) fun Al W p44 c44 I => ?_
         refine zo 4 I fun I => ?_
         refine zn I fun Al W I => ?_
         exact a0y I J fun Al W U I => hJ _ _ _ _ _ ⟨U, p44, c44, rfl, rfl, rfl⟩ (I.pick [0, 3, 4, 5])
       refine zqo I (fun Al W I => have hzW := I.bel.size; (HW 1 62 (by omega) (by omega) W p42 c42 I.fa.1.rd I.fa.1.le_cap I.fa.2.2.2.1).out) fun Al W p43 c43 I => ?_
       refine zo 0 I fun I => ?_
       refine zn I fun Al W I => ?_
       refine zo 3 I fun I => ?_
       refine zqo I (fun Al W I => have hzW := I.bel.size; (HPR N1 1 (by omega) (by omega) W p24 p43 c24 c43 _ I.fa.2.2.1 I.fa.1 I.fa.2.2.2.2.1 I.bel.size).out) fun Al W p44 c44 I => ?_
       refine zo 4 I fun I => ?_
       refine zn I fun Al W I => ?_
       exact a0y I J fun Al W U I => hJ _ _ _ _ _ ⟨U, p44, c44, rfl, rfl, rfl⟩ (I.pick [0, 3, 4, 5])
     rintro _ _ _ ⟨U1, p44, c44, rfl, rfl, rfl⟩ Al W I
     refine zge I 0 182 (fun Al W I => have hzW := I.bel.size; (HNU _ (e3 N1 (by omega)) W p44 c44 _ (I.box 0 182 _) I.fa.1.rd).out) fun Al V Iv _ _ kz => ?_
     rintro _ W ⟨v48, hR48, p48, c48, rfl, o48, hO, hB⟩
     refine ⟨_, rfl, kz _ (uS f fm way (flS : Int)) _ hO hB fun I => ?_⟩
     have I := I.own o48
     refine zq I (fun Al W I => (HTL W v48 p48 c48 _ _ (I.box 0 182 _) I.fa.1 hR48 I.fa.2.2.2.2.1).out) fun Al W I => ?_
     exact zrb I
   refine zb I 40 (decide (n ≥ 4611686018427387904)) (false) (dFa hbig) fun Al W I => ?_
   refine zge I 0 182 (fun Al W I => have hzW := I.bel.size; (HNU _ (eP N1 (by omega) (by omega)) W p24 c24 _ (I.box 0 182 _) I.fa.1.rd).out) fun Al V Iv _ _ kz => ?_
   rintro _ W ⟨v48, hR48, p48, c48, rfl, o48, hO, hB⟩
   refine ⟨_, rfl, kz _ (uS f fm way (flS : Int)) _ hO hB fun I => ?_⟩
   have I := I.own o48
   refine zq I (fun Al W I => (HTL W v48 p48 c48 _ _ (I.box 0 182 _) I.fa.1 hR48 I.fa.2.2.2.1).out) fun Al W I => ?_
   exact zrb I
 · have h0 : errR fm way [] = 6 := by
    unfold errR
    by_cases hn : IsFm fm
    · rw [if_pos hn, if_pos (show errL fm [] = 0 from rfl), if_neg (fun h => hok ⟨hn, h⟩)]
    · rw [if_neg hn]
   simp only [h0, show ((6 : Int) = 0) = False by simp, if_false]
   have HO := fun W => hi0 (r0h fm way W hok)
   have I := Inv.start w [] True.intro
   refine a0d [.v (.int .i64 n), .v (.int .i64 fm), .v (.int .i64 way)] I Tryz.func16 ?_
   refine zq I (fun Al W I => (HO W).out) fun Al W I => ?_
   exact zrb I
def y0h (v : Nat) (neg : Bool) : Int × Bool := if v < 9223372036854775808 then (if neg = true then -(v : Int) else v, true) else (-9223372036854775808, neg && decide (v = 9223372036854775808))
theorem i1z {v i : Nat} (hi : i < 2) : bits .or .u64 (((v % B32 ^ i : Nat) : Int)) (((v / B32 ^ i % B32 * 2 ^ (32 * i) : Nat)) : Int) = ((v % B32 ^ (i + 1) : Nat) : Int) := by
 have hB : B32 = 4294967296 := rfl
 have hx : v / B32 ^ i % B32 < B32 := Nat.mod_lt _ (by unfold B32; omega)
 rcases (show i = 0 ∨ i = 1 by omega) with rfl | rfl
 · simp only [Nat.pow_zero, Nat.mod_one, Nat.div_one, Nat.mul_zero, Nat.mul_one, Nat.zero_add, Nat.pow_one]
   rw [u64_or_nat 0 (v % B32) (by omega) (by rw [hB]; omega), Nat.zero_or]
 · simp only [Nat.pow_one, Nat.mul_one]
   have h1 : v % B32 < 4294967296 := by rw [hB]; omega
   have h2 : v / B32 % B32 * 2 ^ 32 < 18446744073709551616 := by rw [hB]; omega
   rw [u64_or_nat _ _ (by omega) h2, Nat.or_comm, nat_join 32 (v / B32 % B32 * 2 ^ 32) (v % B32) (by omega) (by omega)]
   have : v % B32 ^ (1 + 1) = v % B32 + B32 * (v / B32 % B32) := by
    rw [show (1 + 1) = 2 from rfl, Nat.pow_two, Nat.mod_mul]
   rw [this, hB]
   omega
theorem j1a {v i : Nat} : dg (dig B32 v) i = v / B32 ^ i % B32 := w0q a0b v i
theorem v0j (p : Option Addr) (c : Nat) (v : Nat) (neg : Bool) (w : World) (hp : Rd w .u32 p (dig B32 v)) (hv : v < 18446744073709551616) :
 Calls Tryz.prog 73 #[.slice p (dig B32 v).length c, .bool neg] w fun en w' => en = .returned (.tuple #[.int .i64 (y0h v neg).1, .bool (y0h v neg).2]) ∧ Below w.heap.size w w' := by
 have hl : (dig B32 v).length ≤ 2 := (a0g a0b _ 2).2 (by unfold B32; omega)
 have HL := fun W h => hi0 (stay (f0w p _ c v W h rfl (by omega)))
 have hbl : blen v < 64 ↔ v < 9223372036854775808 := by
  have := b0i v 63
  omega
 have hfull : v % B32 ^ (dig B32 v).length = v := Nat.mod_eq_of_lt ((a0g a0b v _).1 (Nat.le_refl _))
 have hstep : ∀ i, i < (dig B32 v).length → bits .or .u64 (((v % B32 ^ i : Nat) : Int)) (((dg (dig B32 v) i * 2 ^ (32 * i) : Nat)) : Int) = ((v % B32 ^ (i + 1) : Nat) : Int) := fun i h => by rw [j1a]; exact i1z (by omega)
 have hsh : ∀ i, i < (dig B32 v).length → IntKind.u64.wrap (((dg (dig B32 v) i : Nat) : Int) * 2 ^ (min (32 * (i : Int)).toNat IntKind.u64.bits)) = ((dg (dig B32 v) i * 2 ^ (32 * i) : Nat) : Int) := fun i h => by
  have hx : dg (dig B32 v) i < 4294967296 := by rw [j1a]; exact Nat.mod_lt _ (by unfold B32; omega)
  rcases (show i = 0 ∨ i = 1 by omega) with rfl | rfl
  · simp only [Nat.mul_zero, Nat.pow_zero, Nat.mul_one]
    rw [show min (32 * ((0 : Nat) : Int)).toNat IntKind.u64.bits = 0 from rfl, Int.pow_zero, Int.mul_one]
    exact IntWalk.u64_in _ (by omega)
  · rw [show min (32 * ((1 : Nat) : Int)).toNat IntKind.u64.bits = 32 from rfl, Nat.mul_one]
    rw [IntWalk.u64_in _ (by omega)]
    simp
 have HU : ∀ X : Int, 0 ≤ X → X < 9223372036854775808 → IntKind.i64.wrap X = X := fun X h1 h2 => iwo
 have hM : y0h v neg = if v < 9223372036854775808 then (if neg = true then -(v : Int) else v, true) else (-9223372036854775808, neg && decide (v = 9223372036854775808)) := rfl
 have hdg : ∀ i, dg (dig B32 v) i < 4294967296 := fun i => by rw [j1a]; exact Nat.mod_lt _ (by unfold B32; omega)
 generalize blen v = bl at *
 have I := Inv.start w [rdF .u32 p (dig B32 v)] ⟨hp, True.intro⟩
 refine a0d [.v (.slice p (dig B32 v).length c), .v (.bool neg)] I Tryz.func73 ?_
 refine h1s I (fun gk fr bx gs => ∃ (U900 : Nat → Value) (i : Nat) (u : Nat), fr = (.v (.slice p (dig B32 v).length c) :: .v (.bool neg) :: su 2 (.v (.int .i64 0) :: .v (.bool false) :: .v (.int .u64 (u : Int)) :: sw U900 7 2 (.v (.slice p (dig B32 v).length c) :: .v (.int .i64 (((dig B32 v).length : Nat) : Int)) :: .v (.int .i64 (i : Int)) :: sw U900 12 12 (.v undef :: sw U900 25 9 (.v undef :: sw U900 35 10 [])))) : List SV) ∧ bx = [] ∧ gs = [rdF .u32 p (dig B32 v)] ∧ (u = v % B32 ^ i) ∧ (gk + i = (dig B32 v).length)) ((dig B32 v).length) (fun Al W U I => ⟨_, ⟨U, 0, 0, rfl, rfl, rfl, (by rw [Nat.pow_zero, Nat.mod_one]), (by omega)⟩, I.pick [0]⟩) ?_
 rintro J gk0 _ _ _ ⟨U900, i, u, rfl, rfl, rfl, hu, hgk⟩ hJ Al W I
 rcases Bool.eq_false_or_eq_true (decide ((i : Int) < (((dig B32 v).length : Nat) : Int))) with f12 | f12
 · refine zb I 12 (decide ((i : Int) < (((dig B32 v).length : Nat) : Int))) (true) (f12) fun Al W I => ?_
   refine zx I 14 (fun _ => .pointer (some (at_ p i))) (fun Al W I => (o0t (m := i) (n := (dig B32 v).length) (c := c) k1r I.fa.1.solid (by have := oTr f12; omega))) fun Al W I => ?_
   refine zx I 15 (fun _ => .int .u32 ((dg (dig B32 v) i : Nat) : Int)) (fun Al W I => (g1k I.fa.1 k1s (by have := oTr f12; omega))) fun Al W I => ?_
   refine zi I 18 .u64 ((dg (dig B32 v) i : Nat) : Int) (((dg (dig B32 v) i : Nat) : Int)) ((by exact IntWalk.u64_in _ (by have := hdg i; omega))) fun Al W I => ?_
   refine zi I 20 .i64 ((32 : Int) * (i : Int)) ((32 : Int) * (i : Int)) (iwo) fun Al W I => ?_
   refine zbin I 21 _ (fun _ _ _ _ _ => c0q .u64 (((dg (dig B32 v) i : Nat) : Int)) .i64 ((32 : Int) * (i : Int)) (((dg (dig B32 v) i * 2 ^ (32 * i) : Nat) : Int)) (by omega) ((hsh i (by have := oTr f12; omega)))) fun Al W I => ?_
   refine zbin I 22 _ (fun _ _ _ _ _ => g1i .u64 (u : Int) (((dg (dig B32 v) i * 2 ^ (32 * i) : Nat) : Int)) (((v % B32 ^ (i + 1) : Nat) : Int)) ((by rw [hu]; exact hstep i (by have := oTr f12; omega)))) fun Al W I => ?_
   refine zi I 23 .i64 ((i : Int) + 1) ((i : Int) + 1) (iwo) fun Al W I => ?_
   exact a0y I J fun Al W U I => hJ (gk0 - 1) _ _ _ _ _ ((by have := oTr f12; omega)) ⟨U, i + 1, v % B32 ^ (i + 1), rfl, rfl, rfl, rfl, (by have := oTr f12; omega)⟩ (I.pick [0])
 refine zb I 12 (decide ((i : Int) < (((dig B32 v).length : Nat) : Int))) (false) (f12) fun Al W I => ?_
 by_cases hs : v < 9223372036854775808
 · by_cases ng : neg = true
   · have hi : i = (dig B32 v).length := by have := oFa f12; omega
     rw [hi, hfull] at hu
     refine zq I (fun Al W I => (HL W I.fa.1).out) fun Al W I => ?_
     refine zb I 27 (decide ((bl : Int) < 64)) (true) (dTr (by omega)) fun Al W I => ?_
     refine zb I 29 (neg) (true) (ng) fun Al W I => ?_
     refine zi I 32 .i64 (u : Int) (u : Int) (iwo) fun Al W I => ?_
     refine zi I 33 .i64 (0 - (u : Int)) (-(u : Int)) ((iwo).trans (by omega)) fun Al W I => ?_
     exact zret I (v := fun Al => .tuple #[.int .i64 (-(u : Int)), .bool true]) fun Al W I => ⟨by rw [hM, if_pos hs, if_pos ng, hu], I.below⟩
   have hi : i = (dig B32 v).length := by have := oFa f12; omega
   rw [hi, hfull] at hu
   refine zq I (fun Al W I => (HL W I.fa.1).out) fun Al W I => ?_
   refine zb I 27 (decide ((bl : Int) < 64)) (true) (dTr (by omega)) fun Al W I => ?_
   refine zb I 29 (neg) (false) ((by simpa using ng)) fun Al W I => ?_
   refine zq I (fun Al W I => (HL W I.fa.1).out) fun Al W I => ?_
   refine zb I 37 (decide ((bl : Int) < 64)) (true) (dTr (by omega)) fun Al W I => ?_
   refine zi I 39 .i64 (u : Int) (u : Int) (iwo) fun Al W I => ?_
   exact zret I (v := fun Al => .tuple #[.int .i64 (u : Int), .bool true]) fun Al W I => ⟨by rw [hM, if_pos hs, if_neg ng, hu], I.below⟩
 by_cases ng : neg = true
 · have hi : i = (dig B32 v).length := by have := oFa f12; omega
   rw [hi, hfull] at hu
   refine zq I (fun Al W I => (HL W I.fa.1).out) fun Al W I => ?_
   refine zb I 27 (decide ((bl : Int) < 64)) (false) (dFa (by omega)) fun Al W I => ?_
   refine zq I (fun Al W I => (HL W I.fa.1).out) fun Al W I => ?_
   refine zb I 37 (decide ((bl : Int) < 64)) (false) (dFa (by omega)) fun Al W I => ?_
   refine zb I 41 (neg) (true) (ng) fun Al W I => ?_
   exact zret I (v := fun Al => .tuple #[.int .i64 (-9223372036854775808), .bool ((u : Int) == 9223372036854775808)]) fun Al W I => ⟨by rw [hM, if_neg hs, ng, Bool.true_and, hu]; exact congrArg (fun b => Ending.returned (.tuple #[.int .i64 (-9223372036854775808), .bool b])) (Bool.eq_iff_iff.2 (by simp; omega)), I.below⟩
 have hi : i = (dig B32 v).length := by have := oFa f12; omega
 rw [hi, hfull] at hu
 refine zq I (fun Al W I => (HL W I.fa.1).out) fun Al W I => ?_
 refine zb I 27 (decide ((bl : Int) < 64)) (false) (dFa (by omega)) fun Al W I => ?_
 refine zq I (fun Al W I => (HL W I.fa.1).out) fun Al W I => ?_
 refine zb I 37 (decide ((bl : Int) < 64)) (false) (dFa (by omega)) fun Al W I => ?_
 refine zb I 41 (neg) (false) ((by simpa using ng)) fun Al W I => ?_
 exact zret I (v := fun Al => .tuple #[.int .i64 (-9223372036854775808), .bool false]) fun Al W I => ⟨by rw [hM, if_neg hs, show neg = false by simpa using ng]; rfl, I.below⟩
def i0q : Gd := ⟨2, 64, 0, 0, true⟩
theorem t0j : h0g i0q := ⟨.inl rfl, by decide, by decide, by decide, by decide, by decide, by decide, by decide⟩
def c1t (x : Dv) (way : Int) : Int × Nat :=
 if (y0h (a0l x.neg x.m 1 x.e i0q way).d (a0l x.neg x.m 1 x.e i0q way).neg).2 = true ∧ (a0l x.neg x.m 1 x.e i0q way).over = false then
  ((y0h (a0l x.neg x.m 1 x.e i0q way).d (a0l x.neg x.m 1 x.e i0q way).neg).1, if (a0l x.neg x.m 1 x.e i0q way).exact = true then 0 else 1) else (0, 16)
def t0k (r : Vr) (way : Int) : Int × Nat := if r.cls = 1 then (0, 0) else if r.cls ≠ 2 then (0, 16) else c1t r.x way
def c1u (n way : Int) (s : ByteArray) (w : World) (en : Ending) (w' : World) : Prop :=
 en = .returned (.tuple #[.int .i64 (if errR n way [s] = 0 then (t0k (refD n s) way).1 else 0), .int .i64 (if errR n way [s] = 0 then ((t0k (refD n s) way).2 : Int) else 0), .int .i64 (errR n way [s])]) ∧ Below w.heap.size w w'
theorem c1v (n way : Int) (s : ByteArray) (w : World) (hT : TabW w) : Calls Tryz.prog 20 #[.int .i64 n, .string s, .int .i64 way] w (c1u n way s w) := by
 unfold c1u
 have HD := fun W h => hi0 (o0y n s W h)
 by_cases hp : b0o n s = 0
 · have hn := (d0y.1 hp).1
   have hL : errL n [s] = 0 := by unfold errL errL; simp [hp]
   rw [hp] at HD
   by_cases hw : 1 ≤ way ∧ way ≤ 5
   · have h0 : errR n way [s] = 0 := by unfold errR; rw [if_pos hn, if_pos hL, if_pos hw]
     simp only [h0, if_true]
     have HO := fun W => hi0 (v0f n way W hn hw)
     have F := v0h (s := s) hn
     have V := w0w hp
     have HX := fun W p c b h1 h2 => hi0 (w0y n (decP n s) (refD n s) p c b W hn h1 V F.ok h2)
     have hcl := V.cls
     have hc := F.ok.c
     have hx2 := F.ok.x2
     have sm := F.ok.sm
     have hT0 : t0k (refD n s) way = if (refD n s).cls = 1 then (0, 0) else if (refD n s).cls ≠ 2 then (0, 16) else c1t (refD n s).x way := rfl
     generalize t0k (refD n s) way = TT at *
     generalize decP n s = v at *
     generalize refD n s = r at *
     generalize fmt n = f at *
     have s1 := sm.len
     have s2 := sm.lo
     have s3 := sm.hi
     have d1 : (dig B32 1).length ≤ 1 := by rw [f0i a0b (by omega) (by unfold B32; omega)]; simp
     have HF := fun (h : r.cls = 2) W p q c d h1 h2 => hi0 (t0g r.x.neg p q c d r.x.m 1 r.x.e i0q way W h1 h2 (by omega) (by omega) (by have := (hx2 h).1; omega) (by omega) (by omega) t0j hw.1 hw.2)
     have hlt : r.cls = 2 → (a0l r.x.neg r.x.m 1 r.x.e i0q way).d < 18446744073709551616 := fun h => by
      have h0 := (hx2 h).1
      unfold a0l
      rw [if_neg h0]
      exact v0x (show 0 < 1 by omega) t0j (m0k (by omega) (by omega) _ (b0c _).1 (by decide))
     unfold c1t at hT0
     generalize a0l r.x.neg r.x.m 1 r.x.e i0q way = P at *
     have HMa := fun (h : r.cls = 2) W p c h1 => hi0 (v0j p c P.d P.neg W h1 (hlt h))
     obtain ⟨mi, mb, hm⟩ : ∃ mi mb, y0h P.d P.neg = (mi, mb) := ⟨_, _, rfl⟩
     rw [hm] at HMa hT0
     simp only at HMa hT0
     clear hm hlt F V sm
     have I := Inv.start w [tabF] ⟨hT, True.intro⟩
     refine a0d [.v (.int .i64 n), .v (.string s), .v (.int .i64 way)] I Tryz.func20 ?_
     refine zqo I (fun Al W I => (HD W I.fa.1).out) fun Al W p22 c22 I => ?_
     refine zg I (fun Al W I => (HO W).out) fun Al V Iv _ hB _ kz => ?_
     rintro _ W ⟨u31, rfl, hge, hB, hb⟩
     refine ⟨_, rfl, kz _ _ hb fun I => ?_⟩
     by_cases h1 : r.cls = 1
     · refine zb I 39 ((v.cls : Int) == 1) (true) (dTr (by omega)) fun Al W I => ?_
       refine zret I (v := fun Al => .tuple #[.int .i64 0, .int .i64 0, .int .i64 0]) fun Al W I => ?_
       first | exact ⟨by rw [hT0, if_pos h1]; rfl, I.below⟩ | exact ⟨by rw [hT0, if_neg h1, if_pos h2]; rfl, I.below⟩ | exact ⟨by rw [hT0, if_neg h1, if_neg (by omega), if_neg (fun h => hmb h.1)]; rfl, I.below⟩ | exact ⟨by rw [hT0, if_neg h1, if_neg (by omega), if_neg (fun h => absurd (h.2.symm.trans hov) (by decide))]; rfl, I.below⟩ | exact ⟨by rw [hT0, if_neg h1, if_neg (by omega), if_pos ⟨hmb, by simpa using hov⟩, if_pos hex]; rfl, I.below⟩ | exact ⟨by rw [hT0, if_neg h1, if_neg (by omega), if_pos ⟨hmb, by simpa using hov⟩, if_neg hex]; rfl, I.below⟩
     refine zb I 39 ((v.cls : Int) == 1) (false) (dFa (by omega)) fun Al W I => ?_
     by_cases h2 : r.cls = 2
     · refine zb I 42 ((v.cls : Int) != 2) (false) (bne_eq_false_iff_eq.2 (by omega)) fun Al W I => ?_
       refine zqo I (fun Al W I => (HX W p22 c22 _ I.fa.1 I.fa.2.1).out) fun Al W p45 c45 I => ?_
       refine zd [] I fun Al W I => ?_
       refine zk [0, 1, 2, 3, 4, 5, 7, 8, 9, 11, 12] I fun I => ?_
       refine zo2 6 14 I (fun I => ?_) (fun I => ?_)
       · refine zqo I (fun Al W I => q0r W) fun Al W p53 c53 I => ?_
         refine zk [10] I fun I => ?_
         refine zo2 13 14 I (fun I => ?_) (fun I => ?_)
         · refine zqo I (fun Al W I => (HF h2 W p45 p53 c45 c53 I.fa.2.1.rd I.fa.1.rd).out) fun Al W p60 c60 I => ?_
           refine zo 14 I fun I => ?_
           refine zn I fun Al W I => ?_
           refine zo 15 I fun I => ?_
           refine zn I fun Al W I => ?_
           refine zq I (fun Al W I => (HMa h2 W p60 c60 I.fa.1.rd).out) fun Al W I => ?_
           by_cases hmb : mb = true
           · by_cases hov : P.over = true
             · refine zb I 70 (mb) (true) (hmb) fun Al W I => ?_
               refine zb I 72 (P.over) (true) (hov) fun Al W I => ?_
               refine zret I (v := fun Al => .tuple #[.int .i64 0, .int .i64 16, .int .i64 0]) fun Al W I => ?_
               first | exact ⟨by rw [hT0, if_pos h1]; rfl, I.below⟩ | exact ⟨by rw [hT0, if_neg h1, if_pos h2]; rfl, I.below⟩ | exact ⟨by rw [hT0, if_neg h1, if_neg (by omega), if_neg (fun h => hmb h.1)]; rfl, I.below⟩ | exact ⟨by rw [hT0, if_neg h1, if_neg (by omega), if_neg (fun h => absurd (h.2.symm.trans hov) (by decide))]; rfl, I.below⟩ | exact ⟨by rw [hT0, if_neg h1, if_neg (by omega), if_pos ⟨hmb, by simpa using hov⟩, if_pos hex]; rfl, I.below⟩ | exact ⟨by rw [hT0, if_neg h1, if_neg (by omega), if_pos ⟨hmb, by simpa using hov⟩, if_neg hex]; rfl, I.below⟩
             refine zb I 70 (mb) (true) (hmb) fun Al W I => ?_
             refine zb I 72 (P.over) (false) ((by simpa using hov)) fun Al W I => ?_
             by_cases hex : P.exact = true
             · refine zb I 76 (P.exact) (true) (hex) fun Al W I => ?_
               refine zret I (v := fun Al => .tuple #[.int .i64 mi, .int .i64 0, .int .i64 0]) fun Al W I => ?_
               first | exact ⟨by rw [hT0, if_pos h1]; rfl, I.below⟩ | exact ⟨by rw [hT0, if_neg h1, if_pos h2]; rfl, I.below⟩ | exact ⟨by rw [hT0, if_neg h1, if_neg (by omega), if_neg (fun h => hmb h.1)]; rfl, I.below⟩ | exact ⟨by rw [hT0, if_neg h1, if_neg (by omega), if_neg (fun h => absurd (h.2.symm.trans hov) (by decide))]; rfl, I.below⟩ | exact ⟨by rw [hT0, if_neg h1, if_neg (by omega), if_pos ⟨hmb, by simpa using hov⟩, if_pos hex]; rfl, I.below⟩ | exact ⟨by rw [hT0, if_neg h1, if_neg (by omega), if_pos ⟨hmb, by simpa using hov⟩, if_neg hex]; rfl, I.below⟩
             refine zb I 76 (P.exact) (false) ((by simpa using hex)) fun Al W I => ?_
             refine zret I (v := fun Al => .tuple #[.int .i64 mi, .int .i64 1, .int .i64 0]) fun Al W I => ?_
             first | exact ⟨by rw [hT0, if_pos h1]; rfl, I.below⟩ | exact ⟨by rw [hT0, if_neg h1, if_pos h2]; rfl, I.below⟩ | exact ⟨by rw [hT0, if_neg h1, if_neg (by omega), if_neg (fun h => hmb h.1)]; rfl, I.below⟩ | exact ⟨by rw [hT0, if_neg h1, if_neg (by omega), if_neg (fun h => absurd (h.2.symm.trans hov) (by decide))]; rfl, I.below⟩ | exact ⟨by rw [hT0, if_neg h1, if_neg (by omega), if_pos ⟨hmb, by simpa using hov⟩, if_pos hex]; rfl, I.below⟩ | exact ⟨by rw [hT0, if_neg h1, if_neg (by omega), if_pos ⟨hmb, by simpa using hov⟩, if_neg hex]; rfl, I.below⟩
           by_cases hov : P.over = true
           · refine zb I 70 (mb) (false) ((by simpa using hmb)) fun Al W I => ?_
             refine zret I (v := fun Al => .tuple #[.int .i64 0, .int .i64 16, .int .i64 0]) fun Al W I => ?_
             first | exact ⟨by rw [hT0, if_pos h1]; rfl, I.below⟩ | exact ⟨by rw [hT0, if_neg h1, if_pos h2]; rfl, I.below⟩ | exact ⟨by rw [hT0, if_neg h1, if_neg (by omega), if_neg (fun h => hmb h.1)]; rfl, I.below⟩ | exact ⟨by rw [hT0, if_neg h1, if_neg (by omega), if_neg (fun h => absurd (h.2.symm.trans hov) (by decide))]; rfl, I.below⟩ | exact ⟨by rw [hT0, if_neg h1, if_neg (by omega), if_pos ⟨hmb, by simpa using hov⟩, if_pos hex]; rfl, I.below⟩ | exact ⟨by rw [hT0, if_neg h1, if_neg (by omega), if_pos ⟨hmb, by simpa using hov⟩, if_neg hex]; rfl, I.below⟩
           refine zb I 70 (mb) (false) ((by simpa using hmb)) fun Al W I => ?_
           refine zret I (v := fun Al => .tuple #[.int .i64 0, .int .i64 16, .int .i64 0]) fun Al W I => ?_
           first | exact ⟨by rw [hT0, if_pos h1]; rfl, I.below⟩ | exact ⟨by rw [hT0, if_neg h1, if_pos h2]; rfl, I.below⟩ | exact ⟨by rw [hT0, if_neg h1, if_neg (by omega), if_neg (fun h => hmb h.1)]; rfl, I.below⟩ | exact ⟨by rw [hT0, if_neg h1, if_neg (by omega), if_neg (fun h => absurd (h.2.symm.trans hov) (by decide))]; rfl, I.below⟩ | exact ⟨by rw [hT0, if_neg h1, if_neg (by omega), if_pos ⟨hmb, by simpa using hov⟩, if_pos hex]; rfl, I.below⟩ | exact ⟨by rw [hT0, if_neg h1, if_neg (by omega), if_pos ⟨hmb, by simpa using hov⟩, if_neg hex]; rfl, I.below⟩
         refine zn I fun Al W I => ?_
         refine zo 13 I fun I => ?_
         refine zqo I (fun Al W I => (HF h2 W p45 p53 c45 c53 I.fa.2.1.rd I.fa.1.rd).out) fun Al W p60 c60 I => ?_
         refine zo 15 I fun I => ?_
         refine zn I fun Al W I => ?_
         refine zq I (fun Al W I => (HMa h2 W p60 c60 I.fa.1.rd).out) fun Al W I => ?_
         by_cases hmb : mb = true
         · by_cases hov : P.over = true
           · refine zb I 70 (mb) (true) (hmb) fun Al W I => ?_
             refine zb I 72 (P.over) (true) (hov) fun Al W I => ?_
             refine zret I (v := fun Al => .tuple #[.int .i64 0, .int .i64 16, .int .i64 0]) fun Al W I => ?_
             first | exact ⟨by rw [hT0, if_pos h1]; rfl, I.below⟩ | exact ⟨by rw [hT0, if_neg h1, if_pos h2]; rfl, I.below⟩ | exact ⟨by rw [hT0, if_neg h1, if_neg (by omega), if_neg (fun h => hmb h.1)]; rfl, I.below⟩ | exact ⟨by rw [hT0, if_neg h1, if_neg (by omega), if_neg (fun h => absurd (h.2.symm.trans hov) (by decide))]; rfl, I.below⟩ | exact ⟨by rw [hT0, if_neg h1, if_neg (by omega), if_pos ⟨hmb, by simpa using hov⟩, if_pos hex]; rfl, I.below⟩ | exact ⟨by rw [hT0, if_neg h1, if_neg (by omega), if_pos ⟨hmb, by simpa using hov⟩, if_neg hex]; rfl, I.below⟩
           refine zb I 70 (mb) (true) (hmb) fun Al W I => ?_
           refine zb I 72 (P.over) (false) ((by simpa using hov)) fun Al W I => ?_
           by_cases hex : P.exact = true
           · refine zb I 76 (P.exact) (true) (hex) fun Al W I => ?_
             refine zret I (v := fun Al => .tuple #[.int .i64 mi, .int .i64 0, .int .i64 0]) fun Al W I => ?_
             first | exact ⟨by rw [hT0, if_pos h1]; rfl, I.below⟩ | exact ⟨by rw [hT0, if_neg h1, if_pos h2]; rfl, I.below⟩ | exact ⟨by rw [hT0, if_neg h1, if_neg (by omega), if_neg (fun h => hmb h.1)]; rfl, I.below⟩ | exact ⟨by rw [hT0, if_neg h1, if_neg (by omega), if_neg (fun h => absurd (h.2.symm.trans hov) (by decide))]; rfl, I.below⟩ | exact ⟨by rw [hT0, if_neg h1, if_neg (by omega), if_pos ⟨hmb, by simpa using hov⟩, if_pos hex]; rfl, I.below⟩ | exact ⟨by rw [hT0, if_neg h1, if_neg (by omega), if_pos ⟨hmb, by simpa using hov⟩, if_neg hex]; rfl, I.below⟩
           refine zb I 76 (P.exact) (false) ((by simpa using hex)) fun Al W I => ?_
           refine zret I (v := fun Al => .tuple #[.int .i64 mi, .int .i64 1, .int .i64 0]) fun Al W I => ?_
           first | exact ⟨by rw [hT0, if_pos h1]; rfl, I.below⟩ | exact ⟨by rw [hT0, if_neg h1, if_pos h2]; rfl, I.below⟩ | exact ⟨by rw [hT0, if_neg h1, if_neg (by omega), if_neg (fun h => hmb h.1)]; rfl, I.below⟩ | exact ⟨by rw [hT0, if_neg h1, if_neg (by omega), if_neg (fun h => absurd (h.2.symm.trans hov) (by decide))]; rfl, I.below⟩ | exact ⟨by rw [hT0, if_neg h1, if_neg (by omega), if_pos ⟨hmb, by simpa using hov⟩, if_pos hex]; rfl, I.below⟩ | exact ⟨by rw [hT0, if_neg h1, if_neg (by omega), if_pos ⟨hmb, by simpa using hov⟩, if_neg hex]; rfl, I.below⟩
         by_cases hov : P.over = true
         · refine zb I 70 (mb) (false) ((by simpa using hmb)) fun Al W I => ?_
           refine zret I (v := fun Al => .tuple #[.int .i64 0, .int .i64 16, .int .i64 0]) fun Al W I => ?_
           first | exact ⟨by rw [hT0, if_pos h1]; rfl, I.below⟩ | exact ⟨by rw [hT0, if_neg h1, if_pos h2]; rfl, I.below⟩ | exact ⟨by rw [hT0, if_neg h1, if_neg (by omega), if_neg (fun h => hmb h.1)]; rfl, I.below⟩ | exact ⟨by rw [hT0, if_neg h1, if_neg (by omega), if_neg (fun h => absurd (h.2.symm.trans hov) (by decide))]; rfl, I.below⟩ | exact ⟨by rw [hT0, if_neg h1, if_neg (by omega), if_pos ⟨hmb, by simpa using hov⟩, if_pos hex]; rfl, I.below⟩ | exact ⟨by rw [hT0, if_neg h1, if_neg (by omega), if_pos ⟨hmb, by simpa using hov⟩, if_neg hex]; rfl, I.below⟩
         refine zb I 70 (mb) (false) ((by simpa using hmb)) fun Al W I => ?_
         refine zret I (v := fun Al => .tuple #[.int .i64 0, .int .i64 16, .int .i64 0]) fun Al W I => ?_
         first | exact ⟨by rw [hT0, if_pos h1]; rfl, I.below⟩ | exact ⟨by rw [hT0, if_neg h1, if_pos h2]; rfl, I.below⟩ | exact ⟨by rw [hT0, if_neg h1, if_neg (by omega), if_neg (fun h => hmb h.1)]; rfl, I.below⟩ | exact ⟨by rw [hT0, if_neg h1, if_neg (by omega), if_neg (fun h => absurd (h.2.symm.trans hov) (by decide))]; rfl, I.below⟩ | exact ⟨by rw [hT0, if_neg h1, if_neg (by omega), if_pos ⟨hmb, by simpa using hov⟩, if_pos hex]; rfl, I.below⟩ | exact ⟨by rw [hT0, if_neg h1, if_neg (by omega), if_pos ⟨hmb, by simpa using hov⟩, if_neg hex]; rfl, I.below⟩
       refine zn I fun Al W I => ?_
       refine zo 6 I fun I => ?_
       refine zqo I (fun Al W I => q0r W) fun Al W p53 c53 I => ?_
       refine zk [10] I fun I => ?_
       refine zo 13 I fun I => ?_
       refine zqo I (fun Al W I => (HF h2 W p45 p53 c45 c53 I.fa.2.1.rd I.fa.1.rd).out) fun Al W p60 c60 I => ?_
       refine zo 15 I fun I => ?_
       refine zn I fun Al W I => ?_
       refine zq I (fun Al W I => (HMa h2 W p60 c60 I.fa.1.rd).out) fun Al W I => ?_
       by_cases hmb : mb = true
       · by_cases hov : P.over = true
         · refine zb I 70 (mb) (true) (hmb) fun Al W I => ?_
           refine zb I 72 (P.over) (true) (hov) fun Al W I => ?_
           refine zret I (v := fun Al => .tuple #[.int .i64 0, .int .i64 16, .int .i64 0]) fun Al W I => ?_
           first | exact ⟨by rw [hT0, if_pos h1]; rfl, I.below⟩ | exact ⟨by rw [hT0, if_neg h1, if_pos h2]; rfl, I.below⟩ | exact ⟨by rw [hT0, if_neg h1, if_neg (by omega), if_neg (fun h => hmb h.1)]; rfl, I.below⟩ | exact ⟨by rw [hT0, if_neg h1, if_neg (by omega), if_neg (fun h => absurd (h.2.symm.trans hov) (by decide))]; rfl, I.below⟩ | exact ⟨by rw [hT0, if_neg h1, if_neg (by omega), if_pos ⟨hmb, by simpa using hov⟩, if_pos hex]; rfl, I.below⟩ | exact ⟨by rw [hT0, if_neg h1, if_neg (by omega), if_pos ⟨hmb, by simpa using hov⟩, if_neg hex]; rfl, I.below⟩
         refine zb I 70 (mb) (true) (hmb) fun Al W I => ?_
         refine zb I 72 (P.over) (false) ((by simpa using hov)) fun Al W I => ?_
         by_cases hex : P.exact = true
         · refine zb I 76 (P.exact) (true) (hex) fun Al W I => ?_
           refine zret I (v := fun Al => .tuple #[.int .i64 mi, .int .i64 0, .int .i64 0]) fun Al W I => ?_
           first | exact ⟨by rw [hT0, if_pos h1]; rfl, I.below⟩ | exact ⟨by rw [hT0, if_neg h1, if_pos h2]; rfl, I.below⟩ | exact ⟨by rw [hT0, if_neg h1, if_neg (by omega), if_neg (fun h => hmb h.1)]; rfl, I.below⟩ | exact ⟨by rw [hT0, if_neg h1, if_neg (by omega), if_neg (fun h => absurd (h.2.symm.trans hov) (by decide))]; rfl, I.below⟩ | exact ⟨by rw [hT0, if_neg h1, if_neg (by omega), if_pos ⟨hmb, by simpa using hov⟩, if_pos hex]; rfl, I.below⟩ | exact ⟨by rw [hT0, if_neg h1, if_neg (by omega), if_pos ⟨hmb, by simpa using hov⟩, if_neg hex]; rfl, I.below⟩
         refine zb I 76 (P.exact) (false) ((by simpa using hex)) fun Al W I => ?_
         refine zret I (v := fun Al => .tuple #[.int .i64 mi, .int .i64 1, .int .i64 0]) fun Al W I => ?_
         first | exact ⟨by rw [hT0, if_pos h1]; rfl, I.below⟩ | exact ⟨by rw [hT0, if_neg h1, if_pos h2]; rfl, I.below⟩ | exact ⟨by rw [hT0, if_neg h1, if_neg (by omega), if_neg (fun h => hmb h.1)]; rfl, I.below⟩ | exact ⟨by rw [hT0, if_neg h1, if_neg (by omega), if_neg (fun h => absurd (h.2.symm.trans hov) (by decide))]; rfl, I.below⟩ | exact ⟨by rw [hT0, if_neg h1, if_neg (by omega), if_pos ⟨hmb, by simpa using hov⟩, if_pos hex]; rfl, I.below⟩ | exact ⟨by rw [hT0, if_neg h1, if_neg (by omega), if_pos ⟨hmb, by simpa using hov⟩, if_neg hex]; rfl, I.below⟩
       by_cases hov : P.over = true
       · refine zb I 70 (mb) (false) ((by simpa using hmb)) fun Al W I => ?_
         refine zret I (v := fun Al => .tuple #[.int .i64 0, .int .i64 16, .int .i64 0]) fun Al W I => ?_
         first | exact ⟨by rw [hT0, if_pos h1]; rfl, I.below⟩ | exact ⟨by rw [hT0, if_neg h1, if_pos h2]; rfl, I.below⟩ | exact ⟨by rw [hT0, if_neg h1, if_neg (by omega), if_neg (fun h => hmb h.1)]; rfl, I.below⟩ | exact ⟨by rw [hT0, if_neg h1, if_neg (by omega), if_neg (fun h => absurd (h.2.symm.trans hov) (by decide))]; rfl, I.below⟩ | exact ⟨by rw [hT0, if_neg h1, if_neg (by omega), if_pos ⟨hmb, by simpa using hov⟩, if_pos hex]; rfl, I.below⟩ | exact ⟨by rw [hT0, if_neg h1, if_neg (by omega), if_pos ⟨hmb, by simpa using hov⟩, if_neg hex]; rfl, I.below⟩
       refine zb I 70 (mb) (false) ((by simpa using hmb)) fun Al W I => ?_
       refine zret I (v := fun Al => .tuple #[.int .i64 0, .int .i64 16, .int .i64 0]) fun Al W I => ?_
       first | exact ⟨by rw [hT0, if_pos h1]; rfl, I.below⟩ | exact ⟨by rw [hT0, if_neg h1, if_pos h2]; rfl, I.below⟩ | exact ⟨by rw [hT0, if_neg h1, if_neg (by omega), if_neg (fun h => hmb h.1)]; rfl, I.below⟩ | exact ⟨by rw [hT0, if_neg h1, if_neg (by omega), if_neg (fun h => absurd (h.2.symm.trans hov) (by decide))]; rfl, I.below⟩ | exact ⟨by rw [hT0, if_neg h1, if_neg (by omega), if_pos ⟨hmb, by simpa using hov⟩, if_pos hex]; rfl, I.below⟩ | exact ⟨by rw [hT0, if_neg h1, if_neg (by omega), if_pos ⟨hmb, by simpa using hov⟩, if_neg hex]; rfl, I.below⟩
     refine zb I 42 ((v.cls : Int) != 2) (true) (bne_iff_ne.2 (by omega)) fun Al W I => ?_
     refine zret I (v := fun Al => .tuple #[.int .i64 0, .int .i64 16, .int .i64 0]) fun Al W I => ?_
     first | exact ⟨by rw [hT0, if_pos h1]; rfl, I.below⟩ | exact ⟨by rw [hT0, if_neg h1, if_pos h2]; rfl, I.below⟩ | exact ⟨by rw [hT0, if_neg h1, if_neg (by omega), if_neg (fun h => hmb h.1)]; rfl, I.below⟩ | exact ⟨by rw [hT0, if_neg h1, if_neg (by omega), if_neg (fun h => absurd (h.2.symm.trans hov) (by decide))]; rfl, I.below⟩ | exact ⟨by rw [hT0, if_neg h1, if_neg (by omega), if_pos ⟨hmb, by simpa using hov⟩, if_pos hex]; rfl, I.below⟩ | exact ⟨by rw [hT0, if_neg h1, if_neg (by omega), if_pos ⟨hmb, by simpa using hov⟩, if_neg hex]; rfl, I.below⟩
   · have h0 : errR n way [s] = 6 := by unfold errR; rw [if_pos hn, if_pos hL, if_neg hw]
     simp only [h0, show ((6 : Int) = 0) = False by simp, if_false]
     have HO := fun W => hi0 (r0h n way W (fun h => hw h.2))
     generalize decP n s = v at *
     have I := Inv.start w [tabF] ⟨hT, True.intro⟩
     refine a0d [.v (.int .i64 n), .v (.string s), .v (.int .i64 way)] I Tryz.func20 ?_
     refine zqo I (fun Al W I => (HD W I.fa.1).out) fun Al W p22 c22 I => ?_
     refine zq I (fun Al W I => (HO W).out) fun Al W I => ?_
     exact zrb I
 · have h0 : errR n way [s] = b0o n s := by
    unfold errR
    by_cases hn : IsFm n
    · have : errL n [s] = b0o n s := by unfold errL errL; simp [hp]
      rw [if_pos hn, this, if_neg hp]
    · rw [if_neg hn]
      unfold b0o
      rw [if_neg hn]
   simp only [h0, if_neg hp]
   generalize decP n s = v at *
   generalize b0o n s = ep at *
   have I := Inv.start w [tabF] ⟨hT, True.intro⟩
   refine a0d [.v (.int .i64 n), .v (.string s), .v (.int .i64 way)] I Tryz.func20 ?_
   refine zqo I (fun Al W I => (HD W I.fa.1).out) fun Al W p22 c22 I => ?_
   refine zb I 26 (ep != 0) (true) (bne_iff_ne.2 hp) fun Al W I => ?_
   exact zrb I
theorem k0h (w : World) (hT : TabW w) : Calls Tryz.prog 19 #[] w fun en w' => en = .returned (.bool true) ∧ Below w.heap.size w w' := by
 have R3 : ResF (fmt 4) ((fmt 4).numM (intD 3) 1).1 := w0x (b0s (by decide)) _ _
 obtain ⟨q1, q2⟩ := f1r (n := 4) (by decide) R3
 have hA : ((fmt 4).numM (intD 3) 1).2 = 0 ∧ t0k ((fmt 4).numM (intD 3) 1).1 1 = (3, 0) := by decide +kernel
 have h0 : errR 4 1 [] = 0 := by decide
 have h1 : errR 4 1 [strR 4 ((fmt 4).numM (intD 3) 1).1] = 0 := by
  unfold errR
  have : errL 4 [strR 4 ((fmt 4).numM (intD 3) 1).1] = 0 := by unfold errL errL; simp [q1]
  rw [if_pos (by decide), if_pos this, if_pos (by decide)]
 have HF := fun W h => hi0 (c1r (n0u 3 4 1 W (by decide) h))
 have HI := fun W h => hi0 (c1v 4 1 (strR 4 ((fmt 4).numM (intD 3) 1).1) W h)
 unfold c1u at HI
 unfold outS outF at HF
 simp only [h0, h1, q2, hA.1, hA.2, if_true] at HF HI
 clear q1 q2 hA h0 h1 R3
 generalize strR 4 ((fmt 4).numM (intD 3) 1).1 = str at *
 have I := Inv.start w [tabF] ⟨hT, True.intro⟩
 refine a0d [] I Tryz.func19 ?_
 refine zq I (fun Al W I => (HF W I.fa.1).out) fun Al W I => ?_
 refine zq I (fun Al W I => (HI W I.fa.1).out) fun Al W I => ?_
 refine zb I 22 (((0 : Nat) : Int) == 0) (true) (rfl) fun Al W I => ?_
 refine zb I 34 (((0 : Nat) : Int) == 0) (true) (rfl) fun Al W I => ?_
 exact zrb I
end Go.Proofs.YtmacohmclpnphaaGreatDoor
namespace Go.Slip
open Go.RowKit
section
variable {P : Program} {Q : Exit → Act → World → Prop} {E : List Nat} {w0 : World} {A : List Nat} {fs : List PF} {W : World} {c : Cfg}
theorem zunr (I : Inv E w0 A c.bx fs W) (n : Nat)
 (h : ∀ J : Nat → Act → World → Prop, (∀ m fr bx A W fs, Inv E w0 A bx fs W → (Inv E w0 A (o0r (zr P none c) fr bx (J m)).bx fs W → G P Q A (o0r (zr P none c) fr bx (J m)) W) → J (m + 1) (act A fr) W) → ∀ A W, Inv E w0 A (o0r (zr P none c) (zr P none c).fr (zr P none c).bx (J n)).bx fs W → G P Q A (o0r (zr P none c) (zr P none c).fr (zr P none c).bx (J n)) W)
 (hr : ∀ A w, (zms P none 5000 c A w).map (·.1) = (zms P none 5000 c A w).map (·.2) := by intro _ _; kernel_rfl)
 (hl : (b1b (zr P none c)).isSome = true := by kernel_rfl) : G P Q A c W :=
 c0o I hr fun A W I => by
  generalize zr P none c = c at *
  refine ⟨?_⟩
  obtain ⟨cf, cb, rg, ks⟩ := c
  cases rg with
  | pl => cases hl
  | dr => cases hl
  | one => cases hl
  | ret => cases hl
  | off =>
   cases ks with
   | nil => cases hl
   | cons k ks =>
    cases k with
    | block => cases hl
    | stop => cases hl
    | code b =>
     cases b with
     | loop b =>
      refine wp_loop_rounds (n + 1) ?_
      exact (h (fun m a w => Code.rounds P b (post P Q ks) m a w) (fun m fr bx A W fs I h => (h I).out) A W I).out
     | _ => cases hl
end
end Go.Slip
namespace Go.Proofs.YtmacohmclpnphaaGreatDoor
open Go.RowKit Go.Slip
def _root_.Go.Slip.Fm.takeM (f : Fm) (r : Vr) (way : Int) : Vr × Nat :=
 if r.cls = 1 then (f.zeroM r.neg, 0) else if r.cls = 2 then f.numM r.x way else if r.cls = 3 ∧ f.fam = 1 then (r, 0) else if r.cls = 4 ∧ f.fam = 1 then (f.nothM, 0) else f.lostM
theorem c1w {f : Fm} (G : c0e f) {r : Vr} (R : VrOk r) (way : Int) : ResF f (f.takeM r way).1 := by
 unfold Fm.takeM
 split
 · exact r0f G _
 · split
   · exact w0x G _ _
   · split
     · rename_i h
       exact i1x h.1 ⟨R, fun _ => h.2⟩
     · split <;> exact p0e G
theorem l1o (f g : Fm) (n way : Int) (v : Vl) (r : Vr) (p q : Option Addr) (c d base u : Nat) (w : World) (U : Bt w u 182 #[.int .i64 n, .int .i64 way, .int .i64 f.g.rad, .int .i64 f.g.digs, .int .i64 f.g.lo, .int .i64 f.g.hi, .bool f.g.grad, .int .u8 (famB f), .int .i64 0]) (ov : Own w base .u32 141 p c (dig B32 v.d)) (ox : Own w base .u32 141 q d (dig B32 r.x.m)) (hb : base ≤ w.heap.size)
 (V : VRep g v r) (R : VrOk r) (G : c0e f) (hw : 1 ≤ way ∧ way ≤ 5) (hT : TabW w) :
 Calls Tryz.prog 81 #[.pointer (some ⟨u, 0, none⟩), .agg #[.int .i64 (v.cls : Int), .bool v.neg, .slice p (dig B32 v.d).length c, .int .i64 v.pow], .agg #[.bool r.x.neg, .slice q (dig B32 r.x.m).length d, .int .i64 r.x.e]] w (j0e f n way u w base (f.takeM r way)) := by
 have hM : f.takeM r way = if r.cls = 1 then (f.zeroM r.neg, 0) else if r.cls = 2 then f.numM r.x way else if r.cls = 3 ∧ f.fam = 1 then (r, 0) else if r.cls = 4 ∧ f.fam = 1 then (f.nothM, 0) else f.lostM := rfl
 have hc := R.c
 have hcl := V.cls
 have hng := V.neg
 have sm := R.sm
 have s1 := sm.len
 have s2 := sm.lo
 have s3 := sm.hi
 have HZ := fun W u h1 => hi0 (c1p f n way 0 v.neg u W h1)
 have HL := fun W u h1 => hi0 (i1v f n way u W h1)
 have HN := fun W u h1 => hi0 (n0r f n way 0 u W h1)
 have HNU := fun W p c u h1 h2 => hi0 (w0v f n way r.x p c u W h1 h2 (by omega) (by omega) G hw)
 have hk2 := t0e G
 have hlostm : f.lostM = (⟨f.nothM.cls, false, vz⟩, 16) := rfl
 have hnothm : f.nothM = ⟨f.nothM.cls, false, vz⟩ := rfl
 have VI : r.cls ≠ 2 → VRep f v r := fun h => ⟨V.cls, V.neg, fun k => absurd k h, V.oth, V.len, V.lo, V.hi⟩
 obtain ⟨rS, flS, hS⟩ : ∃ rS flS, f.numM r.x way = (rS, flS) := ⟨_, _, rfl⟩
 rw [hS] at HNU hM
 have hf1 : f.fam = 1 → ((famB f : Int) == 65) = true := fun h => by unfold famB; rw [if_pos h]; rfl
 have hf2 : ¬ f.fam = 1 → ((famB f : Int) == 65) = false := fun h => by unfold famB; rw [if_neg h]; split <;> rfl
 generalize f.takeM r way = RR at *
 rw [hnothm] at hM
 generalize f.nothM.cls = kN at *
 clear hS
 have I := Inv.startW w u 182 (uS f n way 0) [ownF base .u32 141 p c (dig B32 v.d), ownF base .u32 141 q d (dig B32 r.x.m), tabF] U ⟨ov, ox, hT, True.intro⟩ ⟨fun hf => ov.far U (by kernel_rfl) hf.1 hf.2, fun hf => ox.far U (by kernel_rfl) hf.1 hf.2, fun hf => hT.far U (by kernel_rfl) hf, True.intro⟩
 refine a0d [.p 0 0, .v (.agg #[.int .i64 (v.cls : Int), .bool v.neg, .slice p (dig B32 v.d).length c, .int .i64 v.pow]), .v (.agg #[.bool r.x.neg, .slice q (dig B32 r.x.m).length d, .int .i64 r.x.e])] I Tryz.func81 ?_
 by_cases z1 : r.cls = 1
 · refine zb I 10 ((v.cls : Int) == 1) (true) (beq_iff_eq.2 (by omega)) fun Al W I => ?_
   refine zq I (fun Al W I => (HZ W _ (I.box 0 182 _)).out) fun Al W I => ?_
   rw [hM, if_pos z1, ← hng]
   exact zret I fun Al W I => d0k (k := 1) (by decide) rfl I.bel (I.boxE 182 _)
 refine zb I 10 ((v.cls : Int) == 1) (false) (bFn (by omega)) fun Al W I => ?_
 by_cases z2 : r.cls = 2
 · refine zb I 16 ((v.cls : Int) == 2) (true) (beq_iff_eq.2 (by omega)) fun Al W I => ?_
   refine zge I 0 182 (fun Al W I => (HNU W q d _ (I.box 0 182 _) I.fa.2.1.rd).out) fun Al V Iv _ _ kz => ?_
   rintro _ W ⟨v19, hR19, p19, c19, rfl, o19, hO, hB⟩
   refine ⟨_, rfl, kz _ (uS f n way (flS : Int)) _ hO hB fun I => ?_⟩
   have I := I.ownB base o19
   rw [hM, if_neg z1, if_pos z2]
   exact zret I fun Al W I => ⟨v19, hR19, p19, c19, rfl, I.fa.1, I.bel, I.boxE 182 _⟩
 refine zb I 16 ((v.cls : Int) == 2) (false) (bFn (by omega)) fun Al W I => ?_
 by_cases z3 : r.cls = 3
 · refine zb I 21 ((v.cls : Int) == 3) (true) (beq_iff_eq.2 (by omega)) fun Al W I => ?_
   by_cases zf : f.fam = 1
   · refine zb I 26 ((famB f) == 65) (true) (hf1 zf) fun Al W I => ?_
     rw [hM, if_neg z1, if_neg z2, if_pos ⟨z3, zf⟩]
     exact zret I fun Al W I => ⟨v, VI z2, p, c, rfl, I.fa.1, I.bel, I.boxE 182 _⟩
   refine zb I 26 ((famB f) == 65) (false) (hf2 zf) fun Al W I => ?_
   refine zge I 0 182 (fun Al W I => (HL W _ (I.box 0 182 _)).out) fun Al V Iv _ _ kz => ?_
   rintro _ W ⟨rfl, hO, hB⟩
   refine ⟨_, rfl, kz _ (uS f n way 16) _ hO hB fun I => ?_⟩
   rw [hM, if_neg z1, if_neg z2, if_neg (fun h => by first | exact z3 h.1 | exact zf h.2), if_neg (fun h => by first | omega | exact z4 h.1 | exact zg h.2), hlostm]
   exact zret I fun Al W I => d0k hk2 rfl I.bel (I.boxE 182 _)
 refine zb I 21 ((v.cls : Int) == 3) (false) (bFn (by omega)) fun Al W I => ?_
 by_cases z4 : r.cls = 4
 · refine zb I 29 ((v.cls : Int) == 4) (true) (beq_iff_eq.2 (by omega)) fun Al W I => ?_
   by_cases zg : f.fam = 1
   · refine zb I 34 ((famB f) == 65) (true) (hf1 zg) fun Al W I => ?_
     refine zq I (fun Al W I => (HN W _ (I.box 0 182 _)).out) fun Al W I => ?_
     rw [hM, if_neg z1, if_neg z2, if_neg (fun h => z3 h.1), if_pos ⟨z4, zg⟩]
     exact zret I fun Al W I => d0k hk2 rfl I.bel (I.boxE 182 _)
   refine zb I 34 ((famB f) == 65) (false) (hf2 zg) fun Al W I => ?_
   refine zge I 0 182 (fun Al W I => (HL W _ (I.box 0 182 _)).out) fun Al V Iv _ _ kz => ?_
   rintro _ W ⟨rfl, hO, hB⟩
   refine ⟨_, rfl, kz _ (uS f n way 16) _ hO hB fun I => ?_⟩
   rw [hM, if_neg z1, if_neg z2, if_neg (fun h => by first | exact z3 h.1 | exact zf h.2), if_neg (fun h => by first | omega | exact z4 h.1 | exact zg h.2), hlostm]
   exact zret I fun Al W I => d0k hk2 rfl I.bel (I.boxE 182 _)
 refine zb I 29 ((v.cls : Int) == 4) (false) (bFn (by omega)) fun Al W I => ?_
 refine zge I 0 182 (fun Al W I => (HL W _ (I.box 0 182 _)).out) fun Al V Iv _ _ kz => ?_
 rintro _ W ⟨rfl, hO, hB⟩
 refine ⟨_, rfl, kz _ (uS f n way 16) _ hO hB fun I => ?_⟩
 rw [hM, if_neg z1, if_neg z2, if_neg (fun h => by first | exact z3 h.1 | exact zf h.2), if_neg (fun h => by first | omega | exact z4 h.1 | exact zg h.2), hlostm]
 exact zret I fun Al W I => d0k hk2 rfl I.bel (I.boxE 182 _)
structure TnD (a : Dv) : Prop where
 len : (dig B32 a.m).length ≤ 40
 lo : -38000 ≤ a.e
 hi : a.e ≤ 38000
theorem VrOk.tn {r : Vr} (R : VrOk r) : TnD r.x := ⟨by have := R.len; omega, by have := R.lo; omega, by have := R.hi; omega⟩
theorem TnD.sm {a : Dv} (h : TnD a) : SmD a := ⟨by have := h.len; omega, by have := h.lo; omega, by have := h.hi; omega⟩
theorem m1q {w : World} {b : Nat} {p : Option Addr} {c : Nat} {r : Vr} (h : r.x = vz) : Rf w b p c (dig B16 r.x.m) := by
 rw [h]
 show Rf _ _ _ _ (dig B16 0)
 rw [a0c]
 exact ⟨Rd.nil _ _ _, Nat.zero_le _, fun h => by simp at h⟩
structure ElF (w : World) (g o : Nat) (a : Rw) : Prop where
 c0 : w.cell? ⟨g, o, none⟩ = some (.bool a.g)
 c1 : w.cell? ⟨g, o + 1, none⟩ = some (.slice a.p (dig B16 a.m).length a.c)
 c2 : w.cell? ⟨g, o + 2, none⟩ = some (.int .i64 a.e)
 lt : g < w.heap.size
theorem ElF.e3 {w : World} {g o : Nat} {a : Rw} (h : ElF w g o a) : w.cell? ⟨g, o, none⟩ = some (.bool a.g) ∧ w.cell? ⟨g, o + 1, none⟩ = some (.slice a.p (dig B16 a.m).length a.c) ∧ w.cell? ⟨g, o + 2, none⟩ = some (.int .i64 a.e) := ⟨h.c0, h.c1, h.c2⟩
theorem ElF.below {w w' : World} {B g o : Nat} {a : Rw} (h : ElF w g o a) (hb : Below B w w') (hB : g < B) : ElF w' g o a :=
 ⟨by rw [Below.cell hb hB]; exact h.c0, by rw [Below.cell hb hB]; exact h.c1, by rw [Below.cell hb hB]; exact h.c2, Nat.lt_of_lt_of_le h.lt hb.size⟩
theorem ElF.past {w w' : World} {g o : Nat} {a : Rw} (h : ElF w g o a) (hb : Below w.heap.size w w') : ElF w' g o a := h.below hb h.lt
theorem ElF.drew {w : World} {g o : Nat} {a : Rw} (h : ElF w g o a) : ElF w.drew g o a := ⟨h.c0, h.c1, h.c2, h.lt⟩
theorem ElF.laid {w : World} {g o : Nat} {a : Rw} (h : ElF w g o a) (ob : Obj) : ElF (w.alloc ob) g o a := h.past (b0w _ _)
theorem ElF.set {w : World} {g o k i : Nat} {a : Rw} {v : Value} (h : ElF w g o a) (hne : g < k) : ElF (w.setCell ⟨k, i, none⟩ v) g o a :=
 h.below ((Below.refl k w).setCell (p := ⟨k, i, none⟩) (Nat.le_refl _) v) hne
theorem l1p {a : Dv} {e : Int} (h : zOf a e = 0) : a.m = 0 := by
 unfold zOf sg at h
 have hp : 0 < 2 ^ (a.e - e).toNat := Nat.pow_pos (by omega)
 rcases Nat.eq_zero_or_pos a.m with k | k
 · exact k
 · have hq := Nat.mul_pos k hp
   have hz : (a.m : Int) * 2 ^ (a.e - e).toNat ≠ 0 := by
    have : (((a.m * 2 ^ (a.e - e).toNat : Nat)) : Int) ≠ 0 := by omega
    simpa using this
   split at h <;> first | exact absurd h hz | (exfalso; apply hz; simpa using h)
end Go.Proofs.YtmacohmclpnphaaGreatDoor
namespace Go.Slip
end Go.Slip
namespace Go.Proofs.YtmacohmclpnphaaGreatDoor
open Go.RowKit Go.Slip
/-! ### The number 1 -/
theorem y0i (x : Dv) : (f0e x (d0h x)).m = 0 := by
 have := z0k x (d0h x) (e := min x.e 0) (by omega) (show min x.e 0 ≤ x.e by omega)
 rw [x0k, Int.add_right_neg] at this
 exact l1p this
theorem sub_self {f : Fm} {r : Vr} (hc : r.cls ≤ 2) (way : Int) : ∃ g, f.addM r r.opp way = (f.zeroM g, 0) := by
 have ho : r.opp = ⟨r.cls, !r.neg, d0h r.x⟩ := by unfold Vr.opp; rw [if_pos (by omega)]
 rw [ho]
 unfold Fm.addM
 rw [if_neg (by simp only; omega), if_neg (by simp only; omega)]
 unfold Fm.sumM
 rw [if_neg (by rw [y0i]; simp)]
 split
 · exact ⟨_, rfl⟩
 · exact ⟨_, rfl⟩
def d0l (a K e f k : Nat) : Prop := e + f * k = K ∧ (1 ≤ k → 1 ≤ f) ∧ a = a
theorem d0l.start (a K : Nat) : d0l a K 0 1 K := ⟨by omega, fun _ => by omega, rfl⟩
theorem d0l.odd {a K e f k : Nat} (h : d0l a K e f k) (h1 : k % 2 = 1) : d0l a K (e + f) (f + f) (k / 2) := by
 refine ⟨?_, fun _ => by have := h.2.1; omega, rfl⟩
 have h2 := h.1
 obtain ⟨u, rfl⟩ : ∃ u, k = 2 * u + 1 := ⟨k / 2, by omega⟩
 rw [show (2 * u + 1) / 2 = u by omega]
 grind
theorem d0l.last {a K e f : Nat} (h : d0l a K e f 1) : d0l a K (e + f) f 0 := ⟨by have := h.1; omega, fun h => by omega, rfl⟩
theorem d0l.one {a K e f k : Nat} (h : d0l a K e f k) (h1 : k = 1) : d0l a K (e + f) f (k / 2) := by subst h1; exact h.last
theorem d0l.even {a K e f k : Nat} (h : d0l a K e f k) (h0 : 0 < k) (h1 : k % 2 = 0) : d0l a K e (f + f) (k / 2) := by
 refine ⟨?_, fun _ => by have := h.2.1; omega, rfl⟩
 have h2 := h.1
 obtain ⟨u, rfl⟩ : ∃ u, k = 2 * u := ⟨k / 2, by omega⟩
 rw [show (2 * u) / 2 = u by omega]
 grind
theorem d0l.le {a K e f k : Nat} (h : d0l a K e f k) (h0 : 0 < k) : e + f ≤ K := by
 have h2 := h.1
 have : f * 1 ≤ f * k := Nat.mul_le_mul_left _ h0
 omega
theorem d0l.le2 {a K e f k : Nat} (h : d0l a K e f k) : e ≤ K := by have := h.1; omega
theorem d0l.done {a K e f : Nat} (h : d0l a K e f 0) : e = K := by have := h.1; omega
theorem f1s {m n : Nat} (h : (dig B16 m).length ≤ n) : (dig B32 m).length ≤ n := (a0g a0b _ _).2 (Nat.lt_of_lt_of_le ((a0g a0e _ _).1 h) (Nat.pow_le_pow_left (by unfold B16 B32; omega) n))
theorem r0l (n way : Int) (a : Wp) (ba : Nat) (w : World) (hn : IsFm n) (hw : 1 ≤ way ∧ way ≤ 5) (oa : Rf w ba a.p a.c (dig B16 a.r.x.m)) (A1 : VrOk a.r) :
 Calls Tryz.prog 33 #[.int .i64 n, .agg #[.int .i64 (a.r.cls : Int), .bool a.r.neg, .bool a.r.x.neg, .slice a.p (dig B16 a.r.x.m).length a.c, .int .i64 a.r.x.e], .int .i64 way] w (GVf w w.heap.size ((fmt n).takeM a.r way)) := by
 have HFm := fun W => hi0 (b0e n W)
 rw [decide_eq_true hn] at HFm
 have HL := fun W => hi0 (v0g n W hn)
 have HZ := fun g W => hi0 (h0x n g W hn)
 have HN := fun W => hi0 (g0c n W hn)
 have hnothm : (fmt n).nothM = ⟨(fmt n).nothM.cls, false, vz⟩ := rfl
 have hlostm : (fmt n).lostM = (⟨(fmt n).nothM.cls, false, vz⟩, 16) := rfl
 have hzm : (fmt n).zeroM a.r.neg = ⟨1, a.r.neg && decide ((fmt n).fam = 1), vz⟩ := rfl
 have ca := A1.c
 have vza := A1.x0
 have h1 := A1.len
 have h2 := A1.lo
 have h3 := A1.hi
 have h4 := j0p a.r.x.m
 have HF := fun W p c b h1 => hi0 (n0t n way a.r.x p c b W hn hw h1 (by omega) (by omega))
 have hM : (fmt n).takeM a.r way = if a.r.cls = 1 then ((fmt n).zeroM a.r.neg, 0) else if a.r.cls = 2 then (fmt n).numM a.r.x way else if a.r.cls = 3 ∧ (fmt n).fam = 1 then (a.r, 0) else if a.r.cls = 4 ∧ (fmt n).fam = 1 then ((fmt n).nothM, 0) else (fmt n).lostM := rfl
 obtain ⟨rS, flS, hS⟩ : ∃ rS flS, (fmt n).numM a.r.x way = (rS, flS) := ⟨_, _, rfl⟩
 rw [hS] at HF hM
 unfold GVf at HF
 simp only at HF
 generalize (fmt n).takeM a.r way = R at *
 rw [hnothm] at hM
 generalize (fmt n).nothM.cls = kN at *
 clear hS
 generalize fmt n = f at *
 have I := Inv.start w [rfF ba a.p a.c (dig B16 a.r.x.m)] ⟨oa, True.intro⟩
 refine a0d [.v (.int .i64 n), .v (.agg #[.int .i64 (a.r.cls : Int), .bool a.r.neg, .bool a.r.x.neg, .slice a.p (dig B16 a.r.x.m).length a.c, .int .i64 a.r.x.e]), .v (.int .i64 way)] I Tryz.func33 ?_
 refine zq I (fun Al W I => (HFm W).out) fun Al W I => ?_
 by_cases z1 : a.r.cls = 1
 · refine zb I 18 ((a.r.cls : Int) == 1) (true) (beq_iff_eq.2 (by omega)) fun Al W I => ?_
   refine zq I (fun Al W I => (HZ a.r.neg W).out) fun Al W I => ?_
   rw [hM, if_pos z1, hzm]
   exact zret I fun Al W I => b0h (k := 1) (fl := 0) rfl I.below
 refine zb I 18 ((a.r.cls : Int) == 1) (false) (bFn (by omega)) fun Al W I => ?_
 by_cases z2 : a.r.cls = 2
 · refine zb I 26 ((a.r.cls : Int) == 2) (true) (beq_iff_eq.2 (by omega)) fun Al W I => ?_
   refine zqr I (fun Al W I => (HF W a.p a.c _ I.fa.1).out) fun Al W p31 c31 I => ?_
   rw [hM, if_neg z1, if_pos z2]
   exact zret I fun Al W I => ⟨p31, c31, rfl, I.fa.1, I.below⟩
 refine zb I 26 ((a.r.cls : Int) == 2) (false) (bFn (by omega)) fun Al W I => ?_
 by_cases z3 : a.r.cls = 3
 · by_cases zf : f.fam = 1
   · refine zb I 37 ((a.r.cls : Int) == 3) (true) (beq_iff_eq.2 (by omega)) fun Al W I => ?_
     refine zb I 41 ((f.fam : Int) == 1) (true) (beq_iff_eq.2 (by omega)) fun Al W I => ?_
     rw [hM, if_neg z1, if_neg z2, if_pos ⟨z3, zf⟩]
     exact zret I fun Al W I => ⟨a.p, a.c, rfl, m1q (vza (by omega)), I.below⟩
   refine zb I 37 ((a.r.cls : Int) == 3) (true) (beq_iff_eq.2 (by omega)) fun Al W I => ?_
   refine zb I 41 ((f.fam : Int) == 1) (false) (bFn (by omega)) fun Al W I => ?_
   by_cases z4 : a.r.cls = 4
   · refine zb I 47 ((a.r.cls : Int) == 4) (true) (beq_iff_eq.2 (by omega)) fun Al W I => ?_
     refine zb I 51 ((f.fam : Int) == 1) (false) (bFn (by omega)) fun Al W I => ?_
     refine zq I (fun Al W I => (HL W).out) fun Al W I => ?_
     rw [hM, if_neg z1, if_neg z2, if_neg (fun h => by first | exact z3 h.1 | exact zf h.2), if_neg (fun h => by first | omega | exact z4 h.1 | exact zf h.2), hlostm]
     exact zret I fun Al W I => b0h (k := kN) (fl := 16) rfl I.below
   refine zb I 47 ((a.r.cls : Int) == 4) (false) (bFn (by omega)) fun Al W I => ?_
   refine zq I (fun Al W I => (HL W).out) fun Al W I => ?_
   rw [hM, if_neg z1, if_neg z2, if_neg (fun h => by first | exact z3 h.1 | exact zf h.2), if_neg (fun h => by first | omega | exact z4 h.1 | exact zf h.2), hlostm]
   exact zret I fun Al W I => b0h (k := kN) (fl := 16) rfl I.below
 by_cases zf : f.fam = 1
 · refine zb I 37 ((a.r.cls : Int) == 3) (false) (bFn (by omega)) fun Al W I => ?_
   by_cases z4 : a.r.cls = 4
   · refine zb I 47 ((a.r.cls : Int) == 4) (true) (beq_iff_eq.2 (by omega)) fun Al W I => ?_
     refine zb I 51 ((f.fam : Int) == 1) (true) (beq_iff_eq.2 (by omega)) fun Al W I => ?_
     refine zq I (fun Al W I => (HN W).out) fun Al W I => ?_
     rw [hM, if_neg z1, if_neg z2, if_neg (fun h => z3 h.1), if_pos ⟨z4, zf⟩]
     exact zret I fun Al W I => b0h (k := kN) (fl := 0) rfl I.below
   refine zb I 47 ((a.r.cls : Int) == 4) (false) (bFn (by omega)) fun Al W I => ?_
   refine zq I (fun Al W I => (HL W).out) fun Al W I => ?_
   rw [hM, if_neg z1, if_neg z2, if_neg (fun h => by first | exact z3 h.1 | exact zf h.2), if_neg (fun h => by first | omega | exact z4 h.1 | exact zf h.2), hlostm]
   exact zret I fun Al W I => b0h (k := kN) (fl := 16) rfl I.below
 refine zb I 37 ((a.r.cls : Int) == 3) (false) (bFn (by omega)) fun Al W I => ?_
 by_cases z4 : a.r.cls = 4
 · refine zb I 47 ((a.r.cls : Int) == 4) (true) (beq_iff_eq.2 (by omega)) fun Al W I => ?_
   refine zb I 51 ((f.fam : Int) == 1) (false) (bFn (by omega)) fun Al W I => ?_
   refine zq I (fun Al W I => (HL W).out) fun Al W I => ?_
   rw [hM, if_neg z1, if_neg z2, if_neg (fun h => by first | exact z3 h.1 | exact zf h.2), if_neg (fun h => by first | omega | exact z4 h.1 | exact zf h.2), hlostm]
   exact zret I fun Al W I => b0h (k := kN) (fl := 16) rfl I.below
 refine zb I 47 ((a.r.cls : Int) == 4) (false) (bFn (by omega)) fun Al W I => ?_
 refine zq I (fun Al W I => (HL W).out) fun Al W I => ?_
 rw [hM, if_neg z1, if_neg z2, if_neg (fun h => by first | exact z3 h.1 | exact zf h.2), if_neg (fun h => by first | omega | exact z4 h.1 | exact zf h.2), hlostm]
 exact zret I fun Al W I => b0h (k := kN) (fl := 16) rfl I.below
theorem g1q {n : Int} (h : n < 0) : n.tdiv 2 = -((-n) / 2) ∧ n.tmod 2 = -((-n) % 2) := by
 have a1 := Int.neg_tdiv (-n) 2
 have a2 := Int.neg_tmod (-n) 2
 rw [Int.neg_neg] at a1 a2
 rw [a1, a2, Int.tdiv_eq_ediv_of_nonneg (by omega), Int.tmod_eq_emod_of_nonneg (by omega)]
 exact ⟨rfl, rfl⟩
theorem c1x {n : Int} {a b : Nat} (ha : (a : Int) = max (n.tdiv 2) (-(n.tdiv 2))) (hb : (b : Int) = max (n.tmod 2) (-(n.tmod 2))) : f0e (bare ⟨decide (n < 0), a, 1⟩) (bare ⟨decide (n < 0), b, 0⟩) = intD n := by
 have := l0d (sg (decide (n < 0)) a) (sg (decide (n < 0)) b) 1 0
 rw [← h0m, ← h0m]
 refine this.trans ?_
 rw [Int.pow_one, Int.pow_zero, Int.mul_one]
 unfold intD
 congr 1
 unfold sg
 by_cases h : n < 0
 · obtain ⟨a1, a2⟩ := g1q h
   rw [decide_eq_true h, if_pos rfl, if_pos rfl]
   omega
 · rw [Int.tdiv_eq_ediv_of_nonneg (by omega)] at ha
   rw [Int.tmod_eq_emod_of_nonneg (by omega)] at hb
   rw [decide_eq_false h, if_neg (by decide), if_neg (by decide)]
   omega
theorem y0j (n : Int) (w : World) (hr : -9223372036854775808 ≤ n ∧ n ≤ 9223372036854775807) : Calls Tryz.prog 18 #[.int .i64 n] w (GNf w w.heap.size (intD n)) := by
 have td : ∃ q r : Int, n.tdiv 2 = q ∧ n.tmod 2 = r ∧ -4611686018427387904 ≤ q ∧ q ≤ 4611686018427387904 ∧ -1 ≤ r ∧ r ≤ 1 := by
  refine ⟨_, _, rfl, rfl, ?_⟩
  by_cases h : n < 0
  · obtain ⟨a1, a2⟩ := g1q h
    omega
  · rw [Int.tdiv_eq_ediv_of_nonneg (by omega), Int.tmod_eq_emod_of_nonneg (by omega)]; omega
 obtain ⟨q, r, hq, hrr, b1, b2, b3, b4⟩ := td
 obtain ⟨a, ha⟩ : ∃ a : Nat, (a : Int) = max q (-q) := ⟨(max q (-q)).toNat, by omega⟩
 obtain ⟨b, hb⟩ : ∃ b : Nat, (b : Int) = max r (-r) := ⟨(max r (-r)).toNat, by omega⟩
 have hs := c1x (n := n) (a := a) (b := b) (by rw [hq]; exact ha) (by rw [hrr]; exact hb)
 have la : (dig B16 a).length ≤ 4 := (a0g a0e _ 4).2 (by unfold B16; omega)
 have lb : (dig B16 b).length ≤ 4 := (a0g a0e _ 4).2 (by unfold B16; omega)
 have fit : ∀ (g : Bool) (m : Nat) (e : Int), (dig B16 m).length ≤ 4 → 0 ≤ e → e ≤ 1 → FitR (bare ⟨g, m, e⟩) := fun g m e h1 h2 h3 => by
  have k1 := j0o a0e ⟨g, m, e⟩
  have k2 := r0x ⟨g, m, e⟩ (n := 4) (f1s h1) (lo := -1) (hi := 1) (by simp only; omega) (by simp only; omega) (by omega) (by omega)
  simp only at k1
  exact ⟨by omega, by omega, by omega⟩
 have HF1 := fun W => hi0 (f1a (a : Int) a rfl (by omega) W)
 have HF2 := fun W => hi0 (f1a (b : Int) b rfl (by omega) W)
 have HB1 := fun W p c h => hi0 (i0p (decide (n < 0)) p _ c 1 a _ W h rfl (by omega) (by omega) rfl)
 have HB2 := fun W p c h => hi0 (i0p (decide (n < 0)) p _ c 0 b _ W h rfl (by omega) (by omega) rfl)
 have f1 := fit (decide (n < 0)) a 1 la (by omega) (by omega)
 have f2 := fit (decide (n < 0)) b 0 lb (by omega) (by omega)
 generalize bare ⟨decide (n < 0), a, 1⟩ = x at *
 generalize bare ⟨decide (n < 0), b, 0⟩ = y at *
 have HP := fun W p q c d h1 h2 => hi0 (k1x x y (intD n) p q c d W h1 h2 f1 f2 hs)
 have HQ := hi0 hq
 have HR := hi0 hrr
 generalize intD n = z at *
 clear hq hrr hs fit f1 f2
 have I := Inv.start w [] True.intro
 refine a0d [.v (.int .i64 n)] I Tryz.func18 ?_
 refine zbin I 8 _ (fun _ _ _ _ _ => m0y .i64 (n) (2) (q) (by omega) ((by rw [HQ.out]; exact iwo))) fun Al W I => ?_
 refine zbin I 10 _ (fun _ _ _ _ _ => m0y .i64 (n) (2) (q) (by omega) ((by rw [HQ.out]; exact iwo))) fun Al W I => ?_
 refine zi I 11 .i64 (0 - q) (-q) ((iwo).trans (by omega)) fun Al W I => ?_
 refine zm I 12 .i64 (if ((-q) : Int) > q then (-q) else q) ((a : Int)) (((c1c _ _).trans ha.symm)) fun Al W I => ?_
 refine zqr I (fun Al W I => (HF1 W).out) fun Al W p13 c13 I => ?_
 refine zbin I 18 _ (fun _ _ _ _ _ => q0n .i64 (n) (2) (r) (by omega) (HR.out)) fun Al W I => ?_
 refine zbin I 20 _ (fun _ _ _ _ _ => q0n .i64 (n) (2) (r) (by omega) (HR.out)) fun Al W I => ?_
 refine zi I 21 .i64 (0 - r) (-r) ((iwo).trans (by omega)) fun Al W I => ?_
 refine zm I 22 .i64 (if ((-r) : Int) > r then (-r) else r) ((b : Int)) (((c1c _ _).trans hb.symm)) fun Al W I => ?_
 refine zqr I (fun Al W I => (HF2 W).out) fun Al W p23 c23 I => ?_
 refine zd [0] I fun Al W I => ?_
 refine zk [0, 2] I fun I => ?_
 refine zo 1 I fun I => ?_
 refine zqr I (fun Al W I => (HB1 W p13 c13 I.fa.2.1.rd).out) fun Al W p26 c26 I => ?_
 refine zo 3 I fun I => ?_
 refine zqr I (fun Al W I => (HB2 W p23 c23 I.fa.2.1.rd).out) fun Al W p28 c28 I => ?_
 refine zo 4 I fun I => ?_
 refine zqr I (fun Al W I => (HP W p26 p28 c26 c28 I.fa.2.1.rd I.fa.1.rd).out) fun Al W p29 c29 I => ?_
 refine zo 5 I fun I => ?_
 refine zn I fun Al W I => ?_
 exact zret I fun Al W I => ⟨p29, c29, rfl, I.fa.1, I.below⟩
def eCv (fr tg way : Int) (s : ByteArray) : Int := if IsFm fr ∧ IsFm tg then (if b0o fr s = 0 then (if 1 ≤ way ∧ way ≤ 5 then 0 else 6) else b0o fr s) else 6
def oCv (fr tg way : Int) (s : ByteArray) : ByteArray := if eCv fr tg way s = 0 then strR tg ((fmt tg).takeM (refD fr s) way).1 else b0k []
def fCv (fr tg way : Int) (s : ByteArray) : Nat := if eCv fr tg way s = 0 then ((fmt tg).takeM (refD fr s) way).2 else 0
theorem v0k (fr tg way : Int) (s : ByteArray) (w : World) (hT : TabW w) :
 Calls Tryz.prog 28 #[.int .i64 fr, .string s, .int .i64 tg, .int .i64 way] w fun en w' => en = .returned (.tuple #[.string (oCv fr tg way s), .int .i64 ((fCv fr tg way s : Nat) : Int), .int .i64 (eCv fr tg way s)]) ∧ Below w.heap.size w w' := by
 have HS1 := fun W => hi0 (w0p fr W)
 have HS2 := fun W => hi0 (w0p tg W)
 unfold oCv fCv
 by_cases hf : IsFm fr
 · have e1 : d0f fr = 0 := by unfold d0f; rw [if_pos hf]
   rw [e1] at HS1
   by_cases ht : IsFm tg
   · have e2 : d0f tg = 0 := by unfold d0f; rw [if_pos ht]
     rw [e2] at HS2
     have hE : eCv fr tg way s = if b0o fr s = 0 then (if 1 ≤ way ∧ way ≤ 5 then 0 else 6) else b0o fr s := if_pos ⟨hf, ht⟩
     have HD := fun W h => hi0 (o0y fr s W h)
     by_cases hp : b0o fr s = 0
     · rw [hp] at HD
       by_cases hw : 1 ≤ way ∧ way ≤ 5
       · have h0 : eCv fr tg way s = 0 := by rw [hE, if_pos hp, if_pos hw]
         simp only [h0, if_true]
         have HO := fun W => hi0 (v0f tg way W ht hw)
         have F := v0h (s := s) hf
         have V := w0w hp
         have HX := fun W p c b h1 h2 => hi0 (w0y fr (decP fr s) (refD fr s) p c b W hf h1 V F.ok h2)
         have HT := fun W p q c d b u h1 h2 h3 h4 h5 => hi0 (l1o (fmt tg) (fmt fr) tg way (decP fr s) (refD fr s) p q c d b u W h1 h2 h3 h4 V F.ok (b0s ht) hw h5)
         have RS := c1w (b0s ht) F.ok way
         obtain ⟨rS, flS, hS⟩ : ∃ rS flS, (fmt tg).takeM (refD fr s) way = (rS, flS) := ⟨_, _, rfl⟩
         rw [hS] at HT RS ⊢
         have HTL := fun W (v : Vl) p c b u h1 h2 h3 h4 => hi0 (g1p tg way (flS : Int) ⟨v, p, c⟩ rS b u W h1 h2 ht h3 RS h4)
         rw [show b0k ((fmt tg).strP ((fmt tg).encP rS.cls rS.neg rS.x)) = strR tg rS from rfl] at HTL
         simp only
         clear hS RS h0 V F hE e1 e2
         generalize strR tg rS = str at *
         generalize decP fr s = v at *
         generalize refD fr s = r at *
         generalize fmt fr = g at *
         generalize fmt tg = f at *
         have I := Inv.start w [tabF] ⟨hT, True.intro⟩
         refine a0d [.v (.int .i64 fr), .v (.string s), .v (.int .i64 tg), .v (.int .i64 way)] I Tryz.func28 ?_
         refine zunr I 2 ?_
         rintro J0 hJ0 Al W I
         refine zq I (fun Al W I => (HS1 W).out) fun Al W I => ?_
         refine a0y I (J0 2) (fr := fun Al U1 => (.v (.int .i64 fr) :: .v (.string s) :: .v (.int .i64 tg) :: .v (.int .i64 way) :: su 4 (.v (Go.Value.string (ByteArray.mk #[])) :: .v (.int .i64 0) :: .v (.int .i64 0) :: .v undef :: .v (.int .i64 fr) :: .v (U1 13) :: .v (.int .i64 0) :: su 3 (sw U1 18 2 (.s 0 0 2 2 :: .v (.int .i64 ((2 : Nat) : Int)) :: .v (.int .i64 1) :: .v (.bool true) :: sw U1 24 8 (.v (.bool false) :: sw U1 33 9 (.v undef :: sw U1 43 8 (.v undef :: sw U1 52 12 [])))))) : List SV)) (bx := fun Al U1 => [⟨3, [.v (.int .i64 fr), .v (.int .i64 tg)], false⟩]) fun Al W U1 I => hJ0 _ _ _ _ _ _ I fun I => ?_
         refine zq I (fun Al W I => (HS2 W).out) fun Al W I => ?_
         refine a0y I (J0 1) (fr := fun Al U2 => (.v (.int .i64 fr) :: .v (.string s) :: .v (.int .i64 tg) :: .v (.int .i64 way) :: su 4 (.v (Go.Value.string (ByteArray.mk #[])) :: .v (.int .i64 0) :: .v (.int .i64 0) :: .v undef :: .v (.int .i64 tg) :: .v (U2 13) :: .v (.int .i64 0) :: su 3 (sw U2 18 2 (.s 0 0 2 2 :: .v (.int .i64 ((2 : Nat) : Int)) :: .v (.int .i64 2) :: .v (.bool true) :: sw U2 24 8 (.v (.bool false) :: sw U2 33 9 (.v undef :: sw U2 43 8 (.v undef :: sw U2 52 12 [])))))) : List SV)) (bx := fun Al U2 => [⟨3, [.v (.int .i64 fr), .v (.int .i64 tg)], false⟩]) fun Al W U2 I => hJ0 _ _ _ _ _ _ I fun I => ?_
         refine zqo I (fun Al W I => (HD W I.fa.1).out) fun Al W p38 c38 I => ?_
         refine zg I (fun Al W I => (HO W).out) fun Al V Iv _ hB _ kz => ?_
         rintro _ W ⟨u47, rfl, hge, hB, hb⟩
         refine ⟨_, rfl, kz _ _ hb fun I => ?_⟩
         refine l1l Iv hb 2 u47 182 [(.int .i64 tg), (.int .i64 way), (.int .i64 f.g.rad), (.int .i64 f.g.digs), (.int .i64 f.g.lo), (.int .i64 f.g.hi), (.bool f.g.grad), (.int .u8 (famB f)), (.int .i64 0)] hge hB fun Al hAl_47 I => ?_
         refine l1m I 48 2 u47 hAl_47 fun Al W I => ?_
         refine zd [2] I fun Al W I => ?_
         refine zk [0, 1, 2, 3, 4] I fun I => ?_
         refine zo 5 I fun I => ?_
         refine zqo I (fun Al W I => (HX W p38 c38 _ I.fa.1 I.fa.2.1).out) fun Al W p58 c58 I => ?_
         refine zo 6 I fun I => ?_
         refine zge I 2 182 (fun Al W I => (HT W p38 p58 c38 c58 _ _ (I.box 2 182 _) I.fa.2.1 I.fa.1 I.bel.size I.fa.2.2.1).out) fun Al V Iv _ _ kz => ?_
         rintro _ W ⟨v59, hR59, p59, c59, rfl, o59, hO, hB⟩
         refine ⟨_, rfl, kz _ (uS f tg way (flS : Int)) _ hO hB fun I => ?_⟩
         have I := I.own o59
         refine zo 7 I fun I => ?_
         refine zq I (fun Al W I => (HTL W v59 p59 c59 _ _ (I.box 2 182 _) I.fa.1 hR59 I.fa.2.2.2.1).out) fun Al W I => ?_
         refine zk [8, 9, 10, 11, 12, 13] I fun I => ?_
         exact zrb I
       · have h0 : eCv fr tg way s = 6 := by rw [hE, if_pos hp, if_neg hw]
         simp only [h0, show ((6 : Int) = 0) = False by simp, if_false]
         have HO := fun W => hi0 (r0h tg way W (fun h => hw h.2))
         clear h0 hE e1 e2
         generalize decP fr s = v at *
         generalize fmt fr = g at *
         generalize fmt tg = f at *
         have I := Inv.start w [tabF] ⟨hT, True.intro⟩
         refine a0d [.v (.int .i64 fr), .v (.string s), .v (.int .i64 tg), .v (.int .i64 way)] I Tryz.func28 ?_
         refine zunr I 2 ?_
         rintro J0 hJ0 Al W I
         refine zq I (fun Al W I => (HS1 W).out) fun Al W I => ?_
         refine a0y I (J0 2) (fr := fun Al U1 => (.v (.int .i64 fr) :: .v (.string s) :: .v (.int .i64 tg) :: .v (.int .i64 way) :: su 4 (.v (Go.Value.string (ByteArray.mk #[])) :: .v (.int .i64 0) :: .v (.int .i64 0) :: .v undef :: .v (.int .i64 fr) :: .v (U1 13) :: .v (.int .i64 0) :: su 3 (sw U1 18 2 (.s 0 0 2 2 :: .v (.int .i64 ((2 : Nat) : Int)) :: .v (.int .i64 1) :: .v (.bool true) :: sw U1 24 8 (.v (.bool false) :: sw U1 33 9 (.v undef :: sw U1 43 8 (.v undef :: sw U1 52 12 [])))))) : List SV)) (bx := fun Al U1 => [⟨3, [.v (.int .i64 fr), .v (.int .i64 tg)], false⟩]) fun Al W U1 I => hJ0 _ _ _ _ _ _ I fun I => ?_
         refine zq I (fun Al W I => (HS2 W).out) fun Al W I => ?_
         refine a0y I (J0 1) (fr := fun Al U2 => (.v (.int .i64 fr) :: .v (.string s) :: .v (.int .i64 tg) :: .v (.int .i64 way) :: su 4 (.v (Go.Value.string (ByteArray.mk #[])) :: .v (.int .i64 0) :: .v (.int .i64 0) :: .v undef :: .v (.int .i64 tg) :: .v (U2 13) :: .v (.int .i64 0) :: su 3 (sw U2 18 2 (.s 0 0 2 2 :: .v (.int .i64 ((2 : Nat) : Int)) :: .v (.int .i64 2) :: .v (.bool true) :: sw U2 24 8 (.v (.bool false) :: sw U2 33 9 (.v undef :: sw U2 43 8 (.v undef :: sw U2 52 12 [])))))) : List SV)) (bx := fun Al U2 => [⟨3, [.v (.int .i64 fr), .v (.int .i64 tg)], false⟩]) fun Al W U2 I => hJ0 _ _ _ _ _ _ I fun I => ?_
         refine zqo I (fun Al W I => (HD W I.fa.1).out) fun Al W p38 c38 I => ?_
         refine zq I (fun Al W I => (HO W).out) fun Al W I => ?_
         exact zrb I
     · have h0 : eCv fr tg way s = b0o fr s := by rw [hE, if_neg hp]
       simp only [h0, if_neg hp]
       clear h0 hE e1 e2
       generalize decP fr s = v at *
       generalize b0o fr s = ep at *
       generalize fmt fr = g at *
       generalize fmt tg = f at *
       have I := Inv.start w [tabF] ⟨hT, True.intro⟩
       refine a0d [.v (.int .i64 fr), .v (.string s), .v (.int .i64 tg), .v (.int .i64 way)] I Tryz.func28 ?_
       refine zunr I 2 ?_
       rintro J0 hJ0 Al W I
       refine zq I (fun Al W I => (HS1 W).out) fun Al W I => ?_
       refine a0y I (J0 2) (fr := fun Al U1 => (.v (.int .i64 fr) :: .v (.string s) :: .v (.int .i64 tg) :: .v (.int .i64 way) :: su 4 (.v (Go.Value.string (ByteArray.mk #[])) :: .v (.int .i64 0) :: .v (.int .i64 0) :: .v undef :: .v (.int .i64 fr) :: .v (U1 13) :: .v (.int .i64 0) :: su 3 (sw U1 18 2 (.s 0 0 2 2 :: .v (.int .i64 ((2 : Nat) : Int)) :: .v (.int .i64 1) :: .v (.bool true) :: sw U1 24 8 (.v (.bool false) :: sw U1 33 9 (.v undef :: sw U1 43 8 (.v undef :: sw U1 52 12 [])))))) : List SV)) (bx := fun Al U1 => [⟨3, [.v (.int .i64 fr), .v (.int .i64 tg)], false⟩]) fun Al W U1 I => hJ0 _ _ _ _ _ _ I fun I => ?_
       refine zq I (fun Al W I => (HS2 W).out) fun Al W I => ?_
       refine a0y I (J0 1) (fr := fun Al U2 => (.v (.int .i64 fr) :: .v (.string s) :: .v (.int .i64 tg) :: .v (.int .i64 way) :: su 4 (.v (Go.Value.string (ByteArray.mk #[])) :: .v (.int .i64 0) :: .v (.int .i64 0) :: .v undef :: .v (.int .i64 tg) :: .v (U2 13) :: .v (.int .i64 0) :: su 3 (sw U2 18 2 (.s 0 0 2 2 :: .v (.int .i64 ((2 : Nat) : Int)) :: .v (.int .i64 2) :: .v (.bool true) :: sw U2 24 8 (.v (.bool false) :: sw U2 33 9 (.v undef :: sw U2 43 8 (.v undef :: sw U2 52 12 [])))))) : List SV)) (bx := fun Al U2 => [⟨3, [.v (.int .i64 fr), .v (.int .i64 tg)], false⟩]) fun Al W U2 I => hJ0 _ _ _ _ _ _ I fun I => ?_
       refine zqo I (fun Al W I => (HD W I.fa.1).out) fun Al W p38 c38 I => ?_
       refine zb I 42 (ep != 0) (true) (bne_iff_ne.2 hp) fun Al W I => ?_
       exact zrb I
   · have e2 : d0f tg = 6 := by unfold d0f; rw [if_neg ht]
     rw [e2] at HS2
     have h0 : eCv fr tg way s = 6 := if_neg fun h => ht h.2
     simp only [h0, show ((6 : Int) = 0) = False by simp, if_false]
     clear h0 e1 e2
     generalize fmt fr = g at *
     generalize fmt tg = f at *
     have I := Inv.start w [] True.intro
     refine a0d [.v (.int .i64 fr), .v (.string s), .v (.int .i64 tg), .v (.int .i64 way)] I Tryz.func28 ?_
     refine zunr I 1 ?_
     rintro J0 hJ0 Al W I
     refine zq I (fun Al W I => (HS1 W).out) fun Al W I => ?_
     refine a0y I (J0 1) (fr := fun Al U1 => (.v (.int .i64 fr) :: .v (.string s) :: .v (.int .i64 tg) :: .v (.int .i64 way) :: su 4 (.v (Go.Value.string (ByteArray.mk #[])) :: .v (.int .i64 0) :: .v (.int .i64 0) :: .v undef :: .v (.int .i64 fr) :: .v (U1 13) :: .v (.int .i64 0) :: su 3 (sw U1 18 2 (.s 0 0 2 2 :: .v (.int .i64 ((2 : Nat) : Int)) :: .v (.int .i64 1) :: .v (.bool true) :: sw U1 24 8 (.v (.bool false) :: sw U1 33 9 (.v undef :: sw U1 43 8 (.v undef :: sw U1 52 12 [])))))) : List SV)) (bx := fun Al U1 => [⟨3, [.v (.int .i64 fr), .v (.int .i64 tg)], false⟩]) fun Al W U1 I => hJ0 _ _ _ _ _ _ I fun I => ?_
     refine zq I (fun Al W I => (HS2 W).out) fun Al W I => ?_
     exact zrb I
 · have e1 : d0f fr = 6 := by unfold d0f; rw [if_neg hf]
   rw [e1] at HS1
   have h0 : eCv fr tg way s = 6 := if_neg fun h => hf h.1
   simp only [h0, show ((6 : Int) = 0) = False by simp, if_false]
   clear h0 e1
   generalize fmt fr = g at *
   have I := Inv.start w [] True.intro
   refine a0d [.v (.int .i64 fr), .v (.string s), .v (.int .i64 tg), .v (.int .i64 way)] I Tryz.func28 ?_
   refine zunr I 1 ?_
   rintro J0 hJ0 Al W I
   refine zq I (fun Al W I => (HS1 W).out) fun Al W I => ?_
   exact zrb I
theorem l0m (n : Int) (r : Vr) (fl : Nat) (p : Option Addr) (c base : Nat) (w : World) (hn : IsFm n) (hp : Rf w base p c (dig B16 r.x.m)) (R : ResF (fmt n) r) :
 Calls Tryz.prog 13 #[.int .i64 n, .string (strR n r), .int .i64 (fl : Int), .int .i64 0, .int .i64 0, .agg #[.int .i64 (r.cls : Int), .bool r.neg, .bool r.x.neg, .slice p (dig B16 r.x.m).length c, .int .i64 r.x.e], .int .i64 (fl : Int)] w fun en w' => en = .returned (.bool true) ∧ Below w.heap.size w w' := by
 have hg := (b0s hn).g
 have hl : (dig B16 r.x.m).length ≤ 2400 := by
  by_cases h2 : r.cls = 2
  · have := w0b hg (R.c2 h2).1
    have := j0p r.x.m
    omega
  · rw [R.x0 h2]; show (dig B16 0).length ≤ _; rw [a0c]; decide
 have HE := fun W h => hi0 (n0k n r p c base W hn h hl (fun h2 => ⟨(R.c2 h2).1, (R.c2 h2).2.2.1, (R.c2 h2).2.1, (R.c2 h2).2.2.2, w0b hg (R.c2 h2).1⟩))
 have hs : b0k ((fmt n).strP ((fmt n).encP r.cls r.neg r.x)) = strR n r := rfl
 rw [hs] at HE
 generalize strR n r = s at *
 have I := Inv.start w [rfF base p c (dig B16 r.x.m)] ⟨hp, True.intro⟩
 refine a0d [.v (.int .i64 n), .v (.string s), .v (.int .i64 (fl : Int)), .v (.int .i64 0), .v (.int .i64 0), .v (.agg #[.int .i64 (r.cls : Int), .bool r.neg, .bool r.x.neg, .slice p (dig B16 r.x.m).length c, .int .i64 r.x.e]), .v (.int .i64 (fl : Int))] I Tryz.func13 ?_
 refine zq I (fun Al W I => (HE W I.fa.1).out) fun Al W I => ?_
 refine zbin I 27 _ (fun _ _ _ _ _ => b1m s) fun Al W I => ?_
 refine zb I 32 ((fl : Int) == (fl : Int)) (true) (beq_self_eq_true _) fun Al W I => ?_
 exact zrb I
theorem k0i (n er fl : Int) (v : Value) (hv : ∃ k g h q l c e, v = .agg #[.int .i64 k, .bool g, .bool h, .slice q l c, .int .i64 e]) (w : World) (he : er ≠ 0) :
 Calls Tryz.prog 13 #[.int .i64 n, .string (b0k []), .int .i64 0, .int .i64 er, .int .i64 er, v, .int .i64 fl] w fun en w' => en = .returned (.bool true) ∧ Below w.heap.size w w' := by
 obtain ⟨k, g, h, q, l, c, e, rfl⟩ := hv
 have I := Inv.start w [] True.intro
 refine a0d [.v (.int .i64 n), .v (.string (b0k [])), .v (.int .i64 0), .v (.int .i64 er), .v (.int .i64 er), .v (.agg #[.int .i64 k, .bool g, .bool h, .slice q l c, .int .i64 e]), .v (.int .i64 fl)] I Tryz.func13 ?_
 refine zb I 17 (er == 0) (false) (bFn he) fun Al W I => ?_
 refine zb I 23 (er == er) (true) (beq_self_eq_true _) fun Al W I => ?_
 refine zbin I 27 _ (fun _ _ _ _ _ => b1m (b0k [])) fun Al W I => ?_
 exact zrb I
theorem l0q (fm : Int) (s : ByteArray) (tg way : Int) (w : World) (hT : TabW w) : Calls Tryz.prog 7 #[.int .i64 fm, .string s, .int .i64 tg, .int .i64 way] w fun en w' => en = .returned (.bool true) ∧ Below w.heap.size w w' := by
 have HB0 := fun W h => hi0 (k0h W h)
 have HC := fun W h => hi0 (v0k fm tg way s W h)
 have HF1 := fun W => hi0 (b0e fm W)
 have HF2 := fun W => hi0 (b0e tg W)
 have HO := fun W => hi0 (u0w fm s W)
 have HI := fun W => hi0 (stay (l0h way W))
 by_cases h0 : eCv fm tg way s = 0
 · have hz := h0
   unfold eCv at hz
   have hft : IsFm fm ∧ IsFm tg := by split at hz; assumption; omega
   rw [if_pos hft] at hz
   have hp : b0o fm s = 0 := by split at hz; assumption; exact hz
   rw [if_pos hp] at hz
   have hw : 1 ≤ way ∧ way ≤ 5 := by split at hz; assumption; omega
   obtain ⟨hf, ht⟩ := hft
   have F := v0h (s := s) hf
   have RS := c1w (b0s ht) F.ok way
   have HD := fun W => hi0 (n0p fm s W hf (d0y.1 hp).2)
   have HT := fun W p c b h => hi0 (r0l tg way ⟨refD fm s, p, c⟩ b W ht hw h F.ok)
   unfold oCv fCv at HC
   rw [h0, if_pos rfl, if_pos rfl] at HC
   rw [decide_eq_true hf] at HF1
   rw [decide_eq_true ht] at HF2
   rw [hp] at HO
   rw [s0r hw.1 hw.2] at HI
   rw [show (fmt fm).refN (a0x (fmt fm) s) = refD fm s from rfl] at HD
   generalize (fmt fm).neg (a0x (fmt fm) s) = gn at *
   generalize refD fm s = r at *
   obtain ⟨rS, flS, hS⟩ : ∃ rS flS, (fmt tg).takeM r way = (rS, flS) := ⟨_, _, rfl⟩
   simp only [hS] at HC HT RS
   unfold GVf at HT
   simp only at HT
   unfold l0z at HD
   have HP := fun W p c b h => hi0 (l0m tg rS flS p c b W ht h RS)
   generalize strR tg rS = str at *
   clear hS RS F hz h0
   generalize fmt fm = f at *
   generalize fmt tg = g at *
   have I := Inv.start w [tabF] ⟨hT, True.intro⟩
   refine a0d [.v (.int .i64 fm), .v (.string s), .v (.int .i64 tg), .v (.int .i64 way)] I Tryz.func7 ?_
   refine zq I (fun Al W I => (HC W I.fa.1).out) fun Al W I => ?_
   refine zq I (fun Al W I => (HF1 W).out) fun Al W I => ?_
   refine zq I (fun Al W I => (HF2 W).out) fun Al W I => ?_
   refine zq I (fun Al W I => (HO W).out) fun Al W I => ?_
   refine zq I (fun Al W I => (HI W).out) fun Al W I => ?_
   refine zqr I (fun Al W I => (HD W).out) fun Al W p63 c63 I => ?_
   refine zqr I (fun Al W I => (HT W p63 c63 _ I.fa.1).out) fun Al W p70 c70 I => ?_
   refine zq I (fun Al W I => (HB0 W I.fa.2.2.1).out) fun Al W I => ?_
   refine zq I (fun Al W I => (HP W p70 c70 _ I.fa.1).out) fun Al W I => ?_
   exact zrb I
 · have hz : eCv fm tg way s = if IsFm fm ∧ IsFm tg then (if b0o fm s = 0 then (if 1 ≤ way ∧ way ≤ 5 then 0 else 6) else b0o fm s) else 6 := rfl
   unfold oCv fCv at HC
   rw [if_neg h0, if_neg h0] at HC
   have HP := fun fl v hv W => hi0 (k0i tg (eCv fm tg way s) fl v hv W h0)
   have hwb : wayB way = decide (1 ≤ way ∧ way ≤ 5) := by unfold wayB; rw [Bool.decide_and]
   rw [hwb] at HI
   by_cases hf : IsFm fm ∧ IsFm tg
   · rw [decide_eq_true hf.1] at HF1
     rw [decide_eq_true hf.2] at HF2
     rw [if_pos hf] at hz
     by_cases hp : b0o fm s = 0
     · rw [if_pos hp] at hz
       have hw : ¬ (1 ≤ way ∧ way ≤ 5) := fun h => h0 (by rw [hz, if_pos h])
       rw [if_neg hw] at hz
       rw [hz] at HC HP
       rw [hp] at HO
       rw [decide_eq_false hw] at HI
       clear hz h0 hwb
       generalize fmt fm = f at *
       generalize fmt tg = g at *
       have I := Inv.start w [tabF] ⟨hT, True.intro⟩
       refine a0d [.v (.int .i64 fm), .v (.string s), .v (.int .i64 tg), .v (.int .i64 way)] I Tryz.func7 ?_
       refine zq I (fun Al W I => (HC W I.fa.1).out) fun Al W I => ?_
       refine zq I (fun Al W I => (HF1 W).out) fun Al W I => ?_
       refine zq I (fun Al W I => (HF2 W).out) fun Al W I => ?_
       refine zq I (fun Al W I => (HO W).out) fun Al W I => ?_
       refine zq I (fun Al W I => (HI W).out) fun Al W I => ?_
       refine zq I (fun Al W I => (HB0 W I.fa.1).out) fun Al W I => ?_
       refine zq I (fun Al W I => (HP 0 _ ⟨0, false, false, none, 0, 0, 0, rfl⟩ W).out) fun Al W I => ?_
       exact zrb I
     · rw [if_neg hp] at hz
       rw [hz] at HC HP
       clear hz h0 hwb
       generalize b0o fm s = ep at *
       generalize fmt fm = f at *
       generalize fmt tg = g at *
       have I := Inv.start w [tabF] ⟨hT, True.intro⟩
       refine a0d [.v (.int .i64 fm), .v (.string s), .v (.int .i64 tg), .v (.int .i64 way)] I Tryz.func7 ?_
       refine zq I (fun Al W I => (HC W I.fa.1).out) fun Al W I => ?_
       refine zq I (fun Al W I => (HF1 W).out) fun Al W I => ?_
       refine zq I (fun Al W I => (HF2 W).out) fun Al W I => ?_
       refine zq I (fun Al W I => (HO W).out) fun Al W I => ?_
       refine zb I 52 (ep == 0) (false) (bFn hp) fun Al W I => ?_
       refine zb I 59 (ep == 0) (false) (bFn hp) fun Al W I => ?_
       refine zq I (fun Al W I => (HB0 W I.fa.1).out) fun Al W I => ?_
       refine zq I (fun Al W I => (HP 0 _ ⟨0, false, false, none, 0, 0, 0, rfl⟩ W).out) fun Al W I => ?_
       exact zrb I
   · rw [if_neg hf] at hz
     rw [hz] at HC HP
     have hb : (!decide (IsFm fm)) = true ∨ (!decide (IsFm tg)) = true := by
      by_cases k : IsFm fm
      · right; simp; exact fun h => hf ⟨k, h⟩
      · left; simp; exact k
     clear hz h0 hwb
     generalize decide (IsFm fm) = d1 at *
     generalize decide (IsFm tg) = d2 at *
     generalize fmt fm = f at *
     generalize fmt tg = g at *
     have I := Inv.start w [tabF] ⟨hT, True.intro⟩
     refine a0d [.v (.int .i64 fm), .v (.string s), .v (.int .i64 tg), .v (.int .i64 way)] I Tryz.func7 ?_
     refine zq I (fun Al W I => (HC W I.fa.1).out) fun Al W I => ?_
     refine zq I (fun Al W I => (HF1 W).out) fun Al W I => ?_
     refine zq I (fun Al W I => (HF2 W).out) fun Al W I => ?_
     rcases Bool.eq_false_or_eq_true (!d1) with f41 | f41
     · refine zb I 41 (!d1) (true) (f41) fun Al W I => ?_
       refine zq I (fun Al W I => (HB0 W I.fa.1).out) fun Al W I => ?_
       refine zq I (fun Al W I => (HP 0 _ ⟨0, false, false, none, 0, 0, 0, rfl⟩ W).out) fun Al W I => ?_
       exact zrb I
     refine zb I 41 (!d1) (false) (f41) fun Al W I => ?_
     refine zb I 44 (!d2) (true) ((by rw [f41] at hb; simpa using hb)) fun Al W I => ?_
     refine zq I (fun Al W I => (HB0 W I.fa.1).out) fun Al W I => ?_
     refine zq I (fun Al W I => (HP 0 _ ⟨0, false, false, none, 0, 0, 0, rfl⟩ W).out) fun Al W I => ?_
     exact zrb I
theorem y0k (n way : Int) (w : World) :
 Calls Tryz.prog 10 #[.int .i64 n, .int .i64 way, .slice none 0 0] w fun en w' => en = .returned (.tuple #[.slice none 0 0, .int .i64 (errR n way [])]) ∧ Below w.heap.size w w' := by
 have HF1 := fun W => hi0 (b0e n W)
 have HI := fun W => hi0 (stay (l0h way W))
 have hwb : wayB way = decide (1 ≤ way ∧ way ≤ 5) := by unfold wayB; rw [Bool.decide_and]
 rw [hwb] at HI
 unfold errR
 by_cases hn : IsFm n
 · rw [if_pos hn, if_pos (show errL n [] = 0 from rfl)]
   rw [decide_eq_true hn] at HF1
   generalize fmt n = f at *
   by_cases hw : 1 ≤ way ∧ way ≤ 5
   · rw [if_pos hw]
     rw [decide_eq_true hw] at HI
     clear hwb hw hn
     have I := Inv.start w [] True.intro
     refine a0d [.v (.int .i64 n), .v (.int .i64 way), .v (.slice none 0 0)] I Tryz.func10 ?_
     refine zq I (fun Al W I => (HF1 W).out) fun Al W I => ?_
     refine zunr I 0 ?_
     rintro J0 hJ0 Al W I
     refine zq I (fun Al W I => (HI W).out) fun Al W I => ?_
     exact zrb I
   · rw [if_neg hw]
     rw [decide_eq_false hw] at HI
     clear hwb hw hn
     have I := Inv.start w [] True.intro
     refine a0d [.v (.int .i64 n), .v (.int .i64 way), .v (.slice none 0 0)] I Tryz.func10 ?_
     refine zq I (fun Al W I => (HF1 W).out) fun Al W I => ?_
     refine zunr I 0 ?_
     rintro J0 hJ0 Al W I
     refine zq I (fun Al W I => (HI W).out) fun Al W I => ?_
     exact zrb I
 · rw [if_neg hn]
   rw [decide_eq_false hn] at HF1
   generalize fmt n = f at *
   have I := Inv.start w [] True.intro
   refine a0d [.v (.int .i64 n), .v (.int .i64 way), .v (.slice none 0 0)] I Tryz.func10 ?_
   refine zq I (fun Al W I => (HF1 W).out) fun Al W I => ?_
   exact zrb I
theorem l0r (n fm way : Int) (w : World) (hr : -9223372036854775808 ≤ n ∧ n ≤ 9223372036854775807) (hT : TabW w) : Calls Tryz.prog 5 #[.int .i64 n, .int .i64 fm, .int .i64 way] w fun en w' => en = .returned (.bool true) ∧ Below w.heap.size w w' := by
 have HB0 := fun W h => hi0 (k0h W h)
 have HA := fun W h => hi0 (c1r (n0u n fm way W hr h))
 have HO := fun W => hi0 (y0k fm way W)
 have HW := fun W => hi0 (y0j n W hr)
 by_cases h0 : errR fm way [] = 0
 · obtain ⟨ht, _, hw⟩ := c1q h0
   obtain ⟨b1, b2, b3, b4⟩ := c1s hr
   unfold outS outF at HA
   rw [if_pos h0, if_pos h0, h0] at HA
   rw [h0] at HO
   have RS := w0x (b0s ht) (intD n) way
   have hL : (dig B16 (intD n).m).length ≤ 20000 := by
    have := j0p (intD n).m
    omega
   have HT := fun W p c b h => hi0 (n0t fm way (intD n) p c b W ht hw h hL (by omega))
   obtain ⟨rS, flS, hS⟩ : ∃ rS flS, (fmt fm).numM (intD n) way = (rS, flS) := ⟨_, _, rfl⟩
   simp only [hS] at HA HT RS
   unfold GVf at HT
   simp only at HT
   have HP := fun W p c b h => hi0 (l0m fm rS flS p c b W ht h RS)
   generalize strR fm rS = str at *
   generalize intD n = x at *
   clear hS RS h0
   generalize fmt fm = f at *
   have I := Inv.start w [tabF] ⟨hT, True.intro⟩
   refine a0d [.v (.int .i64 n), .v (.int .i64 fm), .v (.int .i64 way)] I Tryz.func5 ?_
   refine zq I (fun Al W I => (HA W I.fa.1).out) fun Al W I => ?_
   refine zq I (fun Al W I => (HO W).out) fun Al W I => ?_
   refine zqr I (fun Al W I => (HW W).out) fun Al W p34 c34 I => ?_
   refine zqr I (fun Al W I => (HT W p34 c34 _ I.fa.1).out) fun Al W p36 c36 I => ?_
   refine zq I (fun Al W I => (HB0 W I.fa.2.2.1).out) fun Al W I => ?_
   refine zq I (fun Al W I => (HP W p36 c36 _ I.fa.1).out) fun Al W I => ?_
   exact zrb I
 · have HP := fun fl v hv W => hi0 (k0i fm (errR fm way []) fl v hv W h0)
   unfold outS outF at HA
   rw [if_neg h0, if_neg h0] at HA
   generalize errR fm way [] = er at *
   have I := Inv.start w [tabF] ⟨hT, True.intro⟩
   refine a0d [.v (.int .i64 n), .v (.int .i64 fm), .v (.int .i64 way)] I Tryz.func5 ?_
   refine zq I (fun Al W I => (HA W I.fa.1).out) fun Al W I => ?_
   refine zq I (fun Al W I => (HO W).out) fun Al W I => ?_
   refine zb I 30 (er == 0) (false) (bFn h0) fun Al W I => ?_
   refine zq I (fun Al W I => (HB0 W I.fa.1).out) fun Al W I => ?_
   refine zq I (fun Al W I => (HP 0 _ ⟨0, false, false, none, 0, 0, 0, rfl⟩ W).out) fun Al W I => ?_
   exact zrb I
end Go.Proofs.YtmacohmclpnphaaGreatDoor
