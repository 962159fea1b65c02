/- The references' Placed. -/
import Derived.Outline
import Derived.Carry
import Derived.Deep.LoopGhost
import Derived.Deep.RegionHeld3
import Derived.Test.YtmacohmclpnphaaGreatDoorZa1
import Derived.Test.YtmacohmclpnphaaGreatDoorZa2
import Derived.Test.YtmacohmclpnphaaGreatDoorZa3
import Derived.Test.YtmacohmclpnphaaGreatDoorZa4
import Derived.Test.YtmacohmclpnphaaGreatDoorZa5
import Derived.Test.YtmacohmclpnphaaGreatDoorZa6
import Derived.Test.YtmacohmclpnphaaGreatDoorZa7
set_option maxHeartbeats 8000000
set_option maxRecDepth 100000
namespace Go.Proofs.YtmacohmclpnphaaGreatDoor
open Go.RowKit Go.Slip
theorem p1b (n way : Int) (ng : Bool) (d : Nat) (pw : Int) (pp : Option Addr) (cc : Nat) (w : World) (hn : IsFm n) (ex un : Bool) (hf : (fmt n).fam = 2) :
 Calls Tryz.prog 124 #[.int .i64 n, .agg #[.bool ng, .slice pp (dig B16 d).length cc, .int .i64 pw, .bool ex, .bool true, .bool un], .int .i64 way] w (GVf w w.heap.size ((fmt n).greatM ng, 5)) := by
 have HF := fun W => hi0 (b0h n W)
 rw [decide_eq_true hn, hf] at HF
 have HG := fun W => hi0 (i0e n ng W hn)
 generalize (fmt n).greatM ng = r at *
 generalize fmt n = f at *
 clear hf hn
 cases ex
 · have I := Inv.start w [] True.intro
   refine a0d [.v (.int .i64 n), .v (.agg #[.bool ng, .slice pp (dig B16 d).length cc, .int .i64 pw, .bool false, .bool true, .bool un]), .v (.int .i64 way)] I Tryz.func124 ?_
   refine zq I (fun Al W I => (HF W).out) fun Al W I => ?_
   refine zqr I (fun Al W I => (HG W).out) fun Al W p28 c28 I => ?_
   exact zret I fun Al W I => ⟨p28, c28, rfl, I.fa.1, I.below⟩
 · have I := Inv.start w [] True.intro
   refine a0d [.v (.int .i64 n), .v (.agg #[.bool ng, .slice pp (dig B16 d).length cc, .int .i64 pw, .bool true, .bool true, .bool un]), .v (.int .i64 way)] I Tryz.func124 ?_
   refine zq I (fun Al W I => (HF W).out) fun Al W I => ?_
   refine zqr I (fun Al W I => (HG W).out) fun Al W p28 c28 I => ?_
   exact zret I fun Al W I => ⟨p28, c28, rfl, I.fa.1, I.below⟩
theorem p1c (n way : Int) (ng : Bool) (d : Nat) (pw : Int) (pp : Option Addr) (cc : Nat) (w : World) (hn : IsFm n) (ex un : Bool) (hf : (fmt n).fam = 3) :
 Calls Tryz.prog 124 #[.int .i64 n, .agg #[.bool ng, .slice pp (dig B16 d).length cc, .int .i64 pw, .bool ex, .bool true, .bool un], .int .i64 way] w (GVf w w.heap.size ((fmt n).nothM, 5)) := by
 have HF := fun W => hi0 (b0h n W)
 rw [decide_eq_true hn, hf] at HF
 have HG := fun W => hi0 (g0i n W hn)
 have hr : (fmt n).nothM = ⟨(fmt n).nothM.cls, false, vz⟩ := rfl
 rw [hr]
 generalize (fmt n).nothM.cls = k at *
 generalize fmt n = f at *
 clear hf hn
 cases ex
 · have I := Inv.start w [] True.intro
   refine a0d [.v (.int .i64 n), .v (.agg #[.bool ng, .slice pp (dig B16 d).length cc, .int .i64 pw, .bool false, .bool true, .bool un]), .v (.int .i64 way)] I Tryz.func124 ?_
   refine zq I (fun Al W I => (HF W).out) fun Al W I => ?_
   refine zq I (fun Al W I => (HG W).out) fun Al W I => ?_
   exact zret I fun Al W I => b0t (k := k) (fl := 5) rfl I.below
 · have I := Inv.start w [] True.intro
   refine a0d [.v (.int .i64 n), .v (.agg #[.bool ng, .slice pp (dig B16 d).length cc, .int .i64 pw, .bool true, .bool true, .bool un]), .v (.int .i64 way)] I Tryz.func124 ?_
   refine zq I (fun Al W I => (HF W).out) fun Al W I => ?_
   refine zq I (fun Al W I => (HG W).out) fun Al W I => ?_
   exact zret I fun Al W I => b0t (k := k) (fl := 5) rfl I.below
theorem p1d (n way : Int) (ng : Bool) (d : Nat) (pw : Int) (pp : Option Addr) (cc : Nat) (w : World) (hn : IsFm n) (ex un : Bool) (hf : (fmt n).fam = 1) (hw : 1 ≤ way ∧ way ≤ 5) :
 Calls Tryz.prog 124 #[.int .i64 n, .agg #[.bool ng, .slice pp (dig B16 d).length cc, .int .i64 pw, .bool ex, .bool true, .bool un], .int .i64 way] w (GVf w w.heap.size (if way ≤ 2 ∨ (way = 4 ∧ ng = false) ∨ (way = 5 ∧ ng = true) then infM ng else (fmt n).greatM ng, 5)) := by
 have HF := fun W => hi0 (b0h n W)
 rw [decide_eq_true hn, hf] at HF
 have HG := fun W => hi0 (i0e n ng W hn)
 generalize fmt n = f at *
 clear hf hn
 rcases (show way = 1 ∨ way = 2 ∨ way = 3 ∨ way = 4 ∨ way = 5 by omega) with rfl | rfl | rfl | rfl | rfl <;> cases ng <;> cases ex
 · rw [if_pos (by decide)]
   have I := Inv.start w [] True.intro
   refine a0d [.v (.int .i64 n), .v (.agg #[.bool false, .slice pp (dig B16 d).length cc, .int .i64 pw, .bool false, .bool true, .bool un]), .v (.int .i64 1)] I Tryz.func124 ?_
   refine zq I (fun Al W I => (HF W).out) fun Al W I => ?_
   exact zret I fun Al W I => b0t (k := 3) (fl := 5) rfl I.below
 · rw [if_pos (by decide)]
   have I := Inv.start w [] True.intro
   refine a0d [.v (.int .i64 n), .v (.agg #[.bool false, .slice pp (dig B16 d).length cc, .int .i64 pw, .bool true, .bool true, .bool un]), .v (.int .i64 1)] I Tryz.func124 ?_
   refine zq I (fun Al W I => (HF W).out) fun Al W I => ?_
   exact zret I fun Al W I => b0t (k := 3) (fl := 5) rfl I.below
 · rw [if_pos (by decide)]
   have I := Inv.start w [] True.intro
   refine a0d [.v (.int .i64 n), .v (.agg #[.bool true, .slice pp (dig B16 d).length cc, .int .i64 pw, .bool false, .bool true, .bool un]), .v (.int .i64 1)] I Tryz.func124 ?_
   refine zq I (fun Al W I => (HF W).out) fun Al W I => ?_
   exact zret I fun Al W I => b0t (k := 3) (fl := 5) rfl I.below
 · rw [if_pos (by decide)]
   have I := Inv.start w [] True.intro
   refine a0d [.v (.int .i64 n), .v (.agg #[.bool true, .slice pp (dig B16 d).length cc, .int .i64 pw, .bool true, .bool true, .bool un]), .v (.int .i64 1)] I Tryz.func124 ?_
   refine zq I (fun Al W I => (HF W).out) fun Al W I => ?_
   exact zret I fun Al W I => b0t (k := 3) (fl := 5) rfl I.below
 · rw [if_pos (by decide)]
   have I := Inv.start w [] True.intro
   refine a0d [.v (.int .i64 n), .v (.agg #[.bool false, .slice pp (dig B16 d).length cc, .int .i64 pw, .bool false, .bool true, .bool un]), .v (.int .i64 2)] I Tryz.func124 ?_
   refine zq I (fun Al W I => (HF W).out) fun Al W I => ?_
   exact zret I fun Al W I => b0t (k := 3) (fl := 5) rfl I.below
 · rw [if_pos (by decide)]
   have I := Inv.start w [] True.intro
   refine a0d [.v (.int .i64 n), .v (.agg #[.bool false, .slice pp (dig B16 d).length cc, .int .i64 pw, .bool true, .bool true, .bool un]), .v (.int .i64 2)] I Tryz.func124 ?_
   refine zq I (fun Al W I => (HF W).out) fun Al W I => ?_
   exact zret I fun Al W I => b0t (k := 3) (fl := 5) rfl I.below
 · rw [if_pos (by decide)]
   have I := Inv.start w [] True.intro
   refine a0d [.v (.int .i64 n), .v (.agg #[.bool true, .slice pp (dig B16 d).length cc, .int .i64 pw, .bool false, .bool true, .bool un]), .v (.int .i64 2)] I Tryz.func124 ?_
   refine zq I (fun Al W I => (HF W).out) fun Al W I => ?_
   exact zret I fun Al W I => b0t (k := 3) (fl := 5) rfl I.below
 · rw [if_pos (by decide)]
   have I := Inv.start w [] True.intro
   refine a0d [.v (.int .i64 n), .v (.agg #[.bool true, .slice pp (dig B16 d).length cc, .int .i64 pw, .bool true, .bool true, .bool un]), .v (.int .i64 2)] I Tryz.func124 ?_
   refine zq I (fun Al W I => (HF W).out) fun Al W I => ?_
   exact zret I fun Al W I => b0t (k := 3) (fl := 5) rfl I.below
 · rw [if_neg (by decide)]
   generalize f.greatM false = r at *
   have I := Inv.start w [] True.intro
   refine a0d [.v (.int .i64 n), .v (.agg #[.bool false, .slice pp (dig B16 d).length cc, .int .i64 pw, .bool false, .bool true, .bool un]), .v (.int .i64 3)] I Tryz.func124 ?_
   refine zq I (fun Al W I => (HF W).out) fun Al W I => ?_
   refine zqr I (fun Al W I => (HG W).out) fun Al W p61 c61 I => ?_
   exact zret I fun Al W I => ⟨p61, c61, rfl, I.fa.1, I.below⟩
 · rw [if_neg (by decide)]
   generalize f.greatM false = r at *
   have I := Inv.start w [] True.intro
   refine a0d [.v (.int .i64 n), .v (.agg #[.bool false, .slice pp (dig B16 d).length cc, .int .i64 pw, .bool true, .bool true, .bool un]), .v (.int .i64 3)] I Tryz.func124 ?_
   refine zq I (fun Al W I => (HF W).out) fun Al W I => ?_
   refine zqr I (fun Al W I => (HG W).out) fun Al W p61 c61 I => ?_
   exact zret I fun Al W I => ⟨p61, c61, rfl, I.fa.1, I.below⟩
 · rw [if_neg (by decide)]
   generalize f.greatM true = r at *
   have I := Inv.start w [] True.intro
   refine a0d [.v (.int .i64 n), .v (.agg #[.bool true, .slice pp (dig B16 d).length cc, .int .i64 pw, .bool false, .bool true, .bool un]), .v (.int .i64 3)] I Tryz.func124 ?_
   refine zq I (fun Al W I => (HF W).out) fun Al W I => ?_
   refine zqr I (fun Al W I => (HG W).out) fun Al W p61 c61 I => ?_
   exact zret I fun Al W I => ⟨p61, c61, rfl, I.fa.1, I.below⟩
 · rw [if_neg (by decide)]
   generalize f.greatM true = r at *
   have I := Inv.start w [] True.intro
   refine a0d [.v (.int .i64 n), .v (.agg #[.bool true, .slice pp (dig B16 d).length cc, .int .i64 pw, .bool true, .bool true, .bool un]), .v (.int .i64 3)] I Tryz.func124 ?_
   refine zq I (fun Al W I => (HF W).out) fun Al W I => ?_
   refine zqr I (fun Al W I => (HG W).out) fun Al W p61 c61 I => ?_
   exact zret I fun Al W I => ⟨p61, c61, rfl, I.fa.1, I.below⟩
 · rw [if_pos (by decide)]
   have I := Inv.start w [] True.intro
   refine a0d [.v (.int .i64 n), .v (.agg #[.bool false, .slice pp (dig B16 d).length cc, .int .i64 pw, .bool false, .bool true, .bool un]), .v (.int .i64 4)] I Tryz.func124 ?_
   refine zq I (fun Al W I => (HF W).out) fun Al W I => ?_
   exact zret I fun Al W I => b0t (k := 3) (fl := 5) rfl I.below
 · rw [if_pos (by decide)]
   have I := Inv.start w [] True.intro
   refine a0d [.v (.int .i64 n), .v (.agg #[.bool false, .slice pp (dig B16 d).length cc, .int .i64 pw, .bool true, .bool true, .bool un]), .v (.int .i64 4)] I Tryz.func124 ?_
   refine zq I (fun Al W I => (HF W).out) fun Al W I => ?_
   exact zret I fun Al W I => b0t (k := 3) (fl := 5) rfl I.below
 · rw [if_neg (by decide)]
   generalize f.greatM true = r at *
   have I := Inv.start w [] True.intro
   refine a0d [.v (.int .i64 n), .v (.agg #[.bool true, .slice pp (dig B16 d).length cc, .int .i64 pw, .bool false, .bool true, .bool un]), .v (.int .i64 4)] I Tryz.func124 ?_
   refine zq I (fun Al W I => (HF W).out) fun Al W I => ?_
   refine zqr I (fun Al W I => (HG W).out) fun Al W p61 c61 I => ?_
   exact zret I fun Al W I => ⟨p61, c61, rfl, I.fa.1, I.below⟩
 · rw [if_neg (by decide)]
   generalize f.greatM true = r at *
   have I := Inv.start w [] True.intro
   refine a0d [.v (.int .i64 n), .v (.agg #[.bool true, .slice pp (dig B16 d).length cc, .int .i64 pw, .bool true, .bool true, .bool un]), .v (.int .i64 4)] I Tryz.func124 ?_
   refine zq I (fun Al W I => (HF W).out) fun Al W I => ?_
   refine zqr I (fun Al W I => (HG W).out) fun Al W p61 c61 I => ?_
   exact zret I fun Al W I => ⟨p61, c61, rfl, I.fa.1, I.below⟩
 · rw [if_neg (by decide)]
   generalize f.greatM false = r at *
   have I := Inv.start w [] True.intro
   refine a0d [.v (.int .i64 n), .v (.agg #[.bool false, .slice pp (dig B16 d).length cc, .int .i64 pw, .bool false, .bool true, .bool un]), .v (.int .i64 5)] I Tryz.func124 ?_
   refine zq I (fun Al W I => (HF W).out) fun Al W I => ?_
   refine zqr I (fun Al W I => (HG W).out) fun Al W p61 c61 I => ?_
   exact zret I fun Al W I => ⟨p61, c61, rfl, I.fa.1, I.below⟩
 · rw [if_neg (by decide)]
   generalize f.greatM false = r at *
   have I := Inv.start w [] True.intro
   refine a0d [.v (.int .i64 n), .v (.agg #[.bool false, .slice pp (dig B16 d).length cc, .int .i64 pw, .bool true, .bool true, .bool un]), .v (.int .i64 5)] I Tryz.func124 ?_
   refine zq I (fun Al W I => (HF W).out) fun Al W I => ?_
   refine zqr I (fun Al W I => (HG W).out) fun Al W p61 c61 I => ?_
   exact zret I fun Al W I => ⟨p61, c61, rfl, I.fa.1, I.below⟩
 · rw [if_pos (by decide)]
   have I := Inv.start w [] True.intro
   refine a0d [.v (.int .i64 n), .v (.agg #[.bool true, .slice pp (dig B16 d).length cc, .int .i64 pw, .bool false, .bool true, .bool un]), .v (.int .i64 5)] I Tryz.func124 ?_
   refine zq I (fun Al W I => (HF W).out) fun Al W I => ?_
   exact zret I fun Al W I => b0t (k := 3) (fl := 5) rfl I.below
 · rw [if_pos (by decide)]
   have I := Inv.start w [] True.intro
   refine a0d [.v (.int .i64 n), .v (.agg #[.bool true, .slice pp (dig B16 d).length cc, .int .i64 pw, .bool true, .bool true, .bool un]), .v (.int .i64 5)] I Tryz.func124 ?_
   refine zq I (fun Al W I => (HF W).out) fun Al W I => ?_
   exact zret I fun Al W I => b0t (k := 3) (fl := 5) rfl I.below
theorem pr_n (n way : Int) (ng : Bool) (d : Nat) (pw : Int) (pp : Option Addr) (cc : Nat) (w : World) (hn : IsFm n) (hp : Rd w .i64 pp (dig B16 d)) (hl : (dig B16 d).length ≤ 1000) (ex un : Bool) (hpw : ¬ (un = true ∧ (fmt n).fam ≠ 1 ∧ pw < (fmt n).g.lo) → -20000 ≤ pw ∧ pw ≤ 20000) :
 Calls Tryz.prog 124 #[.int .i64 n, .agg #[.bool ng, .slice pp (dig B16 d).length cc, .int .i64 pw, .bool ex, .bool false, .bool un], .int .i64 way] w (GVf w w.heap.size ((fmt n).placedM ⟨ng, d, pw, ex, false, un⟩ way)) := by
 have HF := fun W => hi0 (b0h n W)
 rw [decide_eq_true hn] at HF
 have HZ := fun g W => hi0 (i0d n g W hn)
 have hz : ∀ g, (fmt n).zeroM g = ⟨1, g && decide ((fmt n).fam = 1), vz⟩ := fun _ => rfl
 have HW := fun W => hi0 (c0n (fmt n).g W)
 have hM : (fmt n).placedM ⟨ng, d, pw, ex, false, un⟩ way = if un = true ∧ (fmt n).fam ≠ 1 ∧ pw < (fmt n).g.lo then ((fmt n).zeroM false, 3) else if d = 0 then ((fmt n).zeroM ng, (fmt n).flP ⟨ng, d, pw, ex, false, un⟩) else (⟨2, ng, bare ⟨ng, d, wid (fmt n).g * pw⟩⟩, (fmt n).flP ⟨ng, d, pw, ex, false, un⟩) := by unfold Fm.placedM; simp only [Bool.false_eq_true, if_false]
 have hFL : (fmt n).flP ⟨ng, d, pw, ex, false, un⟩ = if un then (if (fmt n).fam = 1 then (if ex then 0 else 3) else 3) else if ex then 0 else 1 := rfl
 have G := b0z hn
 simp only [hz, Bool.false_and] at hM
 generalize (fmt n).placedM ⟨ng, d, pw, ex, false, un⟩ way = R at *
 generalize (fmt n).flP ⟨ng, d, pw, ex, false, un⟩ = FL at *
 generalize fmt n = f at *
 have hfam := G.fam
 have wp := b0g f.g
 have hmu := fun h => k0r (wd := wid f.g) (k := pw) (B := 20000) wp.2 (hpw h)
 have h0 := a0f a0e d
 generalize hm : (wid f.g : Int) * pw = mw at *
 have HM := hi0 hm
 obtain ⟨x, hx⟩ : ∃ x, bare ⟨ng, d, mw⟩ = x := ⟨_, rfl⟩
 rw [hx] at hM
 have HB := fun hk W p c h => hi0 (k0u ng p _ c mw d x W h rfl (by have := hmu hk; omega) (by have := hmu hk; omega) hx)
 clear hm hx hz
 generalize hq : (fun g : Bool => g && decide (f.fam = 1)) = q
 have hq2 : ∀ g : Bool, (g && decide (f.fam = 1)) = q g := fun g => by rw [← hq]
 have hq3 : q false = false := by rw [← hq]; rfl
 simp only [hq2] at hM HZ
 clear hq hq2
 have I := Inv.start w [rdF .i64 pp (dig B16 d)] ⟨hp, True.intro⟩
 refine a0d [.v (.int .i64 n), .v (.agg #[.bool ng, .slice pp (dig B16 d).length cc, .int .i64 pw, .bool ex, .bool false, .bool un]), .v (.int .i64 way)] I Tryz.func124 ?_
 refine zq I (fun Al W I => (HF W).out) fun Al W I => ?_
 obtain ⟨ne, hne⟩ : ∃ ne, (!ex) = ne := ⟨_, rfl⟩
 refine zb I 18 (!ex) (ne) (hne) fun Al W I => ?_
 refine zcut I (some 2000018) (fun fr bx gs => ∃ (U1 : Nat → Value) (k1 : Nat), fr = (.v (.int .i64 n) :: .v (.agg #[.bool ng, .slice pp (dig B16 d).length cc, .int .i64 pw, .bool ex, .bool false, .bool un]) :: .v (.int .i64 way) :: .v undef :: .p 0 0 :: .v undef :: .p 1 0 :: .v (.int .i64 0) :: .p 2 0 :: .v (U1 9) :: .v (.int .i64 (k1 : Int)) :: sw U1 11 7 (.v (.bool ne) :: .v (U1 19) :: .v undef :: .v (U1 21) :: su 2 (sw U1 24 6 (.v undef :: sw U1 31 22 (.v undef :: sw U1 54 10 (.v undef :: sw U1 65 7 (.v undef :: sw U1 73 2 (.v undef :: sw U1 76 5 (.v undef :: sw U1 82 6 (.v undef :: sw U1 89 21 []))))))))) : List SV) ∧ bx = [⟨48, [.v (.bool ng), .v (.slice pp (dig B16 d).length cc), .v (.int .i64 pw), .v (.bool ex), .v (.bool false), .v (.bool un)], false⟩, ⟨32, [.v (.int .i64 0), .v (.bool false), .v (.bool false), .v (.slice none 0 0), .v (.int .i64 0)], false⟩, ⟨62, [.v (.int .i64 (f.size : Int)), .v (.int .i64 (f.E : Int)), .v (.int .i64 (f.F : Int)), .v (.int .i64 f.g.rad), .v (.int .i64 f.g.digs), .v (.int .i64 f.g.lo), .v (.int .i64 f.g.hi), .v (.bool f.g.grad), .v (.int .i64 (f.fam : Int))], false⟩] ∧ gs = [rdF .i64 pp (dig B16 d)] ∧ (k1 = if ex then 0 else 1)) ?_ ?_
 · intro J hJ Al W I
   rcases Bool.eq_false_or_eq_true ne with rfl | rfl
   · exact a0y I J fun Al W U I => hJ _ _ _ _ _ ⟨U, 1, rfl, rfl, rfl, (by revert hne; cases ex <;> simp)⟩ (I.pick [0])
   exact a0y I J fun Al W U I => hJ _ _ _ _ _ ⟨U, 0, rfl, rfl, rfl, (by revert hne; cases ex <;> simp)⟩ (I.pick [0])
 rintro _ _ _ ⟨U1, k1, rfl, rfl, rfl, hk1⟩ Al W I
 obtain ⟨ub, hub⟩ : ∃ ub, un = ub := ⟨_, rfl⟩
 refine zb I 64 (un) (ub) (hub) fun Al W I => ?_
 refine zcut I (some 2000064) (fun fr bx gs => ∃ (U2 : Nat → Value) (k2 : Nat), fr = (.v (.int .i64 n) :: .v (.agg #[.bool ng, .slice pp (dig B16 d).length cc, .int .i64 pw, .bool ex, .bool false, .bool un]) :: .v (.int .i64 way) :: .v undef :: .p 0 0 :: .v undef :: .p 1 0 :: .v (U2 7) :: .p 2 0 :: .v (U2 9) :: .v (.int .i64 (k2 : Int)) :: sw U2 11 7 (.v (.bool ne) :: .v (U2 19) :: .v (.bool false) :: .v (U2 21) :: su 2 (sw U2 24 6 (.v undef :: sw U2 31 22 (.v undef :: sw U2 54 10 (.v (.bool ub) :: sw U2 65 23 (.v undef :: sw U2 89 21 [])))))) : List SV) ∧ bx = [⟨48, [.v (.bool ng), .v (.slice pp (dig B16 d).length cc), .v (.int .i64 pw), .v (.bool ex), .v (.bool false), .v (.bool un)], false⟩, ⟨32, [.v (.int .i64 0), .v (.bool false), .v (.bool false), .v (.slice none 0 0), .v (.int .i64 0)], false⟩, ⟨62, [.v (.int .i64 (f.size : Int)), .v (.int .i64 (f.E : Int)), .v (.int .i64 (f.F : Int)), .v (.int .i64 f.g.rad), .v (.int .i64 f.g.digs), .v (.int .i64 f.g.lo), .v (.int .i64 f.g.hi), .v (.bool f.g.grad), .v (.int .i64 (f.fam : Int))], false⟩] ∧ gs = [rdF .i64 pp (dig B16 d)] ∧ (FL = k2) ∧ (¬ (un = true ∧ f.fam ≠ 1 ∧ pw < f.g.lo))) ?_ ?_
 · intro J hJ Al W I
   rcases Bool.eq_false_or_eq_true ub with rfl | rfl
   · by_cases h1 : f.fam = 1
     · refine zb I 67 ((f.fam : Int) == 1) (true) (beq_iff_eq.2 (by omega)) fun Al W I => ?_
       rcases Bool.eq_false_or_eq_true (!ex) with f71 | f71
       · refine zb I 71 (!ex) (true) (f71) fun Al W I => ?_
         refine zb I 75 (decide ((f.fam : Int) > 1)) (false) (dFa (by omega)) fun Al W I => ?_
         exact a0y I J fun Al W U I => hJ _ _ _ _ _ ⟨U, 3, rfl, rfl, rfl, (by rw [hFL, if_pos hub, if_pos h1]; revert f71; cases ex <;> simp), (fun h => h.2.1 h1)⟩ (I.pick [0])
       refine zb I 71 (!ex) (false) (f71) fun Al W I => ?_
       refine zb I 75 (decide ((f.fam : Int) > 1)) (false) (dFa (by omega)) fun Al W I => ?_
       exact a0y I J fun Al W U I => hJ _ _ _ _ _ ⟨U, k1, rfl, rfl, rfl, (by rw [hFL, if_pos hub, if_pos h1, hk1]; revert f71; cases ex <;> simp), (fun h => h.2.1 h1)⟩ (I.pick [0])
     refine zb I 67 ((f.fam : Int) == 1) (false) (bFn (by omega)) fun Al W I => ?_
     refine zb I 75 (decide ((f.fam : Int) > 1)) (true) (dTr (by omega)) fun Al W I => ?_
     rcases Bool.eq_false_or_eq_true (decide (pw < f.g.lo)) with f81 | f81
     · refine zb I 81 (decide (pw < f.g.lo)) (true) (f81) fun Al W I => ?_
       refine zq I (fun Al W I => (HZ false W).out) fun Al W I => ?_
       rw [hM, if_pos ⟨hub, h1, oTr f81⟩]
       exact zret I fun Al W I => b0t (k := 1) (fl := 3) rfl I.below
     refine zb I 81 (decide (pw < f.g.lo)) (false) (f81) fun Al W I => ?_
     exact a0y I J fun Al W U I => hJ _ _ _ _ _ ⟨U, 3, rfl, rfl, rfl, (by rw [hFL, if_pos hub, if_neg h1]), (fun h => absurd h.2.2 (oFa f81))⟩ (I.pick [0])
   exact a0y I J fun Al W U I => hJ _ _ _ _ _ ⟨U, k1, rfl, rfl, rfl, (by rw [hFL, if_neg (by rw [hub]; simp), hk1]), (fun h => by rw [hub] at h; cases h.1)⟩ (I.pick [0])
 rintro _ _ _ ⟨U2, k2, rfl, rfl, rfl, hk2, hlo⟩ Al W I
 rcases Bool.eq_false_or_eq_true ((((dig B16 d).length : Nat) : Int) == 0) with f88 | f88
 · refine zb I 88 ((((dig B16 d).length : Nat) : Int) == 0) (true) (f88) fun Al W I => ?_
   refine zq I (fun Al W I => (HZ ng W).out) fun Al W I => ?_
   rw [hM, if_neg hlo, if_pos (h0.1 (by have := beq_iff_eq.1 f88; omega)), hk2]
   exact zret I fun Al W I => b0t (k := 1) (fl := k2) rfl I.below
 refine zb I 88 ((((dig B16 d).length : Nat) : Int) == 0) (false) (f88) fun Al W I => ?_
 refine zd [1] I fun Al W I => ?_
 refine zk [0, 1, 2, 3, 4, 5, 6, 7, 9, 10, 15] I fun I => ?_
 refine zo 8 I fun I => ?_
 refine zq I (fun Al W I => (HW W).out) fun Al W I => ?_
 refine zki 11 I .i64 (((wid f.g : Nat) : Int) * pw) (mw) ((by rw [HM.out]; exact IntWalk.i64_in _ (by have := hmu hlo; omega))) fun I => ?_
 refine zk [12] I fun I => ?_
 refine zo 13 I fun I => ?_
 refine zqr I (fun Al W I => (HB hlo W pp cc I.fa.1).out) fun Al W p107 c107 I => ?_
 refine zk [14] I fun I => ?_
 refine zo 16 I fun I => ?_
 refine zn I fun Al W I => ?_
 refine zk [17] I fun I => ?_
 rw [hM, if_neg hlo, if_neg (fun h => by have := h0.2 h; have := bnF f88; omega), hk2]
 exact zret I fun Al W I => ⟨p107, c107, rfl, I.fa.1, I.below⟩
theorem r0x (n way : Int) (p : Pl) (pp : Option Addr) (cc : Nat) (w : World) (hn : IsFm n) (hw : 1 ≤ way ∧ way ≤ 5) (hp : Rd w .i64 pp (dig B16 p.d)) (hl : (dig B16 p.d).length ≤ 1000) (hpw : p.over = false → ¬ (p.under = true ∧ (fmt n).fam ≠ 1 ∧ p.pow < (fmt n).g.lo) → -20000 ≤ p.pow ∧ p.pow ≤ 20000) :
 Calls Tryz.prog 124 #[.int .i64 n, .agg #[.bool p.neg, .slice pp (dig B16 p.d).length cc, .int .i64 p.pow, .bool p.exact, .bool p.over, .bool p.under], .int .i64 way] w (GVf w w.heap.size ((fmt n).placedM p way)) := by
 obtain ⟨ng, d, pw, ex, ov, un⟩ := p
 simp only at hp hl hpw ⊢
 have hfam := (b0z hn).fam
 cases ov with
 | true =>
  unfold Fm.placedM
  rw [if_pos rfl]
  by_cases f2 : (fmt n).fam = 2
  · rw [if_pos f2]; exact p1b n way ng d pw pp cc w hn ex un f2
  · rw [if_neg f2]
    by_cases f3 : (fmt n).fam = 3
    · rw [if_pos f3]; exact p1c n way ng d pw pp cc w hn ex un f3
    · rw [if_neg f3]; exact p1d n way ng d pw pp cc w hn ex un (by omega) hw
 | false =>
  exact pr_n n way ng d pw pp cc w hn hp hl ex un (fun h => hpw rfl h)
end Go.Proofs.YtmacohmclpnphaaGreatDoor
namespace Go.Slip
open Go.RowKit
/-! ### Slices of structs -/
structure z0j (P : Program) (t e : TypeId) (s bytes : Nat) : Prop where
 ht : P.underlying t = some (.slice e)
 hi : ∃ i z, P.info? e = some i ∧ i.zero = some z ∧ i.size = s ∧ i.bytes = bytes ∧ z.cells.size = s
 pos : 0 < s
 le : bytes ≤ 100
theorem x0p {P : Program} {t e : TypeId} {s bytes : Nat} {z : Value} (h1 : P.underlying t = some (.slice e)) (h2 : (P.info? e).map (fun i => (i.zero, i.size, i.bytes)) = some (some z, s, bytes)) (h3 : Nat.ble bytes 100 = true) (h4 : Nat.beq z.cells.size s = true) (h5 : Nat.ble 1 s = true) : z0j P t e s bytes := by
 refine ⟨h1, ?_, Nat.le_of_ble_eq_true h5, Nat.le_of_ble_eq_true h3⟩
 cases h : P.info? e with
 | none => rw [h] at h2; cases h2
 | some i =>
  rw [h] at h2
  simp only [Option.map_some, Option.some.injEq, Prod.mk.injEq] at h2
  exact ⟨i, z, rfl, h2.1, h2.2.1, h2.2.2, Nat.eq_of_beq_eq_true h4⟩
def OwnS (w : World) (base : Nat) (e : TypeId) (s : Nat) (p : Option Addr) (c n : Nat) (vs : List Value) : Prop := w.ownsRow base e s (.slice p n c) n vs
theorem OwnS.nil (w : World) (base : Nat) (e : TypeId) (s : Nat) : OwnS w base e s none 0 0 [] := World.ownsRow_nil w base e s
section
variable {w w' : World} {base : Nat} {e : TypeId} {s : Nat} {p : Option Addr} {c n : Nat} {vs : List Value}
theorem OwnS.form (h : OwnS w base e s p c n vs) : (p = none ∧ c = 0 ∧ n = 0 ∧ vs = []) ∨ ∃ g, p = some ⟨g, 0, none⟩ ∧ base ≤ g ∧ g < w.heap.size ∧ n ≤ c ∧ c ≤ maxLen := by
 rcases h.2 with ⟨h1, h2⟩ | ⟨g, cap, cur, hv, hb, hg, hn, hc, _, _⟩
 · left
   simp only [Value.slice.injEq] at h1
   refine ⟨h1.1, h1.2.2, h2, List.eq_nil_of_length_eq_zero ?_⟩
   rw [h.1, h2, Nat.zero_mul]
 · right
   simp only [Value.slice.injEq] at hv
   obtain ⟨rfl, _, rfl⟩ := hv
   exact ⟨g, rfl, hb, (Array.getElem?_eq_some_iff.1 hg).1, hn, hc⟩
theorem OwnS.blk_lt (h : OwnS w base e s p c n vs) (hp : p.isSome = true) : base ≤ blk p ∧ blk p < w.heap.size := by
 rcases h.form with ⟨rfl, _, _, rfl⟩ | ⟨g, rfl, h1, h2, _⟩
 · simp at hp
 · exact ⟨h1, h2⟩
theorem OwnS.mono {b' : Nat} (h : OwnS w base e s p c n vs) (hb : b' ≤ base) : OwnS w b' e s p c n vs := by
 refine ⟨h.1, ?_⟩
 rcases h.2 with h1 | ⟨g, cap, cur, hv, hbg, r⟩
 · exact .inl h1
 · exact .inr ⟨g, cap, cur, hv, by omega, r⟩
theorem OwnS.same (h : OwnS w base e s p c n vs) (hb : p.isSome = true → w'.heap[blk p]? = w.heap[blk p]?) : OwnS w' base e s p c n vs := by
 refine ⟨h.1, ?_⟩
 rcases h.2 with h1 | ⟨g, cap, cur, hv, hbg, hg, r⟩
 · exact .inl h1
 · simp only [Value.slice.injEq] at hv
   obtain ⟨rfl, h2, rfl⟩ := hv
   exact .inr ⟨g, c, cur, rfl, hbg, by rw [← hg]; exact hb rfl, r⟩
theorem OwnS.cell (h : OwnS w base e s p c n vs) {j : Nat} {u : Value} (hu : vs[j]? = some u) : w.cell? (at_ p j) = some u := by
 rcases h.form with ⟨_, _, _, rfl⟩ | ⟨g, rfl, _⟩
 · simp at hu
 · have := World.ownsRow.cells h (g := g) rfl j u hu
   rw [← this]
   unfold at_ Addr.add
   split <;> simp_all
theorem OwnS.solid (h : OwnS w base e s p c n vs) : i0q p n := by
 rcases h.form with ⟨_, _, rfl, _⟩ | ⟨g, rfl, _⟩
 · exact fun h => by simp at h
 · exact fun _ => ⟨rfl, rfl⟩
theorem OwnS.far (h : OwnS w base e s p c n vs) {b : Nat} {t : TypeId} {us : Array Value} (hX : Bt w b t us) (hne : Nat.beq t e = false) (hp : p.isSome = true) : blk p ≠ b := by
 rcases h.2 with ⟨h1, h2⟩ | ⟨g, cap, cur, hv, hb, hg, _⟩
 · simp only [Value.slice.injEq] at h1
   rw [h1.1] at hp; cases hp
 · simp only [Value.slice.injEq] at hv
   intro hE
   rw [hv.1] at hE
   have hE2 : g = b := hE
   subst hE2
   have hE3 := hg.symm.trans hX
   simp only [Option.some.injEq, Obj.cells.injEq] at hE3
   rw [hE3.2.1] at hne
   simp at hne
theorem OwnS.apart (h : OwnS w base e s p c n vs) {b2 : Nat} {k : IntKind} {e2 : TypeId} {q : Option Addr} {c2 : Nat} {xs : List Nat} (o : Own w b2 k e2 q c2 xs) (hne : Nat.beq e2 e = false) (hp : p.isSome = true) : ¬ (q.isSome = true ∧ blk q = blk p) := by
 rintro ⟨hq, he⟩
 rcases h.2 with ⟨h1, h2⟩ | ⟨g, cap, cur, hv, hb, hg, _⟩
 · simp only [Value.slice.injEq] at h1
   rw [h1.1] at hp; cases hp
 · rcases o.2 with ⟨h1, h2⟩ | ⟨g', cap', cur', hv', hb', hg', _⟩
   · simp only [Value.slice.injEq] at h1
     rw [h1.1] at hq; cases hq
   · simp only [Value.slice.injEq] at hv hv'
     rw [hv.1, hv'.1] at he
     have hE : g' = g := he
     subst hE
     have := hg.symm.trans hg'
     simp only [Option.some.injEq, Obj.cells.injEq] at this
     rw [this.2.1] at hne
     simp at hne
end
def h0p (b : Nat) (e : TypeId) (s : Nat) (p : Option Addr) (c n : Nat) (vs : List Value) : PF :=
 ⟨fun w => OwnS w b e s p c n vs, fun a => p.isSome = true ∧ blk p = a, fun _ _ h hb _ => h.same fun hp => hb _ (h.blk_lt hp).2 ⟨hp, rfl⟩, fun _ _ h hf => hf.2 ▸ (h.blk_lt hf.1).2⟩
section
variable {P : Program} {w : World}
theorem m0f {t e : TypeId} {s bytes : Nat} (hty : z0j P t e s bytes) {p : Option Addr} {n c m : Nat} (hp : i0q p n) (hm : m < n) : (VO.ix t (.slice p n c) (.int .i64 (m : Int))).sem.run P w = .ok (.pointer (some (at_ p (m * s)))) w := by
 obtain ⟨i, z, hi, -, hs, -⟩ := hty.hi
 have hel : P.elem t = e := n0s hty.ht
 show (Instr.indexAt _ _ _).run P w = _
 rw [run_indexAt_solid w t p n c .i64 m (by rw [hel]; exact hty.ht) hp, if_pos (show (0 : Int) ≤ (m : Int) ∧ (m : Int) < (n : Int) by omega)]
 have hz : (sizeOf (P.elem t)).run P w = .ok s w := by
  rw [hel]
  simp [sizeOf, typeInfo, hi, hs]
 simp only [hz, Result.andThen_ok, Int.toNat_natCast]
theorem q0c {ty : TypeId} {base : Nat} {e : TypeId} {s : Nat} {p : Option Addr} {c n : Nat} {vs : List Value} (hr : OwnS w base e s p c n vs) {k : Nat} (hT : d0n P ty k) {m : Nat} (cs : List Value) (hc : (vs.drop m).take cs.length = cs) (hn : cs.length = k) : (VO.ld ty (.pointer (some (at_ p m)))).sem.run P w = .ok (.agg cs.toArray) w := by
 obtain ⟨⟨d, hu, hd⟩, hi⟩ := hT
 show (Instr.loadAt _ _).run P w = _
 have hE : at_ p m = ⟨(at_ p m).block, (at_ p m).off, none⟩ := rfl
 rw [hE]
 refine run_loadAt_mid w _ _ ty cs d (fun j v hv => ?_) hu hd (by rw [hi, hn])
 have hj := (List.getElem?_eq_some_iff.1 hv).1
 rw [← hc, List.getElem?_take, if_pos hj, List.getElem?_drop] at hv
 have := hr.cell hv
 rw [← this]
 unfold at_
 simp only [Nat.add_assoc]
end
section
variable {P : Program} {ops : Array Oper} {rest : List Oper} {o : Oper} {a : Act} {Q : Exit → Act → World → Prop} {w : World} {K : Act → World → Prop}
theorem k1v (s x : Operand) (t ty : TypeId) {pos : String} {d : Option Tmp} {af : Array Edge} {g : Option (Nat × Bool)} (ho : o = ⟨d, .call { callee := .builtin .append, args := #[s, x], argTypes := #[t, t] }, ty, pos, af, g⟩)
 {e : TypeId} {sz bytes : Nat} (hty : z0j P t e sz bytes) (base : Nat) (p : Option Addr) (n c : Nat) (vs : List Value) (hown : OwnS w base e sz p c n vs)
 (q : Addr) (m c2 : Nat) (ys : List Value) (hl : ys.length = m * sz) (hnews : ∀ j u, ys[j]? = some u → w.cell? (q.add j) = some u) (hone : ys.all (·.oneCell') = true) (hs : a.eval s = .slice p n c) (hx : a.eval x = .slice (some q) m c2)
 (hb : n + m ≤ 1000000000) (hbase : base ≤ w.heap.size) (hw : Region.wanted o (yielded ops a.tmps) = true)
 (h : ∀ p' c' w', OwnS w' base e sz p' c' (n + m) (vs ++ ys) → w.grownBy w' (p.map (·.block)) → (p'.isSome = true → (p.isSome = true ∧ blk p' = blk p) ∨ blk p' = w.heap.size) → K (a.put d (.slice p' (n + m) c')) w') : OpW P ops Q o K a w := by
 obtain ⟨i, z, hi, hz, hs1, hbt, hzs⟩ := hty.hi
 obtain ⟨v', w', hr, hO, hg, hnn, hat⟩ := run_append_own_at (P := P) w base t ty e i z sz bytes hty.ht hi hz hs1 hbt hzs hty.pos _ _ _ hown q m c2 ys hl hnews (fun u hu => List.all_eq_true.1 hone u hu) (by simp only [maxLen]; omega)
  (by have := Nat.mul_le_mul hb hty.le; omega) hbase
 have hv : ∃ p' c', v' = .slice p' (n + m) c' := by
  rcases hO.2 with ⟨h1, h2⟩ | ⟨g, cap, cur, h1, _⟩
  · exact ⟨none, 0, by rw [h1, h2]⟩
  · exact ⟨_, _, h1⟩
 obtain ⟨p', c', rfl⟩ := hv
 have hg' : w.grownBy w' (p.map (·.block)) := by cases p <;> exact hg
 refine ⟨?_⟩
 rw [if_pos hw]
 subst ho
 unfold Oper.wp execOp
 simp only [resolve, invoke, builtin, Sem.run_bind, Sem.run_pure, Result.andThen_ok, List.map_toArray, List.map_cons, List.map_nil, hs, hx, hr]
 refine h p' c' w' hO hg' fun hp' => ?_
 cases p' with
 | none => cases hp'
 | some a' =>
  rcases hat with h1 | h1
  · cases p with
    | none => cases h1
    | some b =>
     left
     exact ⟨rfl, Option.some.inj h1⟩
  · exact .inr (Option.some.inj h1)
end
/-! ### A block that was handed in -/
theorem Bt.far {w : World} {b b' : Nat} {t t' : TypeId} {vs us : Array Value} (h : Bt w b t vs) (hX : Bt w b' t' us) (hne : Nat.beq t t' = false) : ¬ (b = b') := by
 intro e
 subst e
 have := h.symm.trans hX
 simp only [Option.some.injEq, Obj.cells.injEq] at this
 rw [this.2.1] at hne
 simp at hne
def btF (b : Nat) (t : TypeId) (vs : Array Value) : PF :=
 ⟨fun w => Bt w b t vs, fun a => b = a, fun _ _ h hb _ => (hb b h.lt rfl).trans h, fun _ _ h hf => hf ▸ h.lt⟩
theorem i1n {P : Program} {w : World} {b : Nat} {t : TypeId} {vs : Array Value} (h : Bt w b t vs) {ty k : Nat} (hT : d0n P ty k) {m : Nat} (cs : List Value) (hc : (vs.toList.drop m).take cs.length = cs) (hn : cs.length = k) : (VO.ld ty (.pointer (some (at_ (some ⟨b, 0, none⟩) m)))).sem.run P w = .ok (.agg cs.toArray) w := by
 have := w0x h hT m cs hc hn
 show (Instr.loadAt _ _).run P w = _
 unfold at_
 simpa using this
theorem r0y {α : Type} {s : Nat} {f : α → List Value} (hf : ∀ x, (f x).length = s) : ∀ {xs : List α} {i : Nat} {x : α}, xs[i]? = some x → ((xs.flatMap f).drop (i * s)).take (f x).length = f x
 | [], _, _, h => by simp at h
 | a :: l, 0, x, h => by
  simp only [List.getElem?_cons_zero, Option.some.injEq] at h
  subst h
  rw [Nat.zero_mul, List.drop_zero, List.flatMap_cons, List.take_left']
  rfl
 | a :: l, i + 1, x, h => by
  rw [List.getElem?_cons_succ] at h
  have := r0y hf h
  rw [List.flatMap_cons, Nat.add_mul, Nat.one_mul, Nat.add_comm, ← List.drop_drop, List.drop_left' (hf a)]
  exact this
theorem Kp.toBelow {u : Nat} {w w' : World} {t : TypeId} {vs : Array Value} (h : Kp [u] w w') (U : Bt w u t vs) (U' : Bt w' u t vs) : Below w.heap.size w w' :=
 ⟨h.os, h.tape, h.output, h.size, fun k hk => by
   by_cases e : k = u
   · subst e; exact Eq.trans U' (Eq.symm U)
   · exact h.block k hk (by simp [e])⟩
/-! ### Steps -/
def d1v : List Box → Bool
 | [] => true
 | b :: l => match b.ro with | true => false | false => d1v l
theorem t0u : ∀ {l : List Box}, d1v l = true → ∀ k, k < l.length → (lk bx0 l k).ro = false
 | [], _, _, h => by simp at h
 | b :: l, h, k, hk => by
  unfold d1v at h
  split at h
  · cases h
  · rename_i hb
    cases k with
    | zero => exact hb
    | succ k => exact t0u h k (by simpa using hk)
section
variable {P : Program} {Q : Exit → Act → World → Prop} {E : List Nat} {w0 : World} {A : List Nat} {fs : List PF} {W V : World} {c : Cfg}
theorem Inv.grown {W' : World} {bx : List Box} {b : Nat} {e : TypeId} {s : Nat} {p p' : Option Addr} {cc c' n n' : Nat} {vs vs' : List Value} (I : Inv E w0 A bx (h0p b e s p cc n vs :: fs) W) (hb : w0.heap.size ≤ b) (hrw : d1v bx = true)
 (hO : OwnS W' b e s p' c' n' vs') (hg : W.grownBy W' (p.map (·.block))) (hat : p'.isSome = true → (p.isSome = true ∧ blk p' = blk p) ∨ blk p' = W.heap.size) (hfar : p.isSome = true → PF.far (blk p) fs) :
 Inv E w0 A bx (h0p b e s p' c' n' vs' :: fs) W' := by
 have hrow := I.fa.1
 have hne : ∀ k, p.map (·.block) = some k → p.isSome = true ∧ blk p = k := fun k h => by
  cases p with
  | none => cases h
  | some a => exact ⟨rfl, Option.some.inj h⟩
 have keep : ∀ k, k < W.heap.size → (p.isSome = true → blk p ≠ k) → W'.heap[k]? = W.heap[k]? := fun k hk h => hg.block k hk fun e => by
  obtain ⟨h1, h2⟩ := hne k e.symm
  exact h h1 h2
 refine ⟨⟨hg.os.trans I.bel.os, hg.tape.trans I.bel.tape, hg.output.trans I.bel.output, Nat.le_trans I.bel.size hg.size, fun k hk hkE => ?_⟩, I.ge, I.nd, I.len, I.pre, fun k hk => ?_, ⟨hO, ?_⟩, fun a ha => ⟨fun hf => ?_, (I.far a ha).2⟩⟩
 · rw [keep k (Nat.lt_of_lt_of_le hk I.bel.size) fun hp => by have := (hrow.blk_lt hp).1; omega]
   exact I.bel.block k hk hkE
 · have hF : Fa A bx (lk 0 A k) := ⟨k, hk, t0u hrw k hk, rfl⟩
   have h1 := I.bt k hk
   unfold Bt at h1 ⊢
   rw [keep _ (I.lt _ hF) fun hp e => (I.far _ hF).1 ⟨hp, e⟩]
   exact h1
 · refine PF.all_keep hg.size I.fa.2 fun k hk ha => keep k hk fun hp => ha _ (hfar hp)
 · rcases hat hf.1 with ⟨hp, h⟩ | h
   · exact (I.far a ha).1 ⟨hp, h.symm.trans hf.2⟩
   · have := I.lt a ha
     have := hf.2
     omega
def apOf (c : Cfg) (A : List Nat) : Option (TypeId × Value × Value) :=
 match hdOp c with
 | some ⟨_, .call ⟨.builtin .append, ⟨[s, x]⟩, ⟨[t, t']⟩⟩, _, _, _, _⟩ => match Nat.beq t t' with
  | true => some (t, evr A c.fr s, evr A c.fr x)
  | false => none
 | _ => none
theorem zap {e : TypeId} {sz : Nat} {p : Option Addr} {cc n : Nat} {vs : List Value} (I : Inv E w0 A c.bx (h0p w0.heap.size e sz p cc n vs :: fs) W) {t : TypeId} {bytes : Nat} (hty : z0j P t e sz bytes) (k m : Nat) (news : List Nat → List Value)
 (hbox : ∀ A W, Inv E w0 A (zr P none c).bx (h0p w0.heap.size e sz p cc n vs :: fs) W → Bt W (lk 0 A k) e (news A).toArray) (hcap : n + m ≤ 1000000000)
 (hfar : ∀ A W, Inv E w0 A (zr P none c).bx (h0p w0.heap.size e sz p cc n vs :: fs) W → p.isSome = true → PF.far (blk p) fs)
 (h : ∀ A W p' c', (p'.isSome = true → PF.far (blk p') fs) → Inv E w0 A (putc (zr P none c) (.v (.slice p' (n + m) c'))).bx (h0p w0.heap.size e sz p' c' (n + m) (vs ++ news A) :: fs) W → G P Q A (putc (zr P none c) (.v (.slice p' (n + m) c'))) W)
 (hl : ∀ A, Nat.beq (news A).length (m * sz) = true := by intro _; kernel_rfl) (hone : ∀ A, (news A).all (·.oneCell') = true := by intro _; kernel_rfl)
 (ho : ∀ A, apOf (zr P none c) A = some (t, .slice p n cc, .slice (some ⟨lk 0 A k, 0, none⟩) m m) := by intro _; kernel_rfl)
 (hr : ∀ A w, (zms P none 5000 c A w).map (·.1) = (zms P none 5000 c A w).map (·.2) := by intro _ _; kernel_rfl)
 (hrw : d1v (zr P none c).bx = true := by kernel_rfl)
 (hm : ok1 (zr P none c).rg (zr P none c).bx = ok2 (zr P none c).rg := by kernel_rfl) : G P Q A c W :=
 c0e I hr fun A W I => by
  have ho2 := ho A
  have h2 := h A
  have hbox2 := hbox A W I
  have hfar2 := hfar A W I
  have hl2 := hl A
  have hone2 := hone A
  clear hr ho h hbox hfar hl hone
  generalize zr P none c = c at *
  unfold apOf hdOp at ho2
  split at ho2
  · rename_i hn'
    split at ho2
    · rename_i hbeq
      have htt := Nat.eq_of_beq_eq_true hbeq
      subst htt
      simp only [Option.some.injEq, Prod.mk.injEq] at ho2
      obtain ⟨rfl, ho1, ho2⟩ := ho2
      split at hn'
      · rename_i o' hn
        split at hn'
        · rename_i hw
          simp only [Option.some.injEq] at hn'
          subst hn'
          refine G_op (E := E) (w0 := w0) (fs := []) hn fun K hK => k1v _ _ _ _ rfl hty w0.heap.size p n cc vs I.fa.1 ⟨lk 0 A k, 0, none⟩ m m (news A) (Nat.eq_of_beq_eq_true hl2) (fun j u hu => ?_) hone2 (by rw [c0k]; exact ho1) (by rw [c0k]; exact ho2) hcap I.bel.size (by rw [g0r]; exact hw) fun p' c' W' hO hg hat => ?_
          · have := hbox2.bx.cell j
            rw [show (⟨lk 0 A k, 0, none⟩ : Addr).add j = ⟨lk 0 A k, j, none⟩ by unfold Addr.add; split <;> simp_all, this]
            simpa using hu
          · have I2 := I.grown (Nat.le_refl _) hrw hO hg hat hfar2
            have hq : p'.isSome = true → PF.far (blk p') fs := fun hp => by
             rcases hat hp with ⟨h1, h3⟩ | h1
             · rw [h3]; exact hfar2 h1
             · rw [h1]; exact PF.far_new I.fa.2
            have h := h2 W' p' c' hq I2
            unfold putc at h
            rw [hn] at h
            have := hK A W' _ c.bx (List.prefix_refl _) (I2.pick []) hm h
            rw [show Value.slice p' (n + m) c' = (SV.v (.slice p' (n + m) c')).r A from rfl, e0b]
            exact this
        · cases hn'
      · cases hn'
    · cases ho2
  · cases ho2
theorem Inv.newb {bx : List Box} (I : Inv E w0 A bx fs V) (hb : Below V.heap.size V W) {b : Nat} {t : TypeId} {cs : List SV} (hge : V.heap.size ≤ b) (hB : Bt W b t (cs.map (SV.r A)).toArray) (h1 : wfL bx.length cs = true) (h2 : wfB bx.length bx = true) :
 Inv E w0 (A ++ [b]) (bx ++ [⟨t, cs, false⟩]) fs W := by
 have I' := I.past hb
 have hl : ∀ k, k < bx.length → lk 0 (A ++ [b]) k = lk 0 A k ∧ lk bx0 (bx ++ [⟨t, cs, false⟩]) k = lk bx0 bx k := fun k h => ⟨d0j 0 (by rw [I.len]; exact h), d0j bx0 h⟩
 have hn : lk 0 (A ++ [b]) bx.length = b ∧ lk bx0 (bx ++ [⟨t, cs, false⟩]) bx.length = ⟨t, cs, false⟩ := ⟨by rw [← I.len, d0t], d0t _⟩
 have hF : ∀ a, Fa (A ++ [b]) (bx ++ [⟨t, cs, false⟩]) a → Fa A bx a ∨ a = b := fun a ⟨k, hk, hr, e⟩ => by
  rw [List.length_append, List.length_singleton] at hk
  by_cases h : k < bx.length
  · rw [(hl k h).2] at hr
    rw [(hl k h).1] at e
    exact .inl ⟨k, h, hr, e⟩
  · obtain rfl : k = bx.length := by omega
    exact .inr (e.trans hn.1)
 refine ⟨I'.bel, fun a ha => ?_, fun i j hi hj hr hne => ?_, by simp [I.len], I.pre.trans (List.prefix_append _ _), fun k hk => ?_, I'.fa, fun a ha => ?_⟩
 · rcases hF a ha with h | rfl
   · exact I.ge a h
   · exact .inl (Nat.le_trans I.bel.size hge)
 · rw [List.length_append, List.length_singleton] at hi hj
   by_cases h : i < bx.length
   · rw [(hl i h).2] at hr
     by_cases h' : j < bx.length
     · rw [(hl i h).1, (hl j h').1]
       exact I.nd i j h h' hr hne
     · obtain rfl : j = bx.length := by omega
       rw [(hl i h).1, hn.1]
       have := (I.bt i h).lt
       omega
   · obtain rfl : i = bx.length := by omega
     have h' : j < bx.length := by omega
     rw [(hl j h').1, hn.1]
     have := (I.bt j h').lt
     omega
 · rw [List.length_append, List.length_singleton] at hk
   by_cases h : k < bx.length
   · rw [(hl k h).1, (hl k h).2]
     have := I'.bt k h
     unfold Box.row at this ⊢
     rw [o0v _ I.len (n0q h2 k)]
     exact this
   · obtain rfl : k = bx.length := by omega
     rw [hn.1, hn.2]
     unfold Box.row
     simp only
     rw [o0v _ I.len h1]
     exact hB
 · rcases hF a ha with h | rfl
   · exact I'.far a h
   · have : ∀ {l : List PF}, PF.all V l → PF.far a l := fun {l} hl => by
      induction l with
      | nil => exact True.intro
      | cons f l ih => exact ⟨fun hf => by have := f.lt V _ hl.1 hf; omega, ih hl.2⟩
     exact this I.fa
theorem n1x {A' : List Nat} {c' : Cfg} (hA : A <+: A') (he : act A c.fr = act A' c'.fr) (h1 : c'.rg = c.rg) (h2 : c'.ks = c.ks) (h : G P Q A' c' W) : G P Q A c W := by
 refine ⟨?_⟩
 have h := h.out
 unfold h1y at *
 obtain ⟨fr, bx, rg, ks⟩ := c
 obtain ⟨fr', bx', rg', ks'⟩ := c'
 simp only at *
 subst h1 h2
 rw [he]
 cases rg' with
 | off => exact h
 | pl => exact h
 | dr ops A0 m fuel listed => exact fun pre => h (pre.on hA)
 | one ops A0 m fuel listed i => exact fun pre => h (pre.on hA)
 | ret => exact h
theorem g1t {bxv : List Box} (I : Inv E w0 A bxv fs V) (hb : Below V.heap.size V W) (k b : Nat) (t : TypeId) (cs : List Value) (hge : V.heap.size ≤ b) (hB : Bt W b t cs.toArray)
 (h : ∀ A', lk 0 A' k = b → Inv E w0 A' (c.bx ++ [⟨t, cs.map .v, false⟩]) fs W → G P Q A' ⟨c.fr, c.bx ++ [⟨t, cs.map .v, false⟩], c.rg, c.ks⟩ W)
 (hbv : bxv = c.bx := by kernel_rfl) (hk : c.bx.length = k := by kernel_rfl) (h1 : wfL c.bx.length (cs.map SV.v) = true := by kernel_rfl) (h2 : wfB c.bx.length c.bx = true := by kernel_rfl) (h3 : wfL c.bx.length c.fr = true := by kernel_rfl) : G P Q A c W := by
 subst hbv
 have hcs : ∀ A, (cs.map SV.v).map (SV.r A) = cs := fun A => by
  rw [List.map_map]
  exact List.map_id _
 have I2 := I.newb hb (cs := cs.map SV.v) hge (by rw [hcs]; exact hB) h1 h2
 refine n1x (A' := A ++ [b]) (c' := ⟨c.fr, c.bx ++ [⟨t, cs.map .v, false⟩], c.rg, c.ks⟩) (List.prefix_append _ _) ?_ rfl rfl (h _ ?_ I2)
 · unfold act
   simp only
   rw [o0v _ I.len h3]
 · rw [← hk, ← I.len, d0t]
theorem g1u (I : Inv E w0 A c.bx fs W) (d k b : Nat) (hk : lk 0 A k = b) (h : ∀ A W, Inv E w0 A (putc (zr P (some d) c) (.p k 0)).bx fs W → G P Q A (putc (zr P (some d) c) (.p k 0)) W)
 (hkl : Nat.ble (k + 1) c.bx.length = true := by kernel_rfl)
 (hv : u0z P (zr P (some d) c) = some (.val (.v (.pointer (some ⟨b, 0, none⟩)))) := by kernel_rfl)
 (hc : ∀ A w, (f0q P (zr P (some d) c) A w).map (·.1) = (f0q P (zr P (some d) c) A w).map (·.2) := by intro _ _; kernel_rfl)
 (hr : ∀ A w, (zms P (some d) 5000 c A w).map (·.1) = (zms P (some d) 5000 c A w).map (·.2) := by intro _ _; kernel_rfl)
 (hm : ok1 (zr P (some d) c).rg (zr P (some d) c).bx = ok2 (zr P (some d) c).rg := by kernel_rfl) : G P Q A c W := by
 refine l0n 5000 I (fun A w => f0v (hr A w)) fun A' W' hA I' => ?_
 rw [← m1m] at I' ⊢
 refine m1o I' _ (.p k 0) ?_ (h A' W') hv (fun A w => f0v (hc A w)) hm
 show Value.pointer (some ⟨b, 0, none⟩) = .pointer (some ⟨lk 0 A' k, 0, none⟩)
 rw [x0b hA (by rw [I.len]; exact h0z hkl), hk]
theorem j0p {α : Type} (d : α) {l : List α} {n k : Nat} (h : k < n) : lk d (l.take n) k = lk d l k := by
 rw [e0r, e0r, List.getElem?_take, if_pos h]
theorem Inv.dropB {bx : List Box} (I : Inv E w0 A bx fs W) (n : Nat) (hE : E.length ≤ n) (hw : wfB n (bx.take n) = true) (hn : n ≤ bx.length) : Inv E w0 (A.take n) (bx.take n) fs W := by
 have hl : (bx.take n).length = n := by rw [List.length_take]; omega
 have hla : (A.take n).length = n := by rw [List.length_take, I.len]; omega
 have hF : ∀ a, Fa (A.take n) (bx.take n) a → Fa A bx a := fun a ⟨k, hk, hr, e⟩ => by
  rw [hl] at hk
  rw [j0p _ hk] at hr e
  exact ⟨k, by omega, hr, e⟩
 refine ⟨I.bel, fun a ha => I.ge a (hF a ha), fun i j hi hj hr hne => ?_, by rw [hl, hla], ?_, fun k hk => ?_, I.fa, fun a ha => I.far a (hF a ha)⟩
 · rw [hl] at hi hj
   rw [j0p _ hi] at hr
   rw [j0p _ hi, j0p _ hj]
   exact I.nd i j (by omega) (by omega) hr hne
 · exact List.prefix_take_iff.2 ⟨I.pre, hE⟩
 · rw [hl] at hk
   have h1 := I.bt k (by omega)
   rw [j0p _ hk, j0p _ hk]
   unfold Box.row at h1 ⊢
   have hw2 := n0q hw k
   rw [j0p _ hk] at hw2
   have h2 := o0v (A := A.take n) (A.drop n) hla hw2
   rw [List.take_append_drop] at h2
   rw [← h2]
   exact h1
theorem o0p (n : Nat) (I : Inv E w0 A c.bx fs W) (J : Act → World → Prop) {fr : (Nat → Value) → List SV} {bx : (Nat → Value) → List Box} (h : ∀ A W U, Inv E w0 A (bx U) fs W → J (act A (fr U)) W)
 (hr : ∀ A w, (zms P none 5000 c A w).map (·.1) = (zms P none 5000 c A w).map (·.2) := by intro _ _; kernel_rfl)
 (hf : ∀ A, (zr P none c).fr.map (SV.r A) = (fr (uOf (zr P none c) A)).map (SV.r A) := by intro _; kernel_rfl)
 (hb : ∀ A, (zr P none c).bx.take n = bx (uOf (zr P none c) A) := by intro _; kernel_rfl)
 (hw : ∀ U, wfL n (fr U) = true := by intro _; kernel_rfl) (hw2 : wfB n ((zr P none c).bx.take n) = true := by kernel_rfl) (hn : Nat.ble n (zr P none c).bx.length = true := by kernel_rfl) (hE : Nat.ble E.length n = true := by kernel_rfl)
 (hs : i1f (zr P none c) = some J := by kernel_rfl) : G P Q A c W :=
 c0e I hr fun A W I => by
  have I2 := I.dropB n (Nat.le_of_ble_eq_true hE) hw2 (Nat.le_of_ble_eq_true hn)
  rw [hb A] at I2
  have h := h (A.take n) W (uOf (zr P none c) A) I2
  have hf := hf A
  have hla : (A.take n).length = n := by rw [List.length_take, I.len]; exact Nat.min_eq_left (Nat.le_of_ble_eq_true hn)
  have h3 := o0v (A := A.take n) (A.drop n) hla (hw (uOf (zr P none c) A))
  rw [List.take_append_drop] at h3
  unfold act at h
  rw [← h3, ← hf] at h
  clear hb hf h3 hw hw2 hn I2
  generalize zr P none c = c at *
  refine ⟨?_⟩
  obtain ⟨cf, cb, rg, ks⟩ := c
  cases rg with
  | pl => cases hs
  | dr => cases hs
  | one => cases hs
  | ret => cases hs
  | off =>
   cases ks with
   | nil => cases hs
   | cons k ks =>
    cases k with
    | block => cases hs
    | code => cases hs
    | stop J' =>
     obtain rfl : J' = J := Option.some.inj hs
     exact h
theorem zgfe (I : Inv E w0 A c.bx fs W) (k : Nat) (t : TypeId) {f : FuncId} {args : List Nat → World → Array Value} {post : List Nat → World → Ending → World → Prop} (hf : ∀ args w, (callFunc f args).run P w = .ok (.enter f args) w)
 (hc : ∀ A W, Inv E w0 A (zr P none c).bx fs W → Calls P f (args A W) W (post A W))
 (h : ∀ A V, Inv E w0 A (zr P none c).bx fs V → w0.heap.size ≤ V.heap.size → ∀ K : Value → World → Prop, (∀ v cs W, Kp [lk 0 A k] V W → Bt W (lk 0 A k) t (cs.map (SV.r A)).toArray → (Inv E w0 A (v0b (zr P none c) k cs (.v v)).bx fs W → G P Q A (v0b (zr P none c) k cs (.v v)) W) → K v W) → ∀ e W, post A V e W → ∃ v, e = .returned v ∧ K v W)
 (ho : ∀ A w, x0c (zr P none c) A = some (.func (.func f) #[] #[], args A w) := by intro _ _; kernel_rfl)
 (hr : ∀ A w, (zms P none 5000 c A w).map (·.1) = (zms P none 5000 c A w).map (·.2) := by intro _ _; kernel_rfl)
 (hm : ∀ cs, ok1 (zr P none c).rg (setL (zr P none c).bx k ⟨(lk bx0 (zr P none c).bx k).t, cs, false⟩) = ok2 (zr P none c).rg := by intro _; kernel_rfl) (hk : wrOk (zr P none c) k = true := by kernel_rfl)
 (ht : (lk bx0 (zr P none c).bx k).t = t := by kernel_rfl) : G P Q A c W :=
 c0e I hr fun A V I => i1b I k (hc A V I) (by rw [ht]; exact h A V I I.bel.size) (x0d (ho A V) (hf _)) hm hk
theorem Inv.owns {bx : List Box} (I : Inv E w0 A bx fs W) {b : Nat} {e : TypeId} {s : Nat} {p : Option Addr} {cc n : Nat} {vs : List Value} (o : OwnS W b e s p cc n vs) (hb : w0.heap.size ≤ b := by first | exact Nat.le_refl _ | assumption | omega) (hne : r0g e bx = true := by kernel_rfl) :
 Inv E w0 A bx (h0p w0.heap.size e s p cc n vs :: fs) W :=
 I.add (h0p w0.heap.size e s p cc n vs) (o.mono hb) fun a ha hf => by
  obtain ⟨j, hj, _, rfl⟩ := ha
  exact o.far (I.bt j hj) (g0t hne j hj) hf.1 hf.2
end
end Go.Slip
namespace Go.Proofs.YtmacohmclpnphaaGreatDoor
open Go.RowKit Go.Slip
theorem TabW.far {w : World} {b : Nat} {t : TypeId} {vs : Array Value} (h : TabW w) (hX : Bt w b t vs) (hne : (match vs[0]? with | some (.int .u8 _) => false | _ => true) = true) : ¬ (0 = b) := by
 intro e
 subst e
 have h1 := h.1 0 (by omega)
 rw [hX.bx.cell 0] at h1
 rw [h1] at hne
 cases hne
def famB (f : Fm) : Int := if f.fam = 1 then 65 else if f.fam = 2 then 66 else 67
abbrev uS (f : Fm) (n way k : Int) : List SV := [.v (.int .i64 n), .v (.int .i64 way), .v (.int .i64 f.g.rad), .v (.int .i64 f.g.digs), .v (.int .i64 f.g.lo), .v (.int .i64 f.g.hi), .v (.bool f.g.grad), .v (.int .u8 (famB f)), .v (.int .i64 k)]
theorem c0v (f : Fm) (n way a b c : Int) (u : Nat) (w : World) (U : Bt w u 182 #[.int .i64 n, .int .i64 way, .int .i64 f.g.rad, .int .i64 f.g.digs, .int .i64 f.g.lo, .int .i64 f.g.hi, .bool f.g.grad, .int .u8 (famB f), .int .i64 a]) (hc : bits .or .i64 a b = c) :
 Calls Tryz.prog 163 #[.pointer (some ⟨u, 0, none⟩), .int .i64 b] w fun e w' => e = .returned (.tuple #[]) ∧ Kp [u] w w' ∧ Bt w' u 182 #[.int .i64 n, .int .i64 way, .int .i64 f.g.rad, .int .i64 f.g.digs, .int .i64 f.g.lo, .int .i64 f.g.hi, .bool f.g.grad, .int .u8 (famB f), .int .i64 c] := by
 have I := Inv.startW w u 182 (uS f n way a) [] U True.intro True.intro
 refine a0d [.p 0 0, .v (.int .i64 b)] I Tryz.func163 ?_
 refine zbin I 9 _ (fun _ _ _ _ _ => m1v .i64 (a) (b) (c) (hc)) fun Al W I => ?_
 exact zret I fun Al W I => ⟨rfl, I.bel, I.boxE 182 _⟩
theorem d1w (f : Fm) (n way a : Int) (u : Nat) (w : World) (U : Bt w u 182 #[.int .i64 n, .int .i64 way, .int .i64 f.g.rad, .int .i64 f.g.digs, .int .i64 f.g.lo, .int .i64 f.g.hi, .bool f.g.grad, .int .u8 (famB f), .int .i64 a]) :
 Calls Tryz.prog 165 #[.pointer (some ⟨u, 0, none⟩)] w fun e w' => e = .returned (.int .i64 ((wid f.g : Nat) : Int)) ∧ Below w.heap.size w w' := by
 by_cases h : f.g.rad = 16
 · have hw : wid f.g = 4 := by unfold wid; rw [if_pos h]
   rw [hw]
   have I := Inv.startR w [u] [⟨182, (uS f n way a), true⟩] [] ⟨U, True.intro⟩ True.intro
   refine a0d [.p 0 0] I Tryz.func165 ?_
   refine zb I 8 (f.g.rad == 16) (true) (beq_iff_eq.2 h) fun Al W I => ?_
   exact zrb I
 · have hw : wid f.g = 1 := by unfold wid; rw [if_neg h]
   rw [hw]
   have I := Inv.startR w [u] [⟨182, (uS f n way a), true⟩] [] ⟨U, True.intro⟩ True.intro
   refine a0d [.p 0 0] I Tryz.func165 ?_
   refine zb I 8 (f.g.rad == 16) (false) (bFn h) fun Al W I => ?_
   exact zrb I
theorem x0q (f : Fm) (n way a : Int) (g : Bool) (u : Nat) (w : World) (U : Bt w u 182 #[.int .i64 n, .int .i64 way, .int .i64 f.g.rad, .int .i64 f.g.digs, .int .i64 f.g.lo, .int .i64 f.g.hi, .bool f.g.grad, .int .u8 (famB f), .int .i64 a]) :
 Calls Tryz.prog 119 #[.pointer (some ⟨u, 0, none⟩), .bool g] w fun e w' => e = .returned (.agg #[.int .i64 1, .bool (g && decide (f.fam = 1)), .slice none 0 0, .int .i64 0]) ∧ Below w.heap.size w w' := by
 have hB : (famB f == 65) = decide (f.fam = 1) := by
  unfold famB
  by_cases h1 : f.fam = 1
  · simp [h1]
  · by_cases h2 : f.fam = 2 <;> simp [h1, h2]
 cases g
 · have I := Inv.startR w [u] [⟨182, (uS f n way a), true⟩] [] ⟨U, True.intro⟩ True.intro
   refine a0d [.p 0 0, .v (.bool false)] I Tryz.func119 ?_
   exact zrb I
 · generalize decide (f.fam = 1) = q at *
   have I := Inv.startR w [u] [⟨182, (uS f n way a), true⟩] [] ⟨U, True.intro⟩ True.intro
   refine a0d [.p 0 0, .v (.bool true)] I Tryz.func119 ?_
   refine zb I 11 ((famB f) == 65) (q) (hB) fun Al W I => ?_
   exact zrb I
theorem g1v : Tryz.prog.underlying 216 = some (.map 5 3) := by kernel_rfl
def o0q : Array MapEntry := #[⟨.int .u8 65, .int .i64 4, 0⟩, ⟨.int .u8 66, .int .i64 1, 1⟩, ⟨.int .u8 67, .int .i64 5, 2⟩]
theorem k0y (f : Fm) (n way a : Int) (u : Nat) (w : World) (U : Bt w u 182 #[.int .i64 n, .int .i64 way, .int .i64 f.g.rad, .int .i64 f.g.digs, .int .i64 f.g.lo, .int .i64 f.g.hi, .bool f.g.grad, .int .u8 (famB f), .int .i64 a]) :
 Calls Tryz.prog 141 #[.pointer (some ⟨u, 0, none⟩)] w fun e w' => e = .returned (.agg #[.int .i64 (f.nothM.cls : Int), .bool false, .slice none 0 0, .int .i64 0]) ∧ Below w.heap.size w w' := by
 have hmm := @run_makeMap Tryz.prog
 go_enter Tryz.func141, Tryz.ntmps141
 have hs : (w.alloc (Obj.cells #[Value.int IntKind.i64 0, Value.bool false, Value.slice none 0 0, Value.int IntKind.i64 0] 75)).heap.size = w.heap.size + 1 := by show (w.heap.push _).size = _; exact Array.size_push ..
 have h1 := e0n (w := w.alloc (Obj.cells #[Value.int IntKind.i64 0, Value.bool false, Value.slice none 0 0, Value.int IntKind.i64 0] 75)) g1v Tryz.underlying5 #[] 0 65 (.int .i64 4) rfl
 have h2 := e0n (w := w.alloc (Obj.cells #[Value.int IntKind.i64 0, Value.bool false, Value.slice none 0 0, Value.int IntKind.i64 0] 75)) g1v Tryz.underlying5 #[⟨.int .u8 65, .int .i64 4, 0⟩] 1 66 (.int .i64 1) rfl
 have h3 := e0n (w := w.alloc (Obj.cells #[Value.int IntKind.i64 0, Value.bool false, Value.slice none 0 0, Value.int IntKind.i64 0] 75)) g1v Tryz.underlying5 #[⟨.int .u8 65, .int .i64 4, 0⟩, ⟨.int .u8 66, .int .i64 1, 1⟩] 2 67 (.int .i64 5) rfl
 rw [hs] at h1 h2 h3
 have U3 : ∀ es c, Bt ((w.alloc (Obj.cells #[Value.int IntKind.i64 0, Value.bool false, Value.slice none 0 0, Value.int IntKind.i64 0] 75)).alloc (Obj.map es c)) u 182 #[.int .i64 n, .int .i64 way, .int .i64 f.g.rad, .int .i64 f.g.digs, .int .i64 f.g.lo, .int .i64 f.g.hi, .bool f.g.grad, .int .u8 (famB f), .int .i64 a] := fun es c => U.past (((Below.refl _ _).alloc (Nat.le_refl _) _).alloc (by rw [hs]; omega) _)
 have hL := (U3 o0q 3).bx.c 7 (v := .int .u8 (famB f)) rfl
 have hM : ((w.alloc (Obj.cells #[Value.int IntKind.i64 0, Value.bool false, Value.slice none 0 0, Value.int IntKind.i64 0] 75)).alloc (Obj.map o0q 3)).heap[w.heap.size + 1]? = some (.map o0q 3) := by
  rw [← hs]; show ((World.alloc _ _).heap.push _)[_]? = _; exact Array.getElem?_push_size
 have hF : ∃ i, Instr.findNow (.int .u8) (.int .u8 (famB f)) o0q.toList 0 = some (some (i, .int .i64 (f.nothM.cls : Int))) := by
  unfold famB Fm.nothM
  by_cases h1 : f.fam = 1
  · rw [if_pos h1, if_pos h1]; exact ⟨0, rfl⟩
  · rw [if_neg h1, if_neg h1]
    by_cases h2 : f.fam = 2
    · rw [if_pos h2, if_pos h2]; exact ⟨1, rfl⟩
    · rw [if_neg h2, if_neg h2]; exact ⟨2, rfl⟩
 obtain ⟨i, hF⟩ := hF
 have hK := i0y g1v Tryz.underlying5 hM (famB f) hF
 simp only [o0q] at hL hK
 clear hM hF U3
 go_wp2_with fail
 have hC : Bt ((w.alloc (Obj.cells #[.int .i64 (f.nothM.cls : Int), .bool false, .slice none 0 0, .int .i64 0] 75)).alloc (Obj.map o0q 3)) w.heap.size 75 #[.int .i64 (f.nothM.cls : Int), .bool false, .slice none 0 0, .int .i64 0] := by
  show ((w.heap.push _).push _)[_]? = _
  rw [Array.getElem?_push_lt (by rw [Array.size_push]; omega)]
  simp
 simp only [o0q] at hC
 have ⟨b0, b1, b2, b3⟩ := hC.bx.e4
 refine bodyPost_ret (v := .agg #[.int .i64 (f.nothM.cls : Int), .bool false, .slice none 0 0, .int .i64 0]) (by simp [results, Tryz.results141, go_sem, b0, b1, b2, b3]) rfl ⟨rfl, ?_⟩
 refine ((Below.refl _ _).alloc (Nat.le_refl _) _).alloc ?_ _
 show _ ≤ (w.heap.push _).size
 rw [Array.size_push]; omega
def k1w (w : World) (v : Vl) (en : Ending) (w' : World) : Prop :=
 ∃ p c, en = .returned (.agg #[.int .i64 (v.cls : Int), .bool v.neg, .slice p (dig B32 v.d).length c, .int .i64 v.pow]) ∧ Own w' w.heap.size .u32 141 p c (dig B32 v.d) ∧ Below w.heap.size w w'
theorem g0w (f : Fm) (n way a : Int) (g : Bool) (u : Nat) (w : World) (U : Bt w u 182 #[.int .i64 n, .int .i64 way, .int .i64 f.g.rad, .int .i64 f.g.digs, .int .i64 f.g.lo, .int .i64 f.g.hi, .bool f.g.grad, .int .u8 (famB f), .int .i64 a]) (hd : 0 ≤ f.g.digs ∧ f.g.digs ≤ 1000) :
 Calls Tryz.prog 164 #[.pointer (some ⟨u, 0, none⟩), .bool g] w (k1w w ⟨2, g, 2 ^ (wid f.g * f.g.digs.toNat) - 1, f.g.hi⟩) := by
 have wp := b0g f.g
 have lu := U.lt
 have hmw : ((wid f.g * f.g.digs.toNat : Nat) : Int) = (wid f.g : Nat) * f.g.digs := by rw [Int.natCast_mul, Int.toNat_of_nonneg hd.1]
 have hmb : wid f.g * f.g.digs.toNat ≤ 4 * 1000 := Nat.mul_le_mul wp.2 (by omega)
 have l1 : (dig B32 1).length ≤ 1 := by rw [a0g a0b]; unfold B32; omega
 have l2 : (dig B32 (2 ^ (wid f.g * f.g.digs.toNat))).length ≤ 126 := a0v (n := wid f.g * f.g.digs.toNat + 1) (k := 126) (Nat.pow_lt_pow_right (a := 2) (by omega) (by omega)) (by omega)
 have h1 := Nat.one_le_two_pow (n := wid f.g * f.g.digs.toNat)
 have HW := fun W u hU => hi0 (d1w f n way a u W hU)
 generalize wid f.g * f.g.digs.toNat = m at *
 generalize hx : 2 ^ m = x at *
 have HX := hi0 hx
 clear hx
 have HM := hi0 hmw
 clear hmw
 have I := Inv.startR w [u] [⟨182, (uS f n way a), true⟩] [] ⟨U, True.intro⟩ True.intro
 refine a0d [.p 0 0, .v (.bool g)] I Tryz.func164 ?_
 refine zq I (fun Al W I => (HW W _ (I.box 0 182 _)).out) fun Al W I => ?_
 refine zd [] I fun Al W I => ?_
 refine zk [1, 2, 3, 4, 5, 6] I fun I => ?_
 refine zki 7 I .i64 (((wid f.g : Nat) : Int) * f.g.digs) ((m : Int)) ((by rw [HM.out]; exact IntWalk.i64_in _ (by rw [← HM.out]; omega))) fun I => ?_
 refine zo 0 I fun I => ?_
 refine zqo I (fun Al W I => have hzW := I.bel.size; sof 1 1 rfl (by omega) W) fun Al W p9 c9 I => ?_
 refine zo 8 I fun I => ?_
 refine zqo I (fun Al W I => have hzW := I.bel.size; sshl p9 _ c9 1 m x _ W I.fa.1.rd rfl (by omega) (by omega) rfl (by rw [HX.out]; omega)) fun Al W p17 c17 I => ?_
 refine zo 9 I fun I => ?_
 refine zqo I (fun Al W I => have hzW := I.bel.size; sof 1 1 rfl (by omega) W) fun Al W p18 c18 I => ?_
 refine zo 10 I fun I => ?_
 refine zqo I (fun Al W I => have hzW := I.bel.size; ssub p17 p18 _ _ c17 c18 x 1 (x - 1) W I.fa.2.1.rd I.fa.1.rd rfl rfl (by omega) (by omega) rfl) fun Al W p19 c19 I => ?_
 refine zk [11] I fun I => ?_
 exact zret I fun Al W I => ⟨p19, c19, rfl, I.fa.1.mono (by omega), I.below⟩
def m0g (f : Fm) (n way c : Int) (u : Nat) (w : World) (v : Vl) (en : Ending) (w' : World) : Prop :=
 ∃ p k, en = .returned (.agg #[.int .i64 (v.cls : Int), .bool v.neg, .slice p (dig B32 v.d).length k, .int .i64 v.pow]) ∧ Own w' w.heap.size .u32 141 p k (dig B32 v.d) ∧ Kp [u] w w' ∧ Bt w' u 182 #[.int .i64 n, .int .i64 way, .int .i64 f.g.rad, .int .i64 f.g.digs, .int .i64 f.g.lo, .int .i64 f.g.hi, .bool f.g.grad, .int .u8 (famB f), .int .i64 c]
theorem g1w (f : Fm) (n way a c : Int) (g : Bool) (u : Nat) (w : World) (U : Bt w u 182 #[.int .i64 n, .int .i64 way, .int .i64 f.g.rad, .int .i64 f.g.digs, .int .i64 f.g.lo, .int .i64 f.g.hi, .bool f.g.grad, .int .u8 (famB f), .int .i64 a]) (hd : 0 ≤ f.g.digs ∧ f.g.digs ≤ 1000) (hc : bits .or .i64 a 5 = c) (h2 : f.fam = 2) :
 Calls Tryz.prog 180 #[.pointer (some ⟨u, 0, none⟩), .bool g] w (m0g f n way c u w ⟨2, g, 2 ^ (wid f.g * f.g.digs.toNat) - 1, f.g.hi⟩) := by
 have hF : famB f = 66 := by unfold famB; rw [if_neg (by omega), if_pos h2]
 have HR := fun W u hU => hi0 (c0v f n way a 5 c u W hU hc)
 have HG := fun W u hU => hi0 (g0w f n way c g u W hU hd)
 generalize 2 ^ (wid f.g * f.g.digs.toNat) - 1 = m at *
 have I := Inv.startW w u 182 (uS f n way a) [] U True.intro True.intro
 refine a0d [.p 0 0, .v (.bool g)] I Tryz.func180 ?_
 refine zge I 0 182 (fun Al W I => (HR W _ (I.box 0 182 _)).out) fun Al V Iv _ _ kz => ?_
 rintro _ W ⟨rfl, hO, hB⟩
 refine ⟨_, rfl, kz _ (uS f n way c) _ hO hB fun I => ?_⟩
 refine zb I 13 ((famB f) == 66) (true) (beq_iff_eq.2 hF) fun Al W I => ?_
 refine zqo I (fun Al W I => (HG W _ (I.box 0 182 _)).out) fun Al W p16 c16 I => ?_
 exact zret I fun Al W I => ⟨p16, c16, rfl, I.fa.1.mono (by omega), I.bel, I.boxE 182 _⟩
theorem d0q {f : Fm} {n way c : Int} {u k : Nat} {g : Bool} {w w' : World} {en : Ending} (h : en = .returned (.agg #[.int .i64 (k : Int), .bool g, .slice none 0 0, .int .i64 0])) (hk : Kp [u] w w') (hb : Bt w' u 182 #[.int .i64 n, .int .i64 way, .int .i64 f.g.rad, .int .i64 f.g.digs, .int .i64 f.g.lo, .int .i64 f.g.hi, .bool f.g.grad, .int .u8 (famB f), .int .i64 c]) : m0g f n way c u w ⟨k, g, 0, 0⟩ en w' := by
 refine ⟨none, 0, ?_, ?_, hk, hb⟩
 · rw [h, a0c]; rfl
 · show Own _ _ _ _ _ _ (dig B32 0); rw [a0c]; exact Own.nil _ _ _ _
theorem g1x (f : Fm) (n way a c : Int) (g : Bool) (u : Nat) (w : World) (U : Bt w u 182 #[.int .i64 n, .int .i64 way, .int .i64 f.g.rad, .int .i64 f.g.digs, .int .i64 f.g.lo, .int .i64 f.g.hi, .bool f.g.grad, .int .u8 (famB f), .int .i64 a]) (hc : bits .or .i64 a 5 = c) (h1 : f.fam ≠ 1) (h2 : f.fam ≠ 2) :
 Calls Tryz.prog 180 #[.pointer (some ⟨u, 0, none⟩), .bool g] w (m0g f n way c u w ⟨f.nothM.cls, false, 0, 0⟩) := by
 have hF : famB f = 67 := by unfold famB; rw [if_neg h1, if_neg h2]
 have HR := fun W u hU => hi0 (c0v f n way a 5 c u W hU hc)
 have HG := fun W u hU => hi0 (k0y f n way c u W hU)
 generalize f.nothM.cls = k at *
 have I := Inv.startW w u 182 (uS f n way a) [] U True.intro True.intro
 refine a0d [.p 0 0, .v (.bool g)] I Tryz.func180 ?_
 refine zge I 0 182 (fun Al W I => (HR W _ (I.box 0 182 _)).out) fun Al V Iv _ _ kz => ?_
 rintro _ W ⟨rfl, hO, hB⟩
 refine ⟨_, rfl, kz _ (uS f n way c) _ hO hB fun I => ?_⟩
 refine zb I 13 ((famB f) == 66) (false) (bFn (by rw [hF]; decide)) fun Al W I => ?_
 refine zb I 18 ((famB f) == 67) (true) (beq_iff_eq.2 hF) fun Al W I => ?_
 refine zq I (fun Al W I => (HG W _ (I.box 0 182 _)).out) fun Al W I => ?_
 exact zret I fun Al W I => d0q rfl I.bel (I.boxE 182 _)
theorem l0v (g : Bool) (w : World) : Calls Tryz.prog 118 #[.bool g] w fun e w' => e = .returned (.agg #[.int .i64 3, .bool g, .slice none 0 0, .int .i64 0]) ∧ Below w.heap.size w w' := by
 have I := Inv.start w [] True.intro
 refine a0d [.v (.bool g)] I Tryz.func118 ?_
 exact zrb I
theorem o0r (k : Nat) (g : Bool) (p : Option Addr) (l c : Nat) (pw : Int) (w : World) : Calls Tryz.prog 147 #[.agg #[.int .i64 (k : Int), .bool g, .slice p l c, .int .i64 pw]] w fun e w' => e = .returned (.bool (decide (k = 4) || decide (k = 5))) ∧ Below w.heap.size w w' := by
 have e4 : ((k : Int) == 4) = decide (k = 4) := by rw [Bool.eq_iff_iff]; simp; omega
 have e5 : ((k : Int) == 5) = decide (k = 5) := by rw [Bool.eq_iff_iff]; simp; omega
 generalize decide (k = 5) = q at *
 by_cases h : k = 4
 · rw [decide_eq_true h] at e4 ⊢
   have I := Inv.start w [] True.intro
   refine a0d [.v (.agg #[.int .i64 (k : Int), .bool g, .slice p l c, .int .i64 pw])] I Tryz.func147 ?_
   refine zb I 5 ((k : Int) == 4) (true) (e4) fun Al W I => ?_
   exact zret I (v := fun Al => .bool true) fun Al W I => ⟨by rw [Bool.true_or], I.below⟩
 · rw [decide_eq_false h] at e4 ⊢
   have I := Inv.start w [] True.intro
   refine a0d [.v (.agg #[.int .i64 (k : Int), .bool g, .slice p l c, .int .i64 pw])] I Tryz.func147 ?_
   refine zb I 5 ((k : Int) == 4) (false) (e4) fun Al W I => ?_
   refine zb I 9 ((k : Int) == 5) (q) (e5) fun Al W I => ?_
   exact zret I (v := fun Al => .bool q) fun Al W I => ⟨by rw [Bool.false_or], I.below⟩
theorem a0i (k : Nat) (g : Bool) (p : Option Addr) (l c : Nat) (pw : Int) (w : World) : Calls Tryz.prog 115 #[.agg #[.int .i64 (k : Int), .bool g, .slice p l c, .int .i64 pw]] w fun e w' => e = .returned (.bool (decide (k = 3))) ∧ Below w.heap.size w w' := by
 have e : ((k : Int) == 3) = decide (k = 3) := by rw [Bool.eq_iff_iff]; simp; omega
 have I := Inv.start w [] True.intro
 refine a0d [.v (.agg #[.int .i64 (k : Int), .bool g, .slice p l c, .int .i64 pw])] I Tryz.func115 ?_
 exact zret I fun Al W I => ⟨congrArg (fun b => Ending.returned (.bool b)) e, I.below⟩
theorem q0d (k : Nat) (g : Bool) (p : Option Addr) (l c : Nat) (pw : Int) (w : World) : Calls Tryz.prog 116 #[.agg #[.int .i64 (k : Int), .bool g, .slice p l c, .int .i64 pw]] w fun e w' => e = .returned (.bool (decide (k = 1))) ∧ Below w.heap.size w w' := by
 have e : ((k : Int) == 1) = decide (k = 1) := by rw [Bool.eq_iff_iff]; simp; omega
 have I := Inv.start w [] True.intro
 refine a0d [.v (.agg #[.int .i64 (k : Int), .bool g, .slice p l c, .int .i64 pw])] I Tryz.func116 ?_
 exact zret I fun Al W I => ⟨congrArg (fun b => Ending.returned (.bool b)) e, I.below⟩
theorem g1y (f : Fm) (n way a c : Int) (g : Bool) (u : Nat) (w : World) (U : Bt w u 182 #[.int .i64 n, .int .i64 way, .int .i64 f.g.rad, .int .i64 f.g.digs, .int .i64 f.g.lo, .int .i64 f.g.hi, .bool f.g.grad, .int .u8 (famB f), .int .i64 a]) (hd : 0 ≤ f.g.digs ∧ f.g.digs ≤ 1000) (hc : bits .or .i64 a 5 = c) (h1 : f.fam = 1) (hw : 1 ≤ way ∧ way ≤ 5) :
 Calls Tryz.prog 180 #[.pointer (some ⟨u, 0, none⟩), .bool g] w (m0g f n way c u w (if way ≤ 2 ∨ (way = 4 ∧ g = false) ∨ (way = 5 ∧ g = true) then ⟨3, g, 0, 0⟩ else ⟨2, g, 2 ^ (wid f.g * f.g.digs.toNat) - 1, f.g.hi⟩)) := by
 have hF : famB f = 65 := by unfold famB; rw [if_pos h1]
 rcases (show way = 1 ∨ way = 2 ∨ way = 3 ∨ way = 4 ∨ way = 5 by omega) with rfl | rfl | rfl | rfl | rfl <;> cases g
 · rw [if_pos (by decide)]
   have HR := fun W u hU => hi0 (c0v f n 1 a 5 c u W hU hc)
   have I := Inv.startW w u 182 (uS f n 1 a) [] U True.intro True.intro
   refine a0d [.p 0 0, .v (.bool false)] I Tryz.func180 ?_
   refine zge I 0 182 (fun Al W I => (HR W _ (I.box 0 182 _)).out) fun Al V Iv _ _ kz => ?_
   rintro _ W ⟨rfl, hO, hB⟩
   refine ⟨_, rfl, kz _ (uS f n 1 c) _ hO hB fun I => ?_⟩
   refine zb I 13 ((famB f) == 66) (false) (bFn (by rw [hF]; decide)) fun Al W I => ?_
   refine zb I 18 ((famB f) == 67) (false) (bFn (by rw [hF]; decide)) fun Al W I => ?_
   refine zq I (fun Al W I => l0v false W) fun Al W I => ?_
   exact zret I fun Al W I => d0q (k := 3) rfl I.bel (I.boxE 182 _)
 · rw [if_pos (by decide)]
   have HR := fun W u hU => hi0 (c0v f n 1 a 5 c u W hU hc)
   have I := Inv.startW w u 182 (uS f n 1 a) [] U True.intro True.intro
   refine a0d [.p 0 0, .v (.bool true)] I Tryz.func180 ?_
   refine zge I 0 182 (fun Al W I => (HR W _ (I.box 0 182 _)).out) fun Al V Iv _ _ kz => ?_
   rintro _ W ⟨rfl, hO, hB⟩
   refine ⟨_, rfl, kz _ (uS f n 1 c) _ hO hB fun I => ?_⟩
   refine zb I 13 ((famB f) == 66) (false) (bFn (by rw [hF]; decide)) fun Al W I => ?_
   refine zb I 18 ((famB f) == 67) (false) (bFn (by rw [hF]; decide)) fun Al W I => ?_
   refine zq I (fun Al W I => l0v true W) fun Al W I => ?_
   exact zret I fun Al W I => d0q (k := 3) rfl I.bel (I.boxE 182 _)
 · rw [if_pos (by decide)]
   have HR := fun W u hU => hi0 (c0v f n 2 a 5 c u W hU hc)
   have I := Inv.startW w u 182 (uS f n 2 a) [] U True.intro True.intro
   refine a0d [.p 0 0, .v (.bool false)] I Tryz.func180 ?_
   refine zge I 0 182 (fun Al W I => (HR W _ (I.box 0 182 _)).out) fun Al V Iv _ _ kz => ?_
   rintro _ W ⟨rfl, hO, hB⟩
   refine ⟨_, rfl, kz _ (uS f n 2 c) _ hO hB fun I => ?_⟩
   refine zb I 13 ((famB f) == 66) (false) (bFn (by rw [hF]; decide)) fun Al W I => ?_
   refine zb I 18 ((famB f) == 67) (false) (bFn (by rw [hF]; decide)) fun Al W I => ?_
   refine zq I (fun Al W I => l0v false W) fun Al W I => ?_
   exact zret I fun Al W I => d0q (k := 3) rfl I.bel (I.boxE 182 _)
 · rw [if_pos (by decide)]
   have HR := fun W u hU => hi0 (c0v f n 2 a 5 c u W hU hc)
   have I := Inv.startW w u 182 (uS f n 2 a) [] U True.intro True.intro
   refine a0d [.p 0 0, .v (.bool true)] I Tryz.func180 ?_
   refine zge I 0 182 (fun Al W I => (HR W _ (I.box 0 182 _)).out) fun Al V Iv _ _ kz => ?_
   rintro _ W ⟨rfl, hO, hB⟩
   refine ⟨_, rfl, kz _ (uS f n 2 c) _ hO hB fun I => ?_⟩
   refine zb I 13 ((famB f) == 66) (false) (bFn (by rw [hF]; decide)) fun Al W I => ?_
   refine zb I 18 ((famB f) == 67) (false) (bFn (by rw [hF]; decide)) fun Al W I => ?_
   refine zq I (fun Al W I => l0v true W) fun Al W I => ?_
   exact zret I fun Al W I => d0q (k := 3) rfl I.bel (I.boxE 182 _)
 · rw [if_neg (by decide)]
   have HR := fun W u hU => hi0 (c0v f n 3 a 5 c u W hU hc)
   have HG := fun W u hU => hi0 (g0w f n 3 c false u W hU hd)
   generalize 2 ^ (wid f.g * f.g.digs.toNat) - 1 = m at *
   have I := Inv.startW w u 182 (uS f n 3 a) [] U True.intro True.intro
   refine a0d [.p 0 0, .v (.bool false)] I Tryz.func180 ?_
   refine zge I 0 182 (fun Al W I => (HR W _ (I.box 0 182 _)).out) fun Al V Iv _ _ kz => ?_
   rintro _ W ⟨rfl, hO, hB⟩
   refine ⟨_, rfl, kz _ (uS f n 3 c) _ hO hB fun I => ?_⟩
   refine zb I 13 ((famB f) == 66) (false) (bFn (by rw [hF]; decide)) fun Al W I => ?_
   refine zb I 18 ((famB f) == 67) (false) (bFn (by rw [hF]; decide)) fun Al W I => ?_
   refine zqo I (fun Al W I => (HG W _ (I.box 0 182 _)).out) fun Al W p59 c59 I => ?_
   exact zret I fun Al W I => ⟨p59, c59, rfl, I.fa.1.mono (by omega), I.bel, I.boxE 182 _⟩
 · rw [if_neg (by decide)]
   have HR := fun W u hU => hi0 (c0v f n 3 a 5 c u W hU hc)
   have HG := fun W u hU => hi0 (g0w f n 3 c true u W hU hd)
   generalize 2 ^ (wid f.g * f.g.digs.toNat) - 1 = m at *
   have I := Inv.startW w u 182 (uS f n 3 a) [] U True.intro True.intro
   refine a0d [.p 0 0, .v (.bool true)] I Tryz.func180 ?_
   refine zge I 0 182 (fun Al W I => (HR W _ (I.box 0 182 _)).out) fun Al V Iv _ _ kz => ?_
   rintro _ W ⟨rfl, hO, hB⟩
   refine ⟨_, rfl, kz _ (uS f n 3 c) _ hO hB fun I => ?_⟩
   refine zb I 13 ((famB f) == 66) (false) (bFn (by rw [hF]; decide)) fun Al W I => ?_
   refine zb I 18 ((famB f) == 67) (false) (bFn (by rw [hF]; decide)) fun Al W I => ?_
   refine zqo I (fun Al W I => (HG W _ (I.box 0 182 _)).out) fun Al W p59 c59 I => ?_
   exact zret I fun Al W I => ⟨p59, c59, rfl, I.fa.1.mono (by omega), I.bel, I.boxE 182 _⟩
 · rw [if_pos (by decide)]
   have HR := fun W u hU => hi0 (c0v f n 4 a 5 c u W hU hc)
   have I := Inv.startW w u 182 (uS f n 4 a) [] U True.intro True.intro
   refine a0d [.p 0 0, .v (.bool false)] I Tryz.func180 ?_
   refine zge I 0 182 (fun Al W I => (HR W _ (I.box 0 182 _)).out) fun Al V Iv _ _ kz => ?_
   rintro _ W ⟨rfl, hO, hB⟩
   refine ⟨_, rfl, kz _ (uS f n 4 c) _ hO hB fun I => ?_⟩
   refine zb I 13 ((famB f) == 66) (false) (bFn (by rw [hF]; decide)) fun Al W I => ?_
   refine zb I 18 ((famB f) == 67) (false) (bFn (by rw [hF]; decide)) fun Al W I => ?_
   refine zq I (fun Al W I => l0v false W) fun Al W I => ?_
   exact zret I fun Al W I => d0q (k := 3) rfl I.bel (I.boxE 182 _)
 · rw [if_neg (by decide)]
   have HR := fun W u hU => hi0 (c0v f n 4 a 5 c u W hU hc)
   have HG := fun W u hU => hi0 (g0w f n 4 c true u W hU hd)
   generalize 2 ^ (wid f.g * f.g.digs.toNat) - 1 = m at *
   have I := Inv.startW w u 182 (uS f n 4 a) [] U True.intro True.intro
   refine a0d [.p 0 0, .v (.bool true)] I Tryz.func180 ?_
   refine zge I 0 182 (fun Al W I => (HR W _ (I.box 0 182 _)).out) fun Al V Iv _ _ kz => ?_
   rintro _ W ⟨rfl, hO, hB⟩
   refine ⟨_, rfl, kz _ (uS f n 4 c) _ hO hB fun I => ?_⟩
   refine zb I 13 ((famB f) == 66) (false) (bFn (by rw [hF]; decide)) fun Al W I => ?_
   refine zb I 18 ((famB f) == 67) (false) (bFn (by rw [hF]; decide)) fun Al W I => ?_
   refine zqo I (fun Al W I => (HG W _ (I.box 0 182 _)).out) fun Al W p59 c59 I => ?_
   exact zret I fun Al W I => ⟨p59, c59, rfl, I.fa.1.mono (by omega), I.bel, I.boxE 182 _⟩
 · rw [if_neg (by decide)]
   have HR := fun W u hU => hi0 (c0v f n 5 a 5 c u W hU hc)
   have HG := fun W u hU => hi0 (g0w f n 5 c false u W hU hd)
   generalize 2 ^ (wid f.g * f.g.digs.toNat) - 1 = m at *
   have I := Inv.startW w u 182 (uS f n 5 a) [] U True.intro True.intro
   refine a0d [.p 0 0, .v (.bool false)] I Tryz.func180 ?_
   refine zge I 0 182 (fun Al W I => (HR W _ (I.box 0 182 _)).out) fun Al V Iv _ _ kz => ?_
   rintro _ W ⟨rfl, hO, hB⟩
   refine ⟨_, rfl, kz _ (uS f n 5 c) _ hO hB fun I => ?_⟩
   refine zb I 13 ((famB f) == 66) (false) (bFn (by rw [hF]; decide)) fun Al W I => ?_
   refine zb I 18 ((famB f) == 67) (false) (bFn (by rw [hF]; decide)) fun Al W I => ?_
   refine zqo I (fun Al W I => (HG W _ (I.box 0 182 _)).out) fun Al W p59 c59 I => ?_
   exact zret I fun Al W I => ⟨p59, c59, rfl, I.fa.1.mono (by omega), I.bel, I.boxE 182 _⟩
 · rw [if_pos (by decide)]
   have HR := fun W u hU => hi0 (c0v f n 5 a 5 c u W hU hc)
   have I := Inv.startW w u 182 (uS f n 5 a) [] U True.intro True.intro
   refine a0d [.p 0 0, .v (.bool true)] I Tryz.func180 ?_
   refine zge I 0 182 (fun Al W I => (HR W _ (I.box 0 182 _)).out) fun Al V Iv _ _ kz => ?_
   rintro _ W ⟨rfl, hO, hB⟩
   refine ⟨_, rfl, kz _ (uS f n 5 c) _ hO hB fun I => ?_⟩
   refine zb I 13 ((famB f) == 66) (false) (bFn (by rw [hF]; decide)) fun Al W I => ?_
   refine zb I 18 ((famB f) == 67) (false) (bFn (by rw [hF]; decide)) fun Al W I => ?_
   refine zq I (fun Al W I => l0v true W) fun Al W I => ?_
   exact zret I fun Al W I => d0q (k := 3) rfl I.bel (I.boxE 182 _)
theorem i1o (f : Fm) (n way a c : Int) (p : Pl) (u : Nat) (w : World) (U : Bt w u 182 #[.int .i64 n, .int .i64 way, .int .i64 f.g.rad, .int .i64 f.g.digs, .int .i64 f.g.lo, .int .i64 f.g.hi, .bool f.g.grad, .int .u8 (famB f), .int .i64 a]) (G : c0i f) (hc : bits .or .i64 a 5 = c) (hw : 1 ≤ way ∧ way ≤ 5) (ho : p.over = true) :
 Calls Tryz.prog 180 #[.pointer (some ⟨u, 0, none⟩), .bool p.neg] w (m0g f n way c u w (f.placedV p way)) := by
 have GG := b0n G.g
 have h1 := GG.d1
 have h2 := GG.d2
 have hf := G.fam
 unfold Fm.placedV
 rw [if_pos ho]
 by_cases f2 : f.fam = 2
 · rw [if_pos f2]; exact g1w f n way a c p.neg u w U (by omega) hc f2
 · rw [if_neg f2]
   by_cases f3 : f.fam = 3
   · rw [if_pos f3]; exact g1x f n way a c p.neg u w U hc (by omega) f2
   · rw [if_neg f3]; exact g1y f n way a c p.neg u w U (by omega) hc (by omega) hw
def j0q (f : Fm) (n way c : Int) (u : Nat) (w : World) (base : Nat) (v : Vl) (en : Ending) (w' : World) : Prop :=
 ∃ p k, en = .returned (.agg #[.int .i64 (v.cls : Int), .bool v.neg, .slice p (dig B32 v.d).length k, .int .i64 v.pow]) ∧ Own w' base .u32 141 p k (dig B32 v.d) ∧ Kp [u] w w' ∧ Bt w' u 182 #[.int .i64 n, .int .i64 way, .int .i64 f.g.rad, .int .i64 f.g.digs, .int .i64 f.g.lo, .int .i64 f.g.hi, .bool f.g.grad, .int .u8 (famB f), .int .i64 c]
theorem m0g.ub {f : Fm} {n way c : Int} {u base : Nat} {w w' : World} {v : Vl} {en : Ending} (h : m0g f n way c u w v en w') (hb : base ≤ w.heap.size) : j0q f n way c u w base v en w' := by
 obtain ⟨p, k, h1, h2, h3, h4⟩ := h
 exact ⟨p, k, h1, h2.mono hb, h3, h4⟩
theorem f0x {f : Fm} {n way c : Int} {u k base : Nat} {g : Bool} {w w' : World} {en : Ending} (h : en = .returned (.agg #[.int .i64 (k : Int), .bool g, .slice none 0 0, .int .i64 0])) (hk : Kp [u] w w') (hb : Bt w' u 182 #[.int .i64 n, .int .i64 way, .int .i64 f.g.rad, .int .i64 f.g.digs, .int .i64 f.g.lo, .int .i64 f.g.hi, .bool f.g.grad, .int .u8 (famB f), .int .i64 c]) : j0q f n way c u w base ⟨k, g, 0, 0⟩ en w' := by
 refine ⟨none, 0, ?_, ?_, hk, hb⟩
 · rw [h, a0c]; rfl
 · show Own _ _ _ _ _ _ (dig B32 0); rw [a0c]; exact Own.nil _ _ _ _
theorem pl_n (f : Fm) (n way : Int) (ng : Bool) (d : Nat) (pw : Int) (pp : Option Addr) (cc base u : Nat) (w : World) (U : Bt w u 182 #[.int .i64 n, .int .i64 way, .int .i64 f.g.rad, .int .i64 f.g.digs, .int .i64 f.g.lo, .int .i64 f.g.hi, .bool f.g.grad, .int .u8 (famB f), .int .i64 0]) (hp : Own w base .u32 141 pp cc (dig B32 d)) (ex un : Bool) :
 Calls Tryz.prog 166 #[.pointer (some ⟨u, 0, none⟩), .agg #[.bool ng, .slice pp (dig B32 d).length cc, .int .i64 pw, .bool ex, .bool false, .bool un]] w (j0q f n way (((f.placedM ⟨ng, d, pw, ex, false, un⟩ way).2 : Nat) : Int) u w base (f.placedV ⟨ng, d, pw, ex, false, un⟩ way)) := by
 have hV : f.placedV ⟨ng, d, pw, ex, false, un⟩ way = if un = true ∧ f.fam ≠ 1 ∧ pw < f.g.lo then ⟨1, false, 0, 0⟩ else if d = 0 then ⟨1, ng && decide (f.fam = 1), 0, 0⟩ else ⟨2, ng, d, pw⟩ := by unfold Fm.placedV; simp only [Bool.false_eq_true, if_false]
 have hM : (f.placedM ⟨ng, d, pw, ex, false, un⟩ way).2 = if un = true ∧ f.fam ≠ 1 ∧ pw < f.g.lo then 3 else f.flP ⟨ng, d, pw, ex, false, un⟩ := by
  unfold Fm.placedM; simp only [Bool.false_eq_true, if_false]
  split
  · rfl
  · split <;> rfl
 have hFL : f.flP ⟨ng, d, pw, ex, false, un⟩ = if un then (if f.fam = 1 then (if ex then 0 else 3) else 3) else if ex then 0 else 1 := rfl
 have hF1 : f.fam = 1 → (famB f != 65) = false := fun h => by unfold famB; rw [if_pos h]; rfl
 have hF2 : f.fam ≠ 1 → (famB f != 65) = true := fun h => by unfold famB; rw [if_neg h]; split <;> rfl
 have hB1 : (famB f != 65) = true → f.fam ≠ 1 := fun h k => by rw [hF1 k] at h; cases h
 have hB2 : (famB f != 65) = false → f.fam = 1 := fun h => Classical.byContradiction fun k => by rw [hF2 k] at h; cases h
 have hz := a0f a0b d
 have HR9 := fun W u hU => hi0 (c0v f n way 0 1 1 u W hU (by decide +kernel))
 have HR3 := fun k (hk : k = 0 ∨ k = 1) W u hU => hi0 (c0v f n way k 3 3 u W hU (by rcases hk with rfl | rfl <;> decide +kernel))
 have HR2 := fun k (hk : k = 1) W u hU => hi0 (c0v f n way k 2 3 u W hU (by subst hk; decide +kernel))
 have HZ := fun k W u hU => hi0 (x0q f n way k ng u W hU)
 rw [hFL] at hM
 generalize (f.placedM ⟨ng, d, pw, ex, false, un⟩ way).2 = FL at *
 generalize f.placedV ⟨ng, d, pw, ex, false, un⟩ way = v at *
 clear hFL
 generalize (ng && decide (f.fam = 1)) = q at *
 have I := Inv.startW w u 182 (uS f n way 0) [ownF base .u32 141 pp cc (dig B32 d)] U ⟨hp, True.intro⟩ ⟨fun hf => hp.far U (by kernel_rfl) hf.1 hf.2, True.intro⟩
 refine a0d [.p 0 0, .v (.agg #[.bool ng, .slice pp (dig B32 d).length cc, .int .i64 pw, .bool ex, .bool false, .bool un])] I Tryz.func166 ?_
 obtain ⟨ne, hne⟩ : ∃ ne, (!ex) = ne := ⟨_, rfl⟩
 refine zb I 7 (!ex) (ne) (hne) fun Al W I => ?_
 refine zcut I (some 2000007) (fun fr bx gs => ∃ (U1 : Nat → Value) (k1 : Int), fr = (.p 0 0 :: .v (.agg #[.bool ng, .slice pp (dig B32 d).length cc, .int .i64 pw, .bool ex, .bool false, .bool un]) :: .v undef :: .p 1 0 :: .p 2 0 :: sw U1 5 2 (.v (.bool ne) :: sw U1 8 2 (.v undef :: sw U1 11 6 (.v undef :: sw U1 18 18 (.v undef :: .v (U1 37) :: .v undef :: sw U1 39 12 (.v undef :: sw U1 52 11 []))))) : List SV) ∧ bx = [⟨182, (uS f n way k1), false⟩, ⟨87, [.v (.bool ng), .v (.slice pp (dig B32 d).length cc), .v (.int .i64 pw), .v (.bool ex), .v (.bool false), .v (.bool un)], false⟩, ⟨75, [.v (.int .i64 0), .v (.bool false), .v (.slice none 0 0), .v (.int .i64 0)], false⟩] ∧ gs = [ownF base .u32 141 pp cc (dig B32 d)] ∧ (k1 = if ex then 0 else 1)) ?_ ?_
 · intro J hJ Al W I
   rcases Bool.eq_false_or_eq_true ne with rfl | rfl
   · refine zge I 0 182 (fun Al W I => (HR9 W _ (I.box 0 182 _)).out) fun Al V Iv _ _ kz => ?_
     rintro _ W ⟨rfl, hO, hB⟩
     refine ⟨_, rfl, kz _ (uS f n way 1) _ hO hB fun I => ?_⟩
     exact a0y I J fun Al W U I => hJ _ _ _ _ _ ⟨U, 1, rfl, rfl, rfl, (by revert hne; cases ex <;> simp)⟩ (I.pick [0])
   exact a0y I J fun Al W U I => hJ _ _ _ _ _ ⟨U, 0, rfl, rfl, rfl, (by revert hne; cases ex <;> simp)⟩ (I.pick [0])
 rintro _ _ _ ⟨U1, k1, rfl, rfl, rfl, hk1⟩ Al W I
 refine zcut I (some 1000000) (fun fr bx gs => ∃ (U2 : Nat → Value) (k2 : Int), fr = (.p 0 0 :: .v (.agg #[.bool ng, .slice pp (dig B32 d).length cc, .int .i64 pw, .bool ex, .bool false, .bool un]) :: .v undef :: .p 1 0 :: .p 2 0 :: sw U2 5 2 (.v (.bool ne) :: sw U2 8 43 (.v undef :: sw U2 52 11 [])) : List SV) ∧ bx = [⟨182, (uS f n way k2), false⟩, ⟨87, [.v (.bool ng), .v (.slice pp (dig B32 d).length cc), .v (.int .i64 pw), .v (.bool ex), .v (.bool false), .v (.bool un)], false⟩, ⟨75, [.v (.int .i64 0), .v (.bool false), .v (.slice none 0 0), .v (.int .i64 0)], false⟩] ∧ gs = [ownF base .u32 141 pp cc (dig B32 d)] ∧ ((FL : Int) = k2) ∧ (¬ (un = true ∧ f.fam ≠ 1 ∧ pw < f.g.lo))) ?_ ?_
 · intro J hJ Al W I
   rcases Bool.eq_false_or_eq_true (un) with f19 | f19
   · refine zb I 19 (un) (true) (f19) fun Al W I => ?_
     rcases Bool.eq_false_or_eq_true ((famB f) != 65) with f25 | f25
     · refine zb I 25 ((famB f) != 65) (true) (f25) fun Al W I => ?_
       refine zge I 0 182 (fun Al W I => (HR3 k1 (by rw [hk1]; split <;> simp) W _ (I.box 0 182 _)).out) fun Al V Iv _ _ kz => ?_
       rintro _ W ⟨rfl, hO, hB⟩
       refine ⟨_, rfl, kz _ (uS f n way 3) _ hO hB fun I => ?_⟩
       by_cases f36 : pw < f.g.lo
       · refine zd [] I fun Al W I => ?_
         refine zk [0, 1, 2, 3, 4, 5, 6] I fun I => ?_
         refine zkb 7 I (decide (pw < f.g.lo)) (true) (dTr f36) fun I => ?_
         refine zret I (v := fun Al => .agg #[.int .i64 1, .bool false, .slice none 0 0, .int .i64 0]) fun Al W I => ?_
         first | (rw [hV, hM, if_pos ⟨f19, hB1 f25, f36⟩, if_pos ⟨f19, hB1 f25, f36⟩]; exact f0x (k := 1) rfl I.bel (I.boxE 182 _)) | (rw [hV, hk2, if_neg hlo, if_neg (fun h => by have := hz.2 h; have := bnF f51; omega)]; exact ⟨pp, cc, rfl, I.fa.1, I.bel, I.boxE 182 _⟩)
       refine zd [] I fun Al W I => ?_
       refine zk [0, 1, 2, 3, 4, 5, 6] I fun I => ?_
       refine zkb 7 I (decide (pw < f.g.lo)) (false) (dFa f36) fun I => ?_
       exact a0y I J fun Al W U I => hJ _ _ _ _ _ ⟨U, 3, rfl, rfl, rfl, (by have h1 := hB1 f25; rw [hM, if_neg (fun h => f36 h.2.2), if_pos f19, if_neg h1]; rfl), (fun h => f36 h.2.2)⟩ (I.pick [0])
     refine zb I 25 ((famB f) != 65) (false) (f25) fun Al W I => ?_
     refine zb I 40 (un) (true) (f19) fun Al W I => ?_
     rcases Bool.eq_false_or_eq_true (!ex) with f44 | f44
     · refine zb I 44 (!ex) (true) (f44) fun Al W I => ?_
       refine zge I 0 182 (fun Al W I => (HR2 k1 (by rw [hk1]; revert f44; cases ex <;> simp) W _ (I.box 0 182 _)).out) fun Al V Iv _ _ kz => ?_
       rintro _ W ⟨rfl, hO, hB⟩
       refine ⟨_, rfl, kz _ (uS f n way 3) _ hO hB fun I => ?_⟩
       exact a0y I J fun Al W U I => hJ _ _ _ _ _ ⟨U, 3, rfl, rfl, rfl, (by have h1 := hB2 f25; rw [hM, if_neg (fun h => h.2.1 h1), if_pos f19, if_pos h1]; revert f44; cases ex <;> simp), (fun h => by have h1 := hB2 f25; exact h.2.1 h1)⟩ (I.pick [0])
     refine zb I 44 (!ex) (false) (f44) fun Al W I => ?_
     exact a0y I J fun Al W U I => hJ _ _ _ _ _ ⟨U, k1, rfl, rfl, rfl, (by have h1 := hB2 f25; rw [hM, if_neg (fun h => h.2.1 h1), if_pos f19, if_pos h1, hk1]; revert f44; cases ex <;> simp), (fun h => by have h1 := hB2 f25; exact h.2.1 h1)⟩ (I.pick [0])
   refine zb I 19 (un) (false) (f19) fun Al W I => ?_
   refine zb I 40 (un) (false) (f19) fun Al W I => ?_
   exact a0y I J fun Al W U I => hJ _ _ _ _ _ ⟨U, k1, rfl, rfl, rfl, (by rw [hM, if_neg (fun h => by rw [f19] at h; cases h.1), if_neg (by rw [f19]; simp), hk1]; split <;> rfl), (fun h => by rw [f19] at h; cases h.1)⟩ (I.pick [0])
 rintro _ _ _ ⟨U2, k2, rfl, rfl, rfl, hk2, hlo⟩ Al W I
 rcases Bool.eq_false_or_eq_true ((((dig B32 d).length : Nat) : Int) == 0) with f51 | f51
 · refine zb I 51 ((((dig B32 d).length : Nat) : Int) == 0) (true) (f51) fun Al W I => ?_
   refine zq I (fun Al W I => (HZ k2 W _ (I.box 0 182 _)).out) fun Al W I => ?_
   rw [hV, hk2, if_neg hlo, if_pos (hz.1 (by have := beq_iff_eq.1 f51; omega))]
   exact zret I fun Al W I => f0x (k := 1) rfl I.bel (I.boxE 182 _)
 refine zb I 51 ((((dig B32 d).length : Nat) : Int) == 0) (false) (f51) fun Al W I => ?_
 refine zret I (v := fun Al => .agg #[.int .i64 2, .bool ng, .slice pp (dig B32 d).length cc, .int .i64 pw]) fun Al W I => ?_
 first | (rw [hV, hM, if_pos ⟨f19, hB1 f25, f36⟩, if_pos ⟨f19, hB1 f25, f36⟩]; exact f0x (k := 1) rfl I.bel (I.boxE 182 _)) | (rw [hV, hk2, if_neg hlo, if_neg (fun h => by have := hz.2 h; have := bnF f51; omega)]; exact ⟨pp, cc, rfl, I.fa.1, I.bel, I.boxE 182 _⟩)
theorem p1e (f : Fm) (n way : Int) (p : Pl) (pp : Option Addr) (cc base u : Nat) (w : World) (U : Bt w u 182 #[.int .i64 n, .int .i64 way, .int .i64 f.g.rad, .int .i64 f.g.digs, .int .i64 f.g.lo, .int .i64 f.g.hi, .bool f.g.grad, .int .u8 (famB f), .int .i64 0]) (hb : base ≤ w.heap.size) (G : c0i f) (hw : 1 ≤ way ∧ way ≤ 5) (ho : p.over = true) :
 Calls Tryz.prog 166 #[.pointer (some ⟨u, 0, none⟩), .agg #[.bool p.neg, .slice pp (dig B32 p.d).length cc, .int .i64 p.pow, .bool true, .bool true, .bool p.under]] w (j0q f n way 5 u w base (f.placedV p way)) := by
 have HO := fun W u hU => hi0 (i1o f n way 0 5 p u W hU G (by decide +kernel) hw ho)
 generalize f.placedV p way = v at *
 have I := Inv.startW w u 182 (uS f n way 0) [] U True.intro True.intro
 refine a0d [.p 0 0, .v (.agg #[.bool p.neg, .slice pp (dig B32 p.d).length cc, .int .i64 p.pow, .bool true, .bool true, .bool p.under])] I Tryz.func166 ?_
 refine zge I 0 182 (fun Al W I => (HO W _ (I.box 0 182 _)).out) fun Al V Iv _ _ kz => ?_
 rintro _ W ⟨p16, c16, rfl, o16, hO, hB⟩
 refine ⟨_, rfl, kz _ (uS f n way 5) _ hO hB fun I => ?_⟩
 have I := I.ownB base o16
 exact zret I fun Al W I => ⟨p16, c16, rfl, I.fa.1, I.bel, I.boxE 182 _⟩
theorem p1f (f : Fm) (n way : Int) (p : Pl) (pp : Option Addr) (cc base u : Nat) (w : World) (U : Bt w u 182 #[.int .i64 n, .int .i64 way, .int .i64 f.g.rad, .int .i64 f.g.digs, .int .i64 f.g.lo, .int .i64 f.g.hi, .bool f.g.grad, .int .u8 (famB f), .int .i64 0]) (hb : base ≤ w.heap.size) (G : c0i f) (hw : 1 ≤ way ∧ way ≤ 5) (ho : p.over = true) :
 Calls Tryz.prog 166 #[.pointer (some ⟨u, 0, none⟩), .agg #[.bool p.neg, .slice pp (dig B32 p.d).length cc, .int .i64 p.pow, .bool false, .bool true, .bool p.under]] w (j0q f n way 5 u w base (f.placedV p way)) := by
 have HO := fun W u hU => hi0 (i1o f n way 1 5 p u W hU G (by decide +kernel) hw ho)
 have HR := fun W u hU => hi0 (c0v f n way 0 1 1 u W hU (by decide +kernel))
 generalize f.placedV p way = v at *
 have I := Inv.startW w u 182 (uS f n way 0) [] U True.intro True.intro
 refine a0d [.p 0 0, .v (.agg #[.bool p.neg, .slice pp (dig B32 p.d).length cc, .int .i64 p.pow, .bool false, .bool true, .bool p.under])] I Tryz.func166 ?_
 refine zge I 0 182 (fun Al W I => (HR W _ (I.box 0 182 _)).out) fun Al V Iv _ _ kz => ?_
 rintro _ W ⟨rfl, hO, hB⟩
 refine ⟨_, rfl, kz _ (uS f n way 1) _ hO hB fun I => ?_⟩
 refine zge I 0 182 (fun Al W I => (HO W _ (I.box 0 182 _)).out) fun Al V Iv _ _ kz => ?_
 rintro _ W ⟨p16, c16, rfl, o16, hO, hB⟩
 refine ⟨_, rfl, kz _ (uS f n way 5) _ hO hB fun I => ?_⟩
 have I := I.ownB base o16
 exact zret I fun Al W I => ⟨p16, c16, rfl, I.fa.1, I.bel, I.boxE 182 _⟩
theorem k1x (f : Fm) (n way : Int) (p : Pl) (pp : Option Addr) (cc base u : Nat) (w : World) (U : Bt w u 182 #[.int .i64 n, .int .i64 way, .int .i64 f.g.rad, .int .i64 f.g.digs, .int .i64 f.g.lo, .int .i64 f.g.hi, .bool f.g.grad, .int .u8 (famB f), .int .i64 0]) (hp : Own w base .u32 141 pp cc (dig B32 p.d)) (hb : base ≤ w.heap.size) (G : c0i f) (hw : 1 ≤ way ∧ way ≤ 5) :
 Calls Tryz.prog 166 #[.pointer (some ⟨u, 0, none⟩), .agg #[.bool p.neg, .slice pp (dig B32 p.d).length cc, .int .i64 p.pow, .bool p.exact, .bool p.over, .bool p.under]] w (j0q f n way (((f.placedM p way).2 : Nat) : Int) u w base (f.placedV p way)) := by
 obtain ⟨ng, d, pw, ex, ov, un⟩ := p
 cases ov with
 | true =>
  have e : (f.placedM ⟨ng, d, pw, ex, true, un⟩ way).2 = 5 := by unfold Fm.placedM; rw [if_pos rfl]
  rw [e]
  cases ex
  · exact p1f f n way ⟨ng, d, pw, false, true, un⟩ pp cc base u w U hb G hw rfl
  · exact p1e f n way ⟨ng, d, pw, true, true, un⟩ pp cc base u w U hb G hw rfl
 | false =>
  exact pl_n f n way ng d pw pp cc base u w U hp ex un
theorem d1x (ng : Bool) (p q : Option Addr) (c d : Nat) (num den : Nat) (e : Int) (g : Gd) (way : Int) (w : World) (hp : Rd w .u32 p (dig B32 num)) (hq : Rd w .u32 q (dig B32 den))
 (hl : (dig B32 num).length ≤ 100000) (hl2 : (dig B32 den).length ≤ 100000) (hn : 0 < num) (hd : 0 < den) (he : -1000000 ≤ e ∧ e ≤ 1000000) (G : j0e g) (hw1 : 1 ≤ way) (hw2 : way ≤ 5) :
 Calls Tryz.prog 72 #[.agg #[.bool ng, .slice p (dig B32 num).length c, .slice q (dig B32 den).length d, .int .i64 e], .agg #[.int .i64 g.rad, .int .i64 g.digs, .int .i64 g.lo, .int .i64 g.hi, .bool g.grad], .int .i64 way] w (x0j w (a0m ng num den e g way)) := by
 have h := v0o ng p q c d num den e g way (theK num den e (wid g) g.digs.toNat) w hp hq hl hl2 hn hd he G hw1 hw2 (j0g hn hd e (b0g g).1 (by have := G.d1; omega))
 unfold a0m
 rw [if_neg (by omega)]
 exact h
theorem p1g (f : Fm) (n way : Int) (ng : Bool) (p q : Option Addr) (c d : Nat) (num den : Nat) (e : Int) (u : Nat) (w : World) (U : Bt w u 182 #[.int .i64 n, .int .i64 way, .int .i64 f.g.rad, .int .i64 f.g.digs, .int .i64 f.g.lo, .int .i64 f.g.hi, .bool f.g.grad, .int .u8 (famB f), .int .i64 0]) (hp : Rd w .u32 p (dig B32 num)) (hq : Rd w .u32 q (dig B32 den))
 (hl : (dig B32 num).length ≤ 100000) (hl2 : (dig B32 den).length ≤ 100000) (hn : 0 < num) (hd : 0 < den) (he : -1000000 ≤ e ∧ e ≤ 1000000) (G : c0i f) (hw : 1 ≤ way ∧ way ≤ 5) :
 Calls Tryz.prog 122 #[.pointer (some ⟨u, 0, none⟩), .agg #[.bool ng, .slice p (dig B32 num).length c, .slice q (dig B32 den).length d, .int .i64 e]] w
  (m0g f n way (((f.placedM (a0m ng num den e f.g way) way).2 : Nat) : Int) u w (f.placedV (a0m ng num den e f.g way) way)) := by
 have GG := b0n G.g
 have HF := fun W h1 h2 => hi0 (d1x ng p q c d num den e f.g way W h1 h2 hl hl2 hn hd he GG hw.1 hw.2)
 have HP := fun pp cc base u W U h1 h2 => hi0 (k1x f n way (a0m ng num den e f.g way) pp cc base u W U h1 h2 G hw)
 have hR := v0u (neg := ng) (num := num) (e := e) (way := way) hd GG
 generalize (f.placedM (a0m ng num den e f.g way) way).2 = fl at *
 generalize f.placedV (a0m ng num den e f.g way) way = v at *
 generalize a0m ng num den e f.g way = P at *
 have I := Inv.startW w u 182 (uS f n way 0) [rdF .u32 p (dig B32 num), rdF .u32 q (dig B32 den)] U ⟨hp, hq, True.intro⟩ ⟨fun hf => hp.far U (by kernel_rfl) hf.1 hf.2, fun hf => hq.far U (by kernel_rfl) hf.1 hf.2, True.intro⟩
 refine a0d [.p 0 0, .v (.agg #[.bool ng, .slice p (dig B32 num).length c, .slice q (dig B32 den).length d, .int .i64 e])] I Tryz.func122 ?_
 refine zcut I none (fun fr bx gs => ∃ (U1 : Nat → Value) (p16 : Option Addr) (c16 : Nat), fr = (.p 0 0 :: .v (.agg #[.bool ng, .slice p (dig B32 num).length c, .slice q (dig B32 den).length d, .int .i64 e]) :: .v undef :: .p 1 0 :: .p 2 0 :: sw U1 5 12 [] : List SV) ∧ bx = [⟨182, (uS f n way (fl : Int)), false⟩, ⟨122, [.v (.bool ng), .v (.slice p (dig B32 num).length c), .v (.slice q (dig B32 den).length d), .v (.int .i64 e)], false⟩, ⟨75, [.v (.int .i64 (v.cls : Int)), .v (.bool v.neg), .v (.slice p16 (dig B32 v.d).length c16), .v (.int .i64 v.pow)], false⟩] ∧ gs = [ownF w.heap.size .u32 141 p16 c16 (dig B32 v.d), rdF .u32 p (dig B32 num), rdF .u32 q (dig B32 den)]) ?_ ?_
 · intro J hJ Al W I
   refine zd [0, 2] I fun Al W I => ?_
   refine zk [0, 1, 2, 3, 4, 6, 7, 8] I fun I => ?_
   refine zo2 5 9 I (fun I => ?_) (fun I => ?_)
   · refine zn I fun Al W I => ?_
     refine zo 9 I fun I => ?_
     refine zn I fun Al W I => ?_
     refine zo 10 I fun I => ?_
     refine zqo I (fun Al W I => (HF W I.fa.1 I.fa.2.1).out) fun Al W p15 c15 I => ?_
     refine zo 11 I fun I => ?_
     refine zge I 0 182 (fun Al W I => have hzW := I.bel.size; (HP p15 c15 _ _ W (I.box 0 182 _) I.fa.1 (by omega)).out) fun Al V Iv _ _ kz => ?_
     rintro _ W ⟨p16, c16, rfl, o16, hO, hB⟩
     refine ⟨_, rfl, kz _ (uS f n way (fl : Int)) _ hO hB fun I => ?_⟩
     have I := I.own o16
     refine zo 12 I fun I => ?_
     refine zn I fun Al W I => ?_
     exact a0y I J fun Al W U I => hJ _ _ _ _ _ ⟨U, p16, c16, rfl, rfl, rfl⟩ (I.pick [0, 2, 3])
   refine zn I fun Al W I => ?_
   refine zo 5 I fun I => ?_
   refine zn I fun Al W I => ?_
   refine zo 10 I fun I => ?_
   refine zqo I (fun Al W I => (HF W I.fa.1 I.fa.2.1).out) fun Al W p15 c15 I => ?_
   refine zo 11 I fun I => ?_
   refine zge I 0 182 (fun Al W I => have hzW := I.bel.size; (HP p15 c15 _ _ W (I.box 0 182 _) I.fa.1 (by omega)).out) fun Al V Iv _ _ kz => ?_
   rintro _ W ⟨p16, c16, rfl, o16, hO, hB⟩
   refine ⟨_, rfl, kz _ (uS f n way (fl : Int)) _ hO hB fun I => ?_⟩
   have I := I.own o16
   refine zo 12 I fun I => ?_
   refine zn I fun Al W I => ?_
   exact a0y I J fun Al W U I => hJ _ _ _ _ _ ⟨U, p16, c16, rfl, rfl, rfl⟩ (I.pick [0, 2, 3])
 rintro _ _ _ ⟨U1, p16, c16, rfl, rfl, rfl⟩ Al W I
 exact zret I fun Al W I => ⟨p16, c16, rfl, I.fa.1, I.bel, I.boxE 182 _⟩
structure VrOk (r : Vr) : Prop where
 c : 1 ≤ r.cls ∧ r.cls ≤ 5
 x0 : r.cls ≠ 2 → r.x = vz
 x2 : r.cls = 2 → r.x.m ≠ 0 ∧ r.x.neg = r.neg
 bare : Bare r.x
 len : (dig B32 r.x.m).length ≤ 20
 lo : -18000 ≤ r.x.e
 hi : r.x.e ≤ 18000
def g0j (f : Fm) (n way : Int) (u : Nat) (w : World) (base : Nat) (r : Vr × Nat) (en : Ending) (w' : World) : Prop :=
 ∃ v, VRep f v r.1 ∧ j0q f n way ((r.2 : Nat) : Int) u w base v en w'
theorem b0c {f : Fm} {n way : Int} {u k fl base : Nat} {g : Bool} {x : Dv} {w w' : World} {en : Ending} (hk2 : k ≠ 2) (h : en = .returned (.agg #[.int .i64 (k : Int), .bool g, .slice none 0 0, .int .i64 0])) (hk : Kp [u] w w') (hb : Bt w' u 182 #[.int .i64 n, .int .i64 way, .int .i64 f.g.rad, .int .i64 f.g.digs, .int .i64 f.g.lo, .int .i64 f.g.hi, .bool f.g.grad, .int .u8 (famB f), .int .i64 (fl : Int)]) : g0j f n way u w base (⟨k, g, x⟩, fl) en w' :=
 ⟨⟨k, g, 0, 0⟩, g0v hk2, f0x h hk hb⟩
theorem g0j.mono {f : Fm} {n way : Int} {u base b' : Nat} {w w' : World} {r : Vr × Nat} {en : Ending} (h : g0j f n way u w base r en w') (hb : b' ≤ base) : g0j f n way u w b' r en w' := by
 obtain ⟨v, h1, p, k, h2, h3, h4, h5⟩ := h
 exact ⟨v, h1, p, k, h2, h3.mono hb, h4, h5⟩
theorem k1y (f : Fm) (n way fl : Int) (v : Vl) (r : Vr) (p : Option Addr) (c b0 u : Nat) (w : World) (U : Bt w u 182 #[.int .i64 n, .int .i64 way, .int .i64 f.g.rad, .int .i64 f.g.digs, .int .i64 f.g.lo, .int .i64 f.g.hi, .bool f.g.grad, .int .u8 (famB f), .int .i64 fl]) (hp : Own w b0 .u32 141 p c (dig B32 v.d)) (V : VRep f v r) (R : VrOk r) (hT : TabW w) :
 Calls Tryz.prog 121 #[.pointer (some ⟨u, 0, none⟩), .agg #[.int .i64 (v.cls : Int), .bool v.neg, .slice p (dig B32 v.d).length c, .int .i64 v.pow]] w (g0m w w.heap.size r.x) := by
 have hx : bare ⟨v.neg, v.d, wid f.g * v.pow⟩ = r.x := by
  by_cases h2 : r.cls = 2
  · exact V.num h2
  · rw [R.x0 h2, (V.oth h2).1]; rfl
 have hl := V.len
 have hlo := V.lo
 have hhi := V.hi
 have wp := b0g f.g
 have hmu := k0r (wd := wid f.g) (k := v.pow) (B := 20000) wp.2 ⟨hlo, hhi⟩
 rw [← hx, ← s0z]
 clear hx R V
 obtain ⟨cls, g, d0, pw⟩ := v
 simp only at *
 generalize hmw : (wid f.g : Int) * pw = mw at *
 have HMW := hi0 hmw
 have HW := fun W u hU => hi0 (d1w f n way fl u W hU)
 have HH := fun W (c : Nat) h1 h0 h2 => hi0 (n0y p _ c mw d0 W h1 rfl h0 (by omega) (by omega) h2)
 clear hmw
 generalize hd : bare ⟨false, d0, mw⟩ = d at *
 clear hd
 cases g with
 | false =>
  rw [if_neg (by simp)]
  have I := Inv.startR w [u] [⟨182, (uS f n way fl), true⟩] [ownF b0 .u32 141 p c (dig B32 d0), tabF] ⟨U, True.intro⟩ ⟨hp, hT, True.intro⟩
  refine a0d [.p 0 0, .v (.agg #[.int .i64 (cls : Int), .bool false, .slice p (dig B32 d0).length c, .int .i64 pw])] I Tryz.func121 ?_
  refine zcut I none (fun fr bx gs => ∃ (U1 : Nat → Value) (p13 : Option Addr) (c13 : Nat), fr = (.p 0 0 :: .v (.agg #[.int .i64 (cls : Int), .bool false, .slice p (dig B32 d0).length c, .int .i64 pw]) :: .v undef :: .p 1 0 :: .p 2 0 :: .p 3 0 :: sw U1 6 9 (.v undef :: sw U1 16 3 []) : List SV) ∧ bx = [⟨182, (uS f n way fl), true⟩, ⟨75, [.v (.int .i64 (cls : Int)), .v (.bool false), .v (.slice p (dig B32 d0).length c), .v (.int .i64 pw)], false⟩, ⟨112, [.v (.bool false), .v (.slice none 0 0), .v (.int .i64 0)], false⟩, ⟨112, [.v (.bool d.neg), .v (.slice p13 (dig B32 d.m).length c13), .v (.int .i64 d.e)], false⟩] ∧ gs = [ownF w.heap.size .u32 141 p13 c13 (dig B32 d.m), ownF b0 .u32 141 p c (dig B32 d0), tabF]) ?_ ?_
  · intro J hJ Al W I
    refine zd [] I fun Al W I => ?_
    refine zk [0, 1, 2, 4, 5] I fun I => ?_
    refine zo2 3 8 I (fun I => ?_) (fun I => ?_)
    · refine zq I (fun Al W I => (HW W _ (I.box 0 182 _)).out) fun Al W I => ?_
      refine zki 6 I .i64 (((wid f.g : Nat) : Int) * pw) (mw) ((by rw [HMW.out]; exact iwo)) fun I => ?_
      refine zo2 7 8 I (fun I => ?_) (fun I => ?_)
      · refine zqo I (fun Al W I => (HH W c I.fa.1.rd I.fa.1.le_cap I.fa.2.1).out) fun Al W p13 c13 I => ?_
        refine zo 8 I fun I => ?_
        refine zn I fun Al W I => ?_
        refine zo 9 I fun I => ?_
        refine zn I fun Al W I => ?_
        exact a0y I J fun Al W U I => hJ _ _ _ _ _ ⟨U, p13, c13, rfl, rfl, rfl⟩ (I.pick [0, 1, 2])
      refine zn I fun Al W I => ?_
      refine zo 7 I fun I => ?_
      refine zqo I (fun Al W I => (HH W c I.fa.1.rd I.fa.1.le_cap I.fa.2.1).out) fun Al W p13 c13 I => ?_
      refine zo 9 I fun I => ?_
      refine zn I fun Al W I => ?_
      exact a0y I J fun Al W U I => hJ _ _ _ _ _ ⟨U, p13, c13, rfl, rfl, rfl⟩ (I.pick [0, 1, 2])
    refine zn I fun Al W I => ?_
    refine zo 3 I fun I => ?_
    refine zq I (fun Al W I => (HW W _ (I.box 0 182 _)).out) fun Al W I => ?_
    refine zki 6 I .i64 (((wid f.g : Nat) : Int) * pw) (mw) ((by rw [HMW.out]; exact iwo)) fun I => ?_
    refine zo 7 I fun I => ?_
    refine zqo I (fun Al W I => (HH W c I.fa.1.rd I.fa.1.le_cap I.fa.2.1).out) fun Al W p13 c13 I => ?_
    refine zo 9 I fun I => ?_
    refine zn I fun Al W I => ?_
    exact a0y I J fun Al W U I => hJ _ _ _ _ _ ⟨U, p13, c13, rfl, rfl, rfl⟩ (I.pick [0, 1, 2])
  rintro _ _ _ ⟨U1, p13, c13, rfl, rfl, rfl⟩ Al W I
  exact zret I fun Al W I => ⟨p13, c13, rfl, I.fa.1.mono (by omega), I.below⟩
 | true =>
  rw [if_pos rfl]
  have I := Inv.startR w [u] [⟨182, (uS f n way fl), true⟩] [ownF b0 .u32 141 p c (dig B32 d0), tabF] ⟨U, True.intro⟩ ⟨hp, hT, True.intro⟩
  refine a0d [.p 0 0, .v (.agg #[.int .i64 (cls : Int), .bool true, .slice p (dig B32 d0).length c, .int .i64 pw])] I Tryz.func121 ?_
  refine zcut I none (fun fr bx gs => ∃ (U1 : Nat → Value) (p13 : Option Addr) (c13 : Nat), fr = (.p 0 0 :: .v (.agg #[.int .i64 (cls : Int), .bool true, .slice p (dig B32 d0).length c, .int .i64 pw]) :: .v undef :: .p 1 0 :: .p 2 0 :: .p 3 0 :: sw U1 6 9 (.v undef :: sw U1 16 3 []) : List SV) ∧ bx = [⟨182, (uS f n way fl), true⟩, ⟨75, [.v (.int .i64 (cls : Int)), .v (.bool true), .v (.slice p (dig B32 d0).length c), .v (.int .i64 pw)], false⟩, ⟨112, [.v (.bool false), .v (.slice none 0 0), .v (.int .i64 0)], false⟩, ⟨112, [.v (.bool d.neg), .v (.slice p13 (dig B32 d.m).length c13), .v (.int .i64 d.e)], false⟩] ∧ gs = [ownF w.heap.size .u32 141 p13 c13 (dig B32 d.m), ownF b0 .u32 141 p c (dig B32 d0), tabF]) ?_ ?_
  · intro J hJ Al W I
    refine zd [] I fun Al W I => ?_
    refine zk [0, 1, 2, 4, 5] I fun I => ?_
    refine zo2 3 8 I (fun I => ?_) (fun I => ?_)
    · refine zq I (fun Al W I => (HW W _ (I.box 0 182 _)).out) fun Al W I => ?_
      refine zki 6 I .i64 (((wid f.g : Nat) : Int) * pw) (mw) ((by rw [HMW.out]; exact iwo)) fun I => ?_
      refine zo2 7 8 I (fun I => ?_) (fun I => ?_)
      · refine zqo I (fun Al W I => (HH W c I.fa.1.rd I.fa.1.le_cap I.fa.2.1).out) fun Al W p13 c13 I => ?_
        refine zo 8 I fun I => ?_
        refine zn I fun Al W I => ?_
        refine zo 9 I fun I => ?_
        refine zn I fun Al W I => ?_
        exact a0y I J fun Al W U I => hJ _ _ _ _ _ ⟨U, p13, c13, rfl, rfl, rfl⟩ (I.pick [0, 1, 2])
      refine zn I fun Al W I => ?_
      refine zo 7 I fun I => ?_
      refine zqo I (fun Al W I => (HH W c I.fa.1.rd I.fa.1.le_cap I.fa.2.1).out) fun Al W p13 c13 I => ?_
      refine zo 9 I fun I => ?_
      refine zn I fun Al W I => ?_
      exact a0y I J fun Al W U I => hJ _ _ _ _ _ ⟨U, p13, c13, rfl, rfl, rfl⟩ (I.pick [0, 1, 2])
    refine zn I fun Al W I => ?_
    refine zo 3 I fun I => ?_
    refine zq I (fun Al W I => (HW W _ (I.box 0 182 _)).out) fun Al W I => ?_
    refine zki 6 I .i64 (((wid f.g : Nat) : Int) * pw) (mw) ((by rw [HMW.out]; exact iwo)) fun I => ?_
    refine zo 7 I fun I => ?_
    refine zqo I (fun Al W I => (HH W c I.fa.1.rd I.fa.1.le_cap I.fa.2.1).out) fun Al W p13 c13 I => ?_
    refine zo 9 I fun I => ?_
    refine zn I fun Al W I => ?_
    exact a0y I J fun Al W U I => hJ _ _ _ _ _ ⟨U, p13, c13, rfl, rfl, rfl⟩ (I.pick [0, 1, 2])
  rintro _ _ _ ⟨U1, p13, c13, rfl, rfl, rfl⟩ Al W I
  refine zq I (fun Al W I => c1r d.neg p13 _ c13 d.e d.m W rfl) fun Al W I => ?_
  exact zret I fun Al W I => ⟨p13, c13, rfl, I.fa.1.mono (by omega), I.below⟩
theorem n1y (f : Fm) (n way : Int) (u : Nat) (w : World) (U : Bt w u 182 #[.int .i64 n, .int .i64 way, .int .i64 f.g.rad, .int .i64 f.g.digs, .int .i64 f.g.lo, .int .i64 f.g.hi, .bool f.g.grad, .int .u8 (famB f), .int .i64 0]) (fl : Nat) (b : Int) (hc : bits .or .i64 0 b = (fl : Nat)) :
 Calls Tryz.prog 117 #[.pointer (some ⟨u, 0, none⟩), .int .i64 b] w (g0j f n way u w w.heap.size (f.nothM, fl)) := by
 have HR := fun W u hU => hi0 (c0v f n way 0 b (fl : Nat) u W hU hc)
 have HN := fun W u hU => hi0 (k0y f n way (fl : Nat) u W hU)
 have hk : f.nothM.cls ≠ 2 := by unfold Fm.nothM; simp only; split <;> (try split) <;> omega
 have e : f.nothM = ⟨f.nothM.cls, false, vz⟩ := rfl
 rw [e]
 generalize f.nothM.cls = k at *
 have I := Inv.startW w u 182 (uS f n way 0) [] U True.intro True.intro
 refine a0d [.p 0 0, .v (.int .i64 b)] I Tryz.func117 ?_
 refine zge I 0 182 (fun Al W I => (HR W _ (I.box 0 182 _)).out) fun Al V Iv _ _ kz => ?_
 rintro _ W ⟨rfl, hO, hB⟩
 refine ⟨_, rfl, kz _ (uS f n way (fl : Int)) _ hO hB fun I => ?_⟩
 refine zq I (fun Al W I => (HN W _ (I.box 0 182 _)).out) fun Al W I => ?_
 exact zret I fun Al W I => b0c hk rfl I.bel (I.boxE 182 _)
theorem x0r (f : Fm) (n way : Int) (x : Dv) (p : Option Addr) (c u : Nat) (w : World) (U : Bt w u 182 #[.int .i64 n, .int .i64 way, .int .i64 f.g.rad, .int .i64 f.g.digs, .int .i64 f.g.lo, .int .i64 f.g.hi, .bool f.g.grad, .int .u8 (famB f), .int .i64 0]) (hp : Rd w .u32 p (dig B32 x.m))
 (hl : (dig B32 x.m).length ≤ 100000) (he : -1000000 ≤ x.e ∧ x.e ≤ 1000000) (G : c0i f) (hw : 1 ≤ way ∧ way ≤ 5) :
 Calls Tryz.prog 69 #[.pointer (some ⟨u, 0, none⟩), .agg #[.bool x.neg, .slice p (dig B32 x.m).length c, .int .i64 x.e]] w (g0j f n way u w w.heap.size (f.numM x way)) := by
 have hs : f0s ⟨x.neg, x.m, x.e⟩ = f0s x := rfl
 have HS := fun W => hi0 (d0g x.neg p _ c x.e x.m W rfl)
 rw [hs] at HS
 have h0 := n0j x
 by_cases hx : x.m = 0
 · have hn : f.numM x way = (⟨1, false, vz⟩, 0) := by unfold Fm.numM Fm.zeroM; rw [if_pos hx]; simp
   rw [hn]
   have HZ := fun W u hU => hi0 (x0q f n way 0 false u W hU)
   rw [Bool.false_and] at HZ
   have hd := h0.2 hx
   generalize f0s x = sx at *
   have I := Inv.startW w u 182 (uS f n way 0) [rdF .u32 p (dig B32 x.m)] U ⟨hp, True.intro⟩ ⟨fun hf => hp.far U (by kernel_rfl) hf.1 hf.2, True.intro⟩
   refine a0d [.p 0 0, .v (.agg #[.bool x.neg, .slice p (dig B32 x.m).length c, .int .i64 x.e])] I Tryz.func69 ?_
   refine zq I (fun Al W I => (HS W).out) fun Al W I => ?_
   refine zb I 7 (sx == 0) (true) (beq_iff_eq.2 hd) fun Al W I => ?_
   refine zq I (fun Al W I => (HZ W _ (I.box 0 182 _)).out) fun Al W I => ?_
   exact zret I fun Al W I => b0c (k := 1) (by decide) rfl I.bel (I.boxE 182 _)
 · have hn : f.numM x way = f.placedM (a0m x.neg x.m 1 x.e f.g way) way := by unfold Fm.numM; rw [if_neg hx]
   rw [hn]
   have hd : f0s x ≠ 0 := fun h => hx (h0.1 h)
   have l1 : (dig B32 1).length ≤ 1 := by rw [a0g a0b]; unfold B32; omega
   have HF := fun p q c d u W U h1 h2 => hi0 (p1g f n way x.neg p q c d x.m 1 x.e u W U h1 h2 hl (by omega) (by omega) (by omega) he G hw)
   have HV := (l0u G (neg := x.neg) (num := x.m) (den := 1) (e := x.e) (way := way) (by omega)).2
   have hm : f.placedM (a0m x.neg x.m 1 x.e f.g way) way = ((f.placedM (a0m x.neg x.m 1 x.e f.g way) way).1, (f.placedM (a0m x.neg x.m 1 x.e f.g way) way).2) := rfl
   rw [hm]
   generalize (f.placedM (a0m x.neg x.m 1 x.e f.g way) way).1 = r at *
   generalize (f.placedM (a0m x.neg x.m 1 x.e f.g way) way).2 = fl at *
   generalize f.placedV (a0m x.neg x.m 1 x.e f.g way) way = v at *
   generalize f0s x = sx at *
   have I := Inv.startW w u 182 (uS f n way 0) [rdF .u32 p (dig B32 x.m)] U ⟨hp, True.intro⟩ ⟨fun hf => hp.far U (by kernel_rfl) hf.1 hf.2, True.intro⟩
   refine a0d [.p 0 0, .v (.agg #[.bool x.neg, .slice p (dig B32 x.m).length c, .int .i64 x.e])] I Tryz.func69 ?_
   refine zq I (fun Al W I => (HS W).out) fun Al W I => ?_
   refine zb I 7 (sx == 0) (false) (bFn hd) fun Al W I => ?_
   refine zd [0, 2] I fun Al W I => ?_
   refine zk [0, 1, 2, 3, 4, 5, 6, 8, 9, 10] I fun I => ?_
   refine zo 7 I fun I => ?_
   refine zqo I (fun Al W I => have hzW := I.bel.size; sof 1 1 rfl (by omega) W) fun Al W p17 c17 I => ?_
   refine zk [11] I fun I => ?_
   refine zo 12 I fun I => ?_
   refine zge I 0 182 (fun Al W I => (HF p p17 c c17 _ W (I.box 0 182 _) I.fa.2.1 I.fa.1.rd).out) fun Al V Iv _ _ kz => ?_
   rintro _ W ⟨p22, c22, rfl, o22, hO, hB⟩
   refine ⟨_, rfl, kz _ (uS f n way (fl : Int)) _ hO hB fun I => ?_⟩
   have I := I.own o22
   refine zo 13 I fun I => ?_
   refine zn I fun Al W I => ?_
   exact zret I fun Al W I => ⟨v, HV, p22, c22, rfl, I.fa.1.mono (by omega), I.bel, I.boxE 182 _⟩
structure Vp where
 v : Vl
 p : Option Addr
 c : Nat
def Vp.cells (x : Vp) : List Value := [.int .i64 (x.v.cls : Int), .bool x.v.neg, .slice x.p (dig B32 x.v.d).length x.c, .int .i64 x.v.pow]
theorem Vp.len (x : Vp) : x.cells.length = 4 := rfl
theorem v0y : z0j Tryz.prog 93 75 4 48 := x0p (z := .agg #[.int .i64 0, .bool false, .slice none 0 0, .int .i64 0]) (by kernel_rfl) (by kernel_rfl) (by kernel_rfl) (by kernel_rfl) (by kernel_rfl)
theorem v0z : d0n Tryz.prog 75 4 := c0c (by kernel_rfl) (by kernel_rfl)
theorem i1p (f : Fm) (n way fl : Int) (xs : List Vp) (b m u : Nat) (w : World) (U : Bt w u 182 #[.int .i64 n, .int .i64 way, .int .i64 f.g.rad, .int .i64 f.g.digs, .int .i64 f.g.lo, .int .i64 f.g.hi, .bool f.g.grad, .int .u8 (famB f), .int .i64 fl]) (hB : Bt w b 75 (xs.flatMap Vp.cells).toArray) (hm : m = xs.length) (hl : xs.length ≤ 1000) (hno : ∀ x ∈ xs, x.v.cls < 4) :
 Calls Tryz.prog 114 #[.pointer (some ⟨u, 0, none⟩), .slice (some ⟨b, 0, none⟩) m m] w fun en w' => en = .returned (.tuple #[.agg #[.int .i64 0, .bool false, .slice none 0 0, .int .i64 0], .bool false]) ∧ Below w.heap.size w w' := by
 subst hm
 have HX : ∀ i, i < xs.length → ∃ x : Vp, xs[i]? = some x ∧ x.v.cls < 4 := fun i h => ⟨xs[i], List.getElem?_eq_getElem h, hno _ (List.getElem_mem h)⟩
 have I := Inv.startR w [u] [⟨182, (uS f n way fl), true⟩] [btF b 75 (xs.flatMap Vp.cells).toArray] ⟨U, True.intro⟩ ⟨hB, True.intro⟩
 refine a0d [.p 0 0, .v (.slice (some ⟨b, 0, none⟩) xs.length xs.length)] I Tryz.func114 ?_
 refine o0w I (fun gk fr bx gs => ∃ (U900 : Nat → Value) (i : Nat), fr = (.p 0 0 :: .v (.slice (some ⟨b, 0, none⟩) xs.length xs.length) :: su 2 (.p 1 0 :: .v (U900 5) :: .v undef :: .v (U900 7) :: .v (.slice (some ⟨b, 0, none⟩) xs.length xs.length) :: .v (.int .i64 (xs.length : Int)) :: .v (.int .i64 (i : Int)) :: sw U900 11 16 []) : List SV) ∧ bx = [⟨182, (uS f n way fl), true⟩, ⟨75, [.v (.int .i64 0), .v (.bool false), .v (.slice none 0 0), .v (.int .i64 0)], false⟩] ∧ gs = [btF b 75 (xs.flatMap Vp.cells).toArray] ∧ (gk + i = xs.length)) xs.length (fun Al W U I => ⟨_, ⟨U, 0, rfl, rfl, rfl, (by omega)⟩, I.pick [0]⟩) ?_
 rintro J gk0 _ _ _ ⟨U900, i, rfl, rfl, rfl, hgk⟩ hJ Al W I
 rcases Bool.eq_false_or_eq_true (decide ((i : Int) < (xs.length : Int))) with f11 | f11
 · refine zb I 11 (decide ((i : Int) < (xs.length : Int))) (true) (f11) fun Al W I => ?_
   obtain ⟨x, hx, hx4⟩ := HX i (by have := oTr f11; omega)
   refine zx I 12 (fun _ => .pointer (some (at_ (some ⟨b, 0, none⟩) (i * 4)))) (fun Al W I => (m0f (m := i) (n := xs.length) (c := xs.length) v0y (fun _ => ⟨rfl, rfl⟩) (by have := oTr f11; omega))) fun Al W I => ?_
   refine zx I 13 (fun _ => .agg #[.int .i64 (x.v.cls : Int), .bool x.v.neg, .slice x.p (dig B32 x.v.d).length x.c, .int .i64 x.v.pow]) (fun Al W I => (i1n I.fa.1 v0z x.cells (r0y Vp.len hx) rfl)) fun Al W I => ?_
   refine zqd I (fun Al W I => o0r x.v.cls x.v.neg x.p (dig B32 x.v.d).length x.c x.v.pow W) (show (decide (x.v.cls = 4) || decide (x.v.cls = 5)) = false from (by rw [decide_eq_false (by omega), decide_eq_false (by omega)]; rfl)) fun Al W I => ?_
   refine zi I 25 .i64 ((i : Int) + 1) (((i + 1 : Nat) : Int)) ((by rw [show ((i : Int) + 1) = ((i + 1 : Nat) : Int) by omega]; exact IntWalk.i64_in _ (by have := oTr f11; omega))) fun Al W I => ?_
   exact o0p 2 I J fun Al W U I => hJ (gk0 - 1) _ _ _ _ _ ((by have := oTr f11; omega)) ⟨U, i + 1, rfl, rfl, rfl, (by have := oTr f11; omega)⟩ (I.pick [0])
 refine zb I 11 (decide ((i : Int) < (xs.length : Int))) (false) (f11) fun Al W I => ?_
 exact zrb I
theorem d1y (f : Fm) (n way : Int) (xs : List Vp) (b m u : Nat) (w : World) (U : Bt w u 182 #[.int .i64 n, .int .i64 way, .int .i64 f.g.rad, .int .i64 f.g.digs, .int .i64 f.g.lo, .int .i64 f.g.hi, .bool f.g.grad, .int .u8 (famB f), .int .i64 0]) (hB : Bt w b 75 (xs.flatMap Vp.cells).toArray) (hm : m = xs.length) (hl : xs.length ≤ 1000) (hc : ∀ x ∈ xs, x.v.cls ≤ 5) (G : c0i f) (hyes : ∃ x ∈ xs, 4 ≤ x.v.cls) :
 Calls Tryz.prog 114 #[.pointer (some ⟨u, 0, none⟩), .slice (some ⟨b, 0, none⟩) m m] w fun en w' => en = .returned (.tuple #[.agg #[.int .i64 (f.nothM.cls : Int), .bool false, .slice none 0 0, .int .i64 0], .bool true]) ∧ Kp [u] w w' ∧ Bt w' u 182 #[.int .i64 n, .int .i64 way, .int .i64 f.g.rad, .int .i64 f.g.digs, .int .i64 f.g.lo, .int .i64 f.g.hi, .bool f.g.grad, .int .u8 (famB f), .int .i64 ((f.offM.2 : Nat) : Int)] := by
 subst hm
 have HX : ∀ i, i < xs.length → ∃ x : Vp, xs[i]? = some x ∧ x.v.cls ≤ 5 := fun i h => ⟨xs[i], List.getElem?_eq_getElem h, hc _ (List.getElem_mem h)⟩
 obtain ⟨y, hy, hy4⟩ := hyes
 obtain ⟨j, hj, hjy⟩ := List.getElem_of_mem hy
 have hYJ : xs[j]? = some y := by rw [List.getElem?_eq_getElem hj, hjy]
 clear hjy hy hc
 have HN := fun fl W u hU => hi0 (k0y f n way fl u W hU)
 have HR := fun W u hU => hi0 (c0v f n way 0 16 16 u W hU (by decide +kernel))
 have e2 : f.fam = 3 → ((f.offM.2 : Nat) : Int) = 16 ∧ famB f = 67 := fun h => ⟨by unfold Fm.offM; rw [if_pos h]; rfl, by unfold famB; rw [if_neg (by omega), if_neg (by omega)]⟩
 have e3 : f.fam ≠ 3 → ((f.offM.2 : Nat) : Int) = 0 := fun h => by unfold Fm.offM; rw [if_neg h]; rfl
 have e4 : f.fam ≠ 3 → famB f ≠ 67 := fun h => by have := G.fam; unfold famB; split; decide; rw [if_pos (by omega)]; decide
 generalize ((f.offM.2 : Nat) : Int) = fl at *
 generalize f.nothM.cls = kN at *
 have I := Inv.startW w u 182 (uS f n way 0) [btF b 75 (xs.flatMap Vp.cells).toArray] U ⟨hB, True.intro⟩ ⟨fun hf => hB.far U (by kernel_rfl) hf, True.intro⟩
 refine a0d [.p 0 0, .v (.slice (some ⟨b, 0, none⟩) xs.length xs.length)] I Tryz.func114 ?_
 refine o0w I (fun gk fr bx gs => ∃ (U900 : Nat → Value) (i : Nat), fr = (.p 0 0 :: .v (.slice (some ⟨b, 0, none⟩) xs.length xs.length) :: su 2 (.p 1 0 :: .v (U900 5) :: .v undef :: .v (U900 7) :: .v (.slice (some ⟨b, 0, none⟩) xs.length xs.length) :: .v (.int .i64 (xs.length : Int)) :: .v (.int .i64 (i : Int)) :: sw U900 11 16 []) : List SV) ∧ bx = [⟨182, (uS f n way 0), false⟩, ⟨75, [.v (.int .i64 0), .v (.bool false), .v (.slice none 0 0), .v (.int .i64 0)], false⟩] ∧ gs = [btF b 75 (xs.flatMap Vp.cells).toArray] ∧ (gk + i = xs.length) ∧ (∀ (j : Nat) (x : Vp), j < i → xs[j]? = some x → x.v.cls < 4)) xs.length (fun Al W U I => ⟨_, ⟨U, 0, rfl, rfl, rfl, (by omega), (fun _ _ h => absurd h (by omega))⟩, I.pick [0]⟩) ?_
 rintro J gk0 _ _ _ ⟨U900, i, rfl, rfl, rfl, hgk, hlt⟩ hJ Al W I
 rcases Bool.eq_false_or_eq_true (decide ((i : Int) < (xs.length : Int))) with f11 | f11
 · refine zb I 11 (decide ((i : Int) < (xs.length : Int))) (true) (f11) fun Al W I => ?_
   obtain ⟨x, hx, hx5⟩ := HX i (by have := oTr f11; omega)
   refine zx I 12 (fun _ => .pointer (some (at_ (some ⟨b, 0, none⟩) (i * 4)))) (fun Al W I => (m0f (m := i) (n := xs.length) (c := xs.length) v0y (fun _ => ⟨rfl, rfl⟩) (by have := oTr f11; omega))) fun Al W I => ?_
   refine zx I 13 (fun _ => .agg #[.int .i64 (x.v.cls : Int), .bool x.v.neg, .slice x.p (dig B32 x.v.d).length x.c, .int .i64 x.v.pow]) (fun Al W I => (i1n I.fa.1 v0z x.cells (r0y Vp.len hx) rfl)) fun Al W I => ?_
   by_cases hof : 4 ≤ x.v.cls
   · refine zqd I (fun Al W I => o0r x.v.cls x.v.neg x.p (dig B32 x.v.d).length x.c x.v.pow W) (show (decide (x.v.cls = 4) || decide (x.v.cls = 5)) = true from (by rcases (show x.v.cls = 4 ∨ x.v.cls = 5 by omega) with h | h <;> rw [h] <;> rfl)) fun Al W I => ?_
     by_cases hf3 : f.fam = 3
     · refine zb I 20 ((famB f) == 67) (true) (beq_iff_eq.2 (e2 hf3).2) fun Al W I => ?_
       refine zge I 0 182 (fun Al W I => (HR W _ (I.box 0 182 _)).out) fun Al V Iv _ _ kz => ?_
       rintro _ W ⟨rfl, hO, hB⟩
       refine ⟨_, rfl, kz _ (uS f n way 16) _ hO hB fun I => ?_⟩
       refine zq I (fun Al W I => (HN 16 W _ (I.box 0 182 _)).out) fun Al W I => ?_
       refine zret I (v := fun Al => .tuple #[.agg #[.int .i64 (kN : Int), .bool false, .slice none 0 0, .int .i64 0], .bool true]) fun Al W I => ?_
       first | exact ⟨rfl, I.bel, by rw [(e2 hf3).1]; exact I.boxE 182 _⟩ | exact ⟨rfl, I.bel, by rw [e3 hf3]; exact I.boxE 182 _⟩
     refine zb I 20 ((famB f) == 67) (false) (bFn (e4 hf3)) fun Al W I => ?_
     refine zq I (fun Al W I => (HN 0 W _ (I.box 0 182 _)).out) fun Al W I => ?_
     refine zret I (v := fun Al => .tuple #[.agg #[.int .i64 (kN : Int), .bool false, .slice none 0 0, .int .i64 0], .bool true]) fun Al W I => ?_
     first | exact ⟨rfl, I.bel, by rw [(e2 hf3).1]; exact I.boxE 182 _⟩ | exact ⟨rfl, I.bel, by rw [e3 hf3]; exact I.boxE 182 _⟩
   refine zqd I (fun Al W I => o0r x.v.cls x.v.neg x.p (dig B32 x.v.d).length x.c x.v.pow W) (show (decide (x.v.cls = 4) || decide (x.v.cls = 5)) = false from (by rw [decide_eq_false (by omega), decide_eq_false (by omega)]; rfl)) fun Al W I => ?_
   refine zi I 25 .i64 ((i : Int) + 1) (((i + 1 : Nat) : Int)) ((by rw [show ((i : Int) + 1) = ((i + 1 : Nat) : Int) by omega]; exact IntWalk.i64_in _ (by have := oTr f11; omega))) fun Al W I => ?_
   exact o0p 2 I J fun Al W U I => hJ (gk0 - 1) _ _ _ _ _ ((by have := oTr f11; omega)) ⟨U, i + 1, rfl, rfl, rfl, (by have := oTr f11; omega), (fun j' x' h h' => by rcases (show j' < i ∨ j' = i by omega) with q | rfl; exact hlt j' x' q h'; rw [hx] at h'; cases h'; omega)⟩ (I.pick [0])
 refine zb I 11 (decide ((i : Int) < (xs.length : Int))) (false) (f11) fun Al W I => ?_
 exact zret I (v := fun Al => .tuple #[.agg #[.int .i64 0, .bool false, .slice none 0 0, .int .i64 0], .bool false]) fun Al W I => absurd (hlt j y (by have := oFa f11; omega) hYJ) (by rw [Nat.not_lt]; omega)
theorem d1z (x y : Dv) (p q : Option Addr) (c d base : Nat) (w : World) (hx : Bare x) (hy : Bare y) (sx : SmD x) (sy : SmD y) (hp : Own w base .u32 141 p c (dig B32 x.m)) (hq : Own w base .u32 141 q d (dig B32 y.m)) (hT : TabW w) (hb : base ≤ w.heap.size) :
 Calls Tryz.prog 66 #[.agg #[.bool x.neg, .slice p (dig B32 x.m).length c, .int .i64 x.e], .agg #[.bool y.neg, .slice q (dig B32 y.m).length d, .int .i64 y.e]] w (g0m w base (j0c x y)) := by
 have h1 := sx.len
 have h2 := sy.len
 have h3 := sx.lo
 have h4 := sx.hi
 have h5 := sy.lo
 have h6 := sy.hi
 have := a1u x.neg y.neg p q _ c _ d base x.e y.e x.m y.m w hp hq rfl rfl (by omega) (by omega) (by omega) (by omega) hT hb
 rw [show (⟨x.neg, x.m, x.e⟩ : Dv) = x from rfl, show (⟨y.neg, y.m, y.e⟩ : Dv) = y from rfl, w0o hx hy] at this
 exact this
theorem p1h (f : Fm) (n way : Int) (x y : Dv) (g h : Bool) (p q : Option Addr) (c d base u : Nat) (w : World) (U : Bt w u 182 #[.int .i64 n, .int .i64 way, .int .i64 f.g.rad, .int .i64 f.g.digs, .int .i64 f.g.lo, .int .i64 f.g.hi, .bool f.g.grad, .int .u8 (famB f), .int .i64 0]) (hp : Own w base .u32 141 p c (dig B32 x.m)) (hq : Own w base .u32 141 q d (dig B32 y.m)) (hb : base ≤ w.heap.size)
 (hx : Bare x) (hy : Bare y) (sx : SmD x) (sy : SmD y) (G : c0i f) (hw : 1 ≤ way ∧ way ≤ 5) (hT : TabW w) :
 Calls Tryz.prog 144 #[.pointer (some ⟨u, 0, none⟩), .agg #[.bool x.neg, .slice p (dig B32 x.m).length c, .int .i64 x.e], .agg #[.bool y.neg, .slice q (dig B32 y.m).length d, .int .i64 y.e], .bool g, .bool h] w (g0j f n way u w w.heap.size (f.sumM x y g h way)) := by
 have HP := fun W h1 h2 h3 h4 => hi0 (d1z x y p q c d base W hx hy sx sy h1 h2 h3 h4)
 have hbd := f1w sx.len sy.len sx.lo sx.hi sy.lo sy.hi
 rw [w0o hx hy] at hbd
 have hS1 : (j0c x y).m ≠ 0 → f.sumM x y g h way = f.numM (j0c x y) way := fun k => by unfold Fm.sumM; rw [if_pos k]
 have hS2 : (j0c x y).m = 0 → x.m = 0 ∧ g = h → f.sumM x y g h way = (f.zeroM g, 0) := fun k k' => by unfold Fm.sumM; rw [if_neg (fun h => h k), if_pos k']
 have hS3 : (j0c x y).m = 0 → ¬ (x.m = 0 ∧ g = h) → f.sumM x y g h way = (f.zeroM (decide (way = 5)), 0) := fun k k' => by unfold Fm.sumM; rw [if_neg (fun h => h k), if_neg k']
 generalize j0c x y = s at *
 generalize f.sumM x y g h way = R at *
 have HN := fun W u (p : Option Addr) (c : Nat) hU h1 => hi0 (x0r f n way s p c u W hU h1 (by omega) (by omega) G hw)
 have HS := fun (W : World) (p : Option Addr) (c : Nat) => hi0 (d0g s.neg p _ c s.e s.m W rfl)
 have HX := fun (W : World) => hi0 (d0g x.neg p _ c x.e x.m W rfl)
 have HZ := fun g W u hU => hi0 (x0q f n way 0 g u W hU)
 rw [show (⟨s.neg, s.m, s.e⟩ : Dv) = s from rfl] at HS
 rw [show (⟨x.neg, x.m, x.e⟩ : Dv) = x from rfl] at HX
 have hs0 := n0j s
 have hx0 := n0j x
 generalize f0s s = ss at *
 generalize f0s x = xs at *
 obtain ⟨rN, flN, hN⟩ : ∃ rN flN, f.numM s way = (rN, flN) := ⟨_, _, rfl⟩
 rw [hN] at HN hS1
 clear hN
 have I := Inv.startW w u 182 (uS f n way 0) [ownF base .u32 141 p c (dig B32 x.m), ownF base .u32 141 q d (dig B32 y.m), tabF] U ⟨hp, hq, hT, True.intro⟩ ⟨fun hf => hp.far U (by kernel_rfl) hf.1 hf.2, fun hf => hq.far U (by kernel_rfl) hf.1 hf.2, fun hf => hT.far U (by kernel_rfl) hf, True.intro⟩
 refine a0d [.p 0 0, .v (.agg #[.bool x.neg, .slice p (dig B32 x.m).length c, .int .i64 x.e]), .v (.agg #[.bool y.neg, .slice q (dig B32 y.m).length d, .int .i64 y.e]), .v (.bool g), .v (.bool h)] I Tryz.func144 ?_
 refine zg I (fun Al W I => have hzW := I.bel.size; (HP W I.fa.1 I.fa.2.1 I.fa.2.2.1 (by omega)).out) fun Al V Iv _ hB _ kz => ?_
 rintro _ W ⟨p14, c14, rfl, o14, hb⟩
 refine ⟨_, rfl, kz _ _ hb fun I => ?_⟩
 have I := I.ownB base o14
 by_cases hs : s.m = 0
 · refine zq I (fun Al W I => (HS W p14 c14).out) fun Al W I => ?_
   refine zb I 17 (ss != 0) (false) (bne_eq_false_iff_eq.2 (hs0.2 hs)) fun Al W I => ?_
   by_cases hx1 : x.m = 0
   · by_cases hgh : g = h
     · refine zq I (fun Al W I => (HX W).out) fun Al W I => ?_
       refine zb I 23 (xs == 0) (true) (beq_iff_eq.2 (hx0.2 hx1)) fun Al W I => ?_
       refine zb I 27 (g == h) (true) ((by rw [hgh]; exact beq_self_eq_true h)) fun Al W I => ?_
       refine zq I (fun Al W I => (HZ g W _ (I.box 0 182 _)).out) fun Al W I => ?_
       rw [hS2 hs ⟨hx1, hgh⟩]
       exact zret I fun Al W I => b0c (k := 1) (by decide) rfl I.bel (I.boxE 182 _)
     refine zq I (fun Al W I => (HX W).out) fun Al W I => ?_
     refine zb I 23 (xs == 0) (true) (beq_iff_eq.2 (hx0.2 hx1)) fun Al W I => ?_
     refine zb I 27 (g == h) (false) (bFn hgh) fun Al W I => ?_
     refine zb I 37 (way == 5) ((decide (way = 5))) (rfl) fun Al W I => ?_
     refine zq I (fun Al W I => (HZ (decide (way = 5)) W _ (I.box 0 182 _)).out) fun Al W I => ?_
     rw [hS3 hs (fun k => by first | exact hx1 k.1 | exact hgh k.2)]
     exact zret I fun Al W I => b0c (k := 1) (by decide) rfl I.bel (I.boxE 182 _)
   by_cases hgh : g = h
   · refine zq I (fun Al W I => (HX W).out) fun Al W I => ?_
     refine zb I 23 (xs == 0) (false) (bFn (fun k => hx1 (hx0.1 k))) fun Al W I => ?_
     refine zb I 37 (way == 5) ((decide (way = 5))) (rfl) fun Al W I => ?_
     refine zq I (fun Al W I => (HZ (decide (way = 5)) W _ (I.box 0 182 _)).out) fun Al W I => ?_
     rw [hS3 hs (fun k => by first | exact hx1 k.1 | exact hgh k.2)]
     exact zret I fun Al W I => b0c (k := 1) (by decide) rfl I.bel (I.boxE 182 _)
   refine zq I (fun Al W I => (HX W).out) fun Al W I => ?_
   refine zb I 23 (xs == 0) (false) (bFn (fun k => hx1 (hx0.1 k))) fun Al W I => ?_
   refine zb I 37 (way == 5) ((decide (way = 5))) (rfl) fun Al W I => ?_
   refine zq I (fun Al W I => (HZ (decide (way = 5)) W _ (I.box 0 182 _)).out) fun Al W I => ?_
   rw [hS3 hs (fun k => by first | exact hx1 k.1 | exact hgh k.2)]
   exact zret I fun Al W I => b0c (k := 1) (by decide) rfl I.bel (I.boxE 182 _)
 refine zq I (fun Al W I => (HS W p14 c14).out) fun Al W I => ?_
 refine zb I 17 (ss != 0) (true) (bne_iff_ne.2 (fun k => hs (hs0.1 k))) fun Al W I => ?_
 refine zge I 0 182 (fun Al W I => (HN W _ p14 c14 (I.box 0 182 _) I.fa.1.rd).out) fun Al V Iv _ _ kz => ?_
 rintro _ W ⟨v20, hR20, p20, c20, rfl, o20, hO, hB⟩
 refine ⟨_, rfl, kz _ (uS f n way (flN : Int)) _ hO hB fun I => ?_⟩
 have I := I.own o20
 rw [hS1 hs]
 exact zret I fun Al W I => ⟨v20, hR20, p20, c20, rfl, I.fa.1, I.bel, I.boxE 182 _⟩
structure AtV (f : Fm) (a : Vp) (r : Vr) : Prop where
 rep : VRep f a.v r
 ok : VrOk r
 inf : r.cls = 3 → f.fam = 1
theorem VrOk.sm {r : Vr} (R : VrOk r) : SmD r.x := ⟨by have := R.len; omega, by have := R.lo; omega, by have := R.hi; omega⟩
theorem k1z (f : Fm) (n way : Int) (u : Nat) (w : World) (U : Bt w u 182 #[.int .i64 n, .int .i64 way, .int .i64 f.g.rad, .int .i64 f.g.digs, .int .i64 f.g.lo, .int .i64 f.g.hi, .bool f.g.grad, .int .u8 (famB f), .int .i64 0]) :
 Calls Tryz.prog 117 #[.pointer (some ⟨u, 0, none⟩), .int .i64 16] w fun en w' => en = .returned (.agg #[.int .i64 (f.nothM.cls : Int), .bool false, .slice none 0 0, .int .i64 0]) ∧ Kp [u] w w' ∧ Bt w' u 182 #[.int .i64 n, .int .i64 way, .int .i64 f.g.rad, .int .i64 f.g.digs, .int .i64 f.g.lo, .int .i64 f.g.hi, .bool f.g.grad, .int .u8 (famB f), .int .i64 16] := by
 have HR := fun W u hU => hi0 (c0v f n way 0 16 16 u W hU (by decide +kernel))
 have HN := fun W u hU => hi0 (k0y f n way 16 u W hU)
 generalize f.nothM.cls = k at *
 have I := Inv.startW w u 182 (uS f n way 0) [] U True.intro True.intro
 refine a0d [.p 0 0, .v (.int .i64 16)] I Tryz.func117 ?_
 refine zge I 0 182 (fun Al W I => (HR W _ (I.box 0 182 _)).out) fun Al V Iv _ _ kz => ?_
 rintro _ W ⟨rfl, hO, hB⟩
 refine ⟨_, rfl, kz _ (uS f n way 16) _ hO hB fun I => ?_⟩
 refine zq I (fun Al W I => (HN W _ (I.box 0 182 _)).out) fun Al W I => ?_
 exact zret I fun Al W I => ⟨rfl, I.bel, I.boxE 182 _⟩
def two (a b : Vp) : List Vp := [a, b]
theorem p1i (f : Fm) (n way : Int) (a b : Vp) (ra rb : Vr) (base u : Nat) (w : World) (U : Bt w u 182 #[.int .i64 n, .int .i64 way, .int .i64 f.g.rad, .int .i64 f.g.digs, .int .i64 f.g.lo, .int .i64 f.g.hi, .bool f.g.grad, .int .u8 (famB f), .int .i64 0]) (oa : Own w base .u32 141 a.p a.c (dig B32 a.v.d)) (ob : Own w base .u32 141 b.p b.c (dig B32 b.v.d)) (hb : base ≤ w.heap.size)
 (A1 : AtV f a ra) (B1 : AtV f b rb) (G : c0i f) (hw : 1 ≤ way ∧ way ≤ 5) (hT : TabW w) :
 Calls Tryz.prog 90 #[.pointer (some ⟨u, 0, none⟩), .agg #[.int .i64 (a.v.cls : Int), .bool a.v.neg, .slice a.p (dig B32 a.v.d).length a.c, .int .i64 a.v.pow], .agg #[.int .i64 (b.v.cls : Int), .bool b.v.neg, .slice b.p (dig B32 b.v.d).length b.c, .int .i64 b.v.pow]] w (g0j f n way u w base (f.addM ra rb way)) := by
 have hM : f.addM ra rb way = if 4 ≤ a.v.cls ∨ 4 ≤ b.v.cls then f.offM else if a.v.cls = 3 ∨ b.v.cls = 3 then (if a.v.cls = b.v.cls ∧ a.v.neg ≠ b.v.neg then f.lostM else if a.v.cls = 3 then (ra, 0) else (rb, 0)) else f.sumM ra.x rb.x a.v.neg b.v.neg way := by
  unfold Fm.addM; rw [A1.rep.cls, B1.rep.cls, A1.rep.neg, B1.rep.neg]
 have hca : a.v.cls ≤ 5 := by rw [A1.rep.cls]; exact A1.ok.c.2
 have hcb : b.v.cls ≤ 5 := by rw [B1.rep.cls]; exact B1.ok.c.2
 have HY := fun W b0 u h1 h2 h3 => hi0 (d1y f n way [a, b] b0 2 u W h1 h2 rfl (by simp) (by simp [hca, hcb]) G h3)
 have HN := fun W b0 u h1 h2 h3 => hi0 (i1p f n way 0 [a, b] b0 2 u W h1 h2 rfl (by simp) h3)
 have HL := fun W u h1 => hi0 (n1y f n way u W h1 16 16 (by decide +kernel))
 have HA := fun W u h1 h2 h3 => hi0 (k1y f n way 0 a.v ra a.p a.c base u W h1 h2 A1.rep A1.ok h3)
 have HB := fun W u h1 h2 h3 => hi0 (k1y f n way 0 b.v rb b.p b.c base u W h1 h2 B1.rep B1.ok h3)
 have HS := fun W p q c d base u h1 h2 h3 h4 h5 => hi0 (p1h f n way ra.x rb.x a.v.neg b.v.neg p q c d base u W h1 h2 h3 h4 A1.ok.bare B1.ok.bare A1.ok.sm B1.ok.sm G hw h5)
 have hoffm : f.offM = (⟨f.nothM.cls, false, vz⟩, f.offM.2) := rfl
 have hk2 := o0o G
 have hlostm : f.lostM = (f.nothM, 16) := rfl
 have VA := A1.rep
 have VB := B1.rep
 obtain ⟨rS, flS, hS⟩ : ∃ rS flS, f.sumM ra.x rb.x a.v.neg b.v.neg way = (rS, flS) := ⟨_, _, rfl⟩
 rw [hS] at HS hM
 generalize f.addM ra rb way = R at *
 generalize f.offM.2 = flo at *
 generalize f.nothM.cls = kN at *
 generalize f.nothM = rN at *
 have I := Inv.startW w u 182 (uS f n way 0) [ownF base .u32 141 a.p a.c (dig B32 a.v.d), ownF base .u32 141 b.p b.c (dig B32 b.v.d), tabF] U ⟨oa, ob, hT, True.intro⟩ ⟨fun hf => oa.far U (by kernel_rfl) hf.1 hf.2, fun hf => ob.far U (by kernel_rfl) hf.1 hf.2, fun hf => hT.far U (by kernel_rfl) hf, True.intro⟩
 refine a0d [.p 0 0, .v (.agg #[.int .i64 (a.v.cls : Int), .bool a.v.neg, .slice a.p (dig B32 a.v.d).length a.c, .int .i64 a.v.pow]), .v (.agg #[.int .i64 (b.v.cls : Int), .bool b.v.neg, .slice b.p (dig B32 b.v.d).length b.c, .int .i64 b.v.pow])] I Tryz.func90 ?_
 by_cases hof : 4 ≤ a.v.cls ∨ 4 ≤ b.v.cls
 · refine zge I 0 182 (fun Al W I => (HY W _ _ (I.box 0 182 _) (I.box 4 75 _) (by simpa using hof)).out) fun Al V Iv _ _ kz => ?_
   rintro _ W ⟨rfl, hO, hB⟩
   refine ⟨_, rfl, kz _ (uS f n way (flo : Int)) _ hO hB fun I => ?_⟩
   rw [hM]
   refine zret I (v := fun Al => .agg #[.int .i64 (kN : Int), .bool false, .slice none 0 0, .int .i64 0]) fun Al W I => ?_
   first | (rw [if_pos hof, hoffm]; exact b0c hk2 rfl I.bel (I.boxE 182 _)) | (rw [if_neg hof, if_pos (.inl h3a), if_neg (fun h => by first | exact h.2 hng | (have := h.1; omega)), if_pos h3a]; exact ⟨a.v, VA, a.p, a.c, rfl, I.fa.1, I.bel, I.boxE 182 _⟩) | (rw [if_neg hof, if_pos (.inr h3b), if_neg (fun h => h3a (by omega)), if_neg h3a]; exact ⟨b.v, VB, b.p, b.c, rfl, I.fa.2.1, I.bel, I.boxE 182 _⟩)
 refine zq I (fun Al W I => have hzW := I.bel.size; (HN W _ _ (I.box 0 182 _) (I.box 4 75 _) (by simp only [List.mem_cons, List.mem_nil_iff, or_false]; rintro x (rfl | rfl) <;> omega)).out) fun Al W I => ?_
 by_cases h3a : a.v.cls = 3
 · by_cases h3b : b.v.cls = 3
   · by_cases hng : a.v.neg = b.v.neg
     · refine zqd I (fun Al W I => a0i a.v.cls a.v.neg a.p (dig B32 a.v.d).length a.c a.v.pow W) (dTr h3a) fun Al W I => ?_
       refine zqd I (fun Al W I => a0i b.v.cls b.v.neg b.p (dig B32 b.v.d).length b.c b.v.pow W) (dTr h3b) fun Al W I => ?_
       refine zb I 31 (a.v.neg != b.v.neg) (false) (bne_eq_false_iff_eq.2 hng) fun Al W I => ?_
       refine zqd I (fun Al W I => a0i a.v.cls a.v.neg a.p (dig B32 a.v.d).length a.c a.v.pow W) (dTr h3a) fun Al W I => ?_
       rw [hM]
       refine zret I (v := fun Al => .agg #[.int .i64 (a.v.cls : Int), .bool a.v.neg, .slice a.p (dig B32 a.v.d).length a.c, .int .i64 a.v.pow]) fun Al W I => ?_
       first | (rw [if_pos hof, hoffm]; exact b0c hk2 rfl I.bel (I.boxE 182 _)) | (rw [if_neg hof, if_pos (.inl h3a), if_neg (fun h => by first | exact h.2 hng | (have := h.1; omega)), if_pos h3a]; exact ⟨a.v, VA, a.p, a.c, rfl, I.fa.1, I.bel, I.boxE 182 _⟩) | (rw [if_neg hof, if_pos (.inr h3b), if_neg (fun h => h3a (by omega)), if_neg h3a]; exact ⟨b.v, VB, b.p, b.c, rfl, I.fa.2.1, I.bel, I.boxE 182 _⟩)
     refine zqd I (fun Al W I => a0i a.v.cls a.v.neg a.p (dig B32 a.v.d).length a.c a.v.pow W) (dTr h3a) fun Al W I => ?_
     refine zqd I (fun Al W I => a0i b.v.cls b.v.neg b.p (dig B32 b.v.d).length b.c b.v.pow W) (dTr h3b) fun Al W I => ?_
     refine zb I 31 (a.v.neg != b.v.neg) (true) (bne_iff_ne.2 hng) fun Al W I => ?_
     refine zge I 0 182 (fun Al W I => (HL W _ (I.box 0 182 _)).out) fun Al V Iv _ _ kz => ?_
     rintro _ W ⟨v34, hR34, p34, c34, rfl, o34, hO, hB⟩
     refine ⟨_, rfl, kz _ (uS f n way 16) _ hO hB fun I => ?_⟩
     have I := I.ownB base o34
     rw [hM, if_neg hof, if_pos (.inl h3a), if_pos ⟨by omega, hng⟩, hlostm]
     exact zret I fun Al W I => ⟨v34, hR34, p34, c34, rfl, I.fa.1, I.bel, I.boxE 182 _⟩
   by_cases hng : a.v.neg = b.v.neg
   · refine zqd I (fun Al W I => a0i a.v.cls a.v.neg a.p (dig B32 a.v.d).length a.c a.v.pow W) (dTr h3a) fun Al W I => ?_
     refine zqd I (fun Al W I => a0i b.v.cls b.v.neg b.p (dig B32 b.v.d).length b.c b.v.pow W) (dFa h3b) fun Al W I => ?_
     refine zqd I (fun Al W I => a0i a.v.cls a.v.neg a.p (dig B32 a.v.d).length a.c a.v.pow W) (dTr h3a) fun Al W I => ?_
     rw [hM]
     refine zret I (v := fun Al => .agg #[.int .i64 (a.v.cls : Int), .bool a.v.neg, .slice a.p (dig B32 a.v.d).length a.c, .int .i64 a.v.pow]) fun Al W I => ?_
     first | (rw [if_pos hof, hoffm]; exact b0c hk2 rfl I.bel (I.boxE 182 _)) | (rw [if_neg hof, if_pos (.inl h3a), if_neg (fun h => by first | exact h.2 hng | (have := h.1; omega)), if_pos h3a]; exact ⟨a.v, VA, a.p, a.c, rfl, I.fa.1, I.bel, I.boxE 182 _⟩) | (rw [if_neg hof, if_pos (.inr h3b), if_neg (fun h => h3a (by omega)), if_neg h3a]; exact ⟨b.v, VB, b.p, b.c, rfl, I.fa.2.1, I.bel, I.boxE 182 _⟩)
   refine zqd I (fun Al W I => a0i a.v.cls a.v.neg a.p (dig B32 a.v.d).length a.c a.v.pow W) (dTr h3a) fun Al W I => ?_
   refine zqd I (fun Al W I => a0i b.v.cls b.v.neg b.p (dig B32 b.v.d).length b.c b.v.pow W) (dFa h3b) fun Al W I => ?_
   refine zqd I (fun Al W I => a0i a.v.cls a.v.neg a.p (dig B32 a.v.d).length a.c a.v.pow W) (dTr h3a) fun Al W I => ?_
   rw [hM]
   refine zret I (v := fun Al => .agg #[.int .i64 (a.v.cls : Int), .bool a.v.neg, .slice a.p (dig B32 a.v.d).length a.c, .int .i64 a.v.pow]) fun Al W I => ?_
   first | (rw [if_pos hof, hoffm]; exact b0c hk2 rfl I.bel (I.boxE 182 _)) | (rw [if_neg hof, if_pos (.inl h3a), if_neg (fun h => by first | exact h.2 hng | (have := h.1; omega)), if_pos h3a]; exact ⟨a.v, VA, a.p, a.c, rfl, I.fa.1, I.bel, I.boxE 182 _⟩) | (rw [if_neg hof, if_pos (.inr h3b), if_neg (fun h => h3a (by omega)), if_neg h3a]; exact ⟨b.v, VB, b.p, b.c, rfl, I.fa.2.1, I.bel, I.boxE 182 _⟩)
 by_cases h3b : b.v.cls = 3
 · by_cases hng : a.v.neg = b.v.neg
   · refine zqd I (fun Al W I => a0i a.v.cls a.v.neg a.p (dig B32 a.v.d).length a.c a.v.pow W) (dFa h3a) fun Al W I => ?_
     refine zqd I (fun Al W I => a0i a.v.cls a.v.neg a.p (dig B32 a.v.d).length a.c a.v.pow W) (dFa h3a) fun Al W I => ?_
     refine zqd I (fun Al W I => a0i b.v.cls b.v.neg b.p (dig B32 b.v.d).length b.c b.v.pow W) (dTr h3b) fun Al W I => ?_
     rw [hM]
     refine zret I (v := fun Al => .agg #[.int .i64 (b.v.cls : Int), .bool b.v.neg, .slice b.p (dig B32 b.v.d).length b.c, .int .i64 b.v.pow]) fun Al W I => ?_
     first | (rw [if_pos hof, hoffm]; exact b0c hk2 rfl I.bel (I.boxE 182 _)) | (rw [if_neg hof, if_pos (.inl h3a), if_neg (fun h => by first | exact h.2 hng | (have := h.1; omega)), if_pos h3a]; exact ⟨a.v, VA, a.p, a.c, rfl, I.fa.1, I.bel, I.boxE 182 _⟩) | (rw [if_neg hof, if_pos (.inr h3b), if_neg (fun h => h3a (by omega)), if_neg h3a]; exact ⟨b.v, VB, b.p, b.c, rfl, I.fa.2.1, I.bel, I.boxE 182 _⟩)
   refine zqd I (fun Al W I => a0i a.v.cls a.v.neg a.p (dig B32 a.v.d).length a.c a.v.pow W) (dFa h3a) fun Al W I => ?_
   refine zqd I (fun Al W I => a0i a.v.cls a.v.neg a.p (dig B32 a.v.d).length a.c a.v.pow W) (dFa h3a) fun Al W I => ?_
   refine zqd I (fun Al W I => a0i b.v.cls b.v.neg b.p (dig B32 b.v.d).length b.c b.v.pow W) (dTr h3b) fun Al W I => ?_
   rw [hM]
   refine zret I (v := fun Al => .agg #[.int .i64 (b.v.cls : Int), .bool b.v.neg, .slice b.p (dig B32 b.v.d).length b.c, .int .i64 b.v.pow]) fun Al W I => ?_
   first | (rw [if_pos hof, hoffm]; exact b0c hk2 rfl I.bel (I.boxE 182 _)) | (rw [if_neg hof, if_pos (.inl h3a), if_neg (fun h => by first | exact h.2 hng | (have := h.1; omega)), if_pos h3a]; exact ⟨a.v, VA, a.p, a.c, rfl, I.fa.1, I.bel, I.boxE 182 _⟩) | (rw [if_neg hof, if_pos (.inr h3b), if_neg (fun h => h3a (by omega)), if_neg h3a]; exact ⟨b.v, VB, b.p, b.c, rfl, I.fa.2.1, I.bel, I.boxE 182 _⟩)
 by_cases hng : a.v.neg = b.v.neg
 · refine zqd I (fun Al W I => a0i a.v.cls a.v.neg a.p (dig B32 a.v.d).length a.c a.v.pow W) (dFa h3a) fun Al W I => ?_
   refine zqd I (fun Al W I => a0i a.v.cls a.v.neg a.p (dig B32 a.v.d).length a.c a.v.pow W) (dFa h3a) fun Al W I => ?_
   refine zqd I (fun Al W I => a0i b.v.cls b.v.neg b.p (dig B32 b.v.d).length b.c b.v.pow W) (dFa h3b) fun Al W I => ?_
   refine zd [0, 3] I fun Al W I => ?_
   refine zk [0, 1, 2, 4, 5, 7, 8, 9, 10] I fun I => ?_
   refine zo 3 I fun I => ?_
   refine zg I (fun Al W I => (HA W _ (I.box 0 182 _) I.fa.1 I.fa.2.2.1).out) fun Al V Iv _ hB _ kz => ?_
   rintro _ W ⟨p46, c46, rfl, o46, hb⟩
   refine ⟨_, rfl, kz _ _ hb fun I => ?_⟩
   have I := I.ownB base o46
   refine zo 6 I fun I => ?_
   refine zg I (fun Al W I => (HB W _ (I.box 0 182 _) I.fa.2.2.1 I.fa.2.2.2.1).out) fun Al V Iv _ hB _ kz => ?_
   rintro _ W ⟨p49, c49, rfl, o49, hb⟩
   refine ⟨_, rfl, kz _ _ hb fun I => ?_⟩
   have I := I.ownB base o49
   refine zo 11 I fun I => ?_
   refine zge I 0 182 (fun Al W I => have hzW := I.bel.size; (HS W p46 p49 c46 c49 _ _ (I.box 0 182 _) I.fa.2.1 I.fa.1 (by omega) I.fa.2.2.2.2.1).out) fun Al V Iv _ _ kz => ?_
   rintro _ W ⟨v54, hR54, p54, c54, rfl, o54, hO, hB⟩
   refine ⟨_, rfl, kz _ (uS f n way (flS : Int)) _ hO hB fun I => ?_⟩
   have I := I.ownB base o54
   refine zo 12 I fun I => ?_
   refine zn I fun Al W I => ?_
   rw [hM, if_neg hof, if_neg (by rintro (h | h); exact h3a h; exact h3b h)]
   exact zret I fun Al W I => ⟨v54, hR54, p54, c54, rfl, I.fa.1, I.bel, I.boxE 182 _⟩
 refine zqd I (fun Al W I => a0i a.v.cls a.v.neg a.p (dig B32 a.v.d).length a.c a.v.pow W) (dFa h3a) fun Al W I => ?_
 refine zqd I (fun Al W I => a0i a.v.cls a.v.neg a.p (dig B32 a.v.d).length a.c a.v.pow W) (dFa h3a) fun Al W I => ?_
 refine zqd I (fun Al W I => a0i b.v.cls b.v.neg b.p (dig B32 b.v.d).length b.c b.v.pow W) (dFa h3b) fun Al W I => ?_
 refine zd [0, 3] I fun Al W I => ?_
 refine zk [0, 1, 2, 4, 5, 7, 8, 9, 10] I fun I => ?_
 refine zo 3 I fun I => ?_
 refine zg I (fun Al W I => (HA W _ (I.box 0 182 _) I.fa.1 I.fa.2.2.1).out) fun Al V Iv _ hB _ kz => ?_
 rintro _ W ⟨p46, c46, rfl, o46, hb⟩
 refine ⟨_, rfl, kz _ _ hb fun I => ?_⟩
 have I := I.ownB base o46
 refine zo 6 I fun I => ?_
 refine zg I (fun Al W I => (HB W _ (I.box 0 182 _) I.fa.2.2.1 I.fa.2.2.2.1).out) fun Al V Iv _ hB _ kz => ?_
 rintro _ W ⟨p49, c49, rfl, o49, hb⟩
 refine ⟨_, rfl, kz _ _ hb fun I => ?_⟩
 have I := I.ownB base o49
 refine zo 11 I fun I => ?_
 refine zge I 0 182 (fun Al W I => have hzW := I.bel.size; (HS W p46 p49 c46 c49 _ _ (I.box 0 182 _) I.fa.2.1 I.fa.1 (by omega) I.fa.2.2.2.2.1).out) fun Al V Iv _ _ kz => ?_
 rintro _ W ⟨v54, hR54, p54, c54, rfl, o54, hO, hB⟩
 refine ⟨_, rfl, kz _ (uS f n way (flS : Int)) _ hO hB fun I => ?_⟩
 have I := I.ownB base o54
 refine zo 12 I fun I => ?_
 refine zn I fun Al W I => ?_
 rw [hM, if_neg hof, if_neg (by rintro (h | h); exact h3a h; exact h3b h)]
 exact zret I fun Al W I => ⟨v54, hR54, p54, c54, rfl, I.fa.1, I.bel, I.boxE 182 _⟩
theorem t0v (n : Int) (w : World) : Calls Tryz.prog 43 #[.int .i64 n] w fun en w' => en = .returned (.tuple #[.agg #[.int .i64 (fmt n).g.rad, .int .i64 (fmt n).g.digs, .int .i64 (fmt n).g.lo, .int .i64 (fmt n).g.hi, .bool (fmt n).g.grad], .int .i64 (o0c n)]) ∧ Below w.heap.size w w' := by
 by_cases hn : IsFm n
 · have h0 : o0c n = 0 := by unfold o0c; rw [if_pos hn]
   rw [h0]
   have HF := fun W => hi0 (k0m n hn W)
   generalize fmt n = f at *
   have I := Inv.start w [] True.intro
   refine a0d [.v (.int .i64 n)] I Tryz.func43 ?_
   refine zq I (fun Al W I => (HF W).out) fun Al W I => ?_
   exact zrb I
 · have h0 : o0c n = 6 := by unfold o0c; rw [if_neg hn]
   rw [h0, d1g hn]
   have HF := fun W => hi0 (n0w n hn W)
   have I := Inv.start w [] True.intro
   refine a0d [.v (.int .i64 n)] I Tryz.func43 ?_
   refine zq I (fun Al W I => (HF W).out) fun Al W I => ?_
   exact zrb I
theorem x0s (n way : Int) (w : World) (h : ¬ (IsFm n ∧ 1 ≤ way ∧ way ≤ 5)) : Calls Tryz.prog 63 #[.int .i64 n, .int .i64 way] w fun en w' => en = .returned (.tuple #[.pointer none, .int .i64 6]) ∧ Below w.heap.size w w' := by
 have HG := fun W => hi0 (t0v n W)
 by_cases hn : IsFm n
 · have he : o0c n = 0 := by unfold o0c; rw [if_pos hn]
   have h' : way < 1 ∨ 5 < way := by by_cases k : 1 ≤ way ∧ way ≤ 5; exact absurd ⟨hn, k⟩ h; omega
   rw [he] at HG
   generalize fmt n = f at *
   have I := Inv.start w [] True.intro
   refine a0d [.v (.int .i64 n), .v (.int .i64 way)] I Tryz.func63 ?_
   refine zq I (fun Al W I => (HG W).out) fun Al W I => ?_
   by_cases h1 : way < 1
   · refine zb I 18 (decide (way < 1)) (true) (dTr h1) fun Al W I => ?_
     exact zrb I
   refine zb I 18 (decide (way < 1)) (false) (dFa h1) fun Al W I => ?_
   refine zb I 21 (decide (way > 5)) (true) (dTr (by omega)) fun Al W I => ?_
   exact zrb I
 · have he : o0c n = 6 := by unfold o0c; rw [if_neg hn]
   rw [he] at HG
   generalize fmt n = f at *
   have I := Inv.start w [] True.intro
   refine a0d [.v (.int .i64 n), .v (.int .i64 way)] I Tryz.func63 ?_
   refine zq I (fun Al W I => (HG W).out) fun Al W I => ?_
   exact zrb I
def o0s (f : Fm) (n way : Int) (w : World) (en : Ending) (w' : World) : Prop :=
 ∃ u, en = .returned (.tuple #[.pointer (some ⟨u, 0, none⟩), .int .i64 0]) ∧ w.heap.size ≤ u ∧ Bt w' u 182 #[.int .i64 n, .int .i64 way, .int .i64 f.g.rad, .int .i64 f.g.digs, .int .i64 f.g.lo, .int .i64 f.g.hi, .bool f.g.grad, .int .u8 (famB f), .int .i64 0] ∧ Below w.heap.size w w'
theorem w0a (n way : Int) (w : World) (hn : IsFm n) (hw : 1 ≤ way ∧ way ≤ 5) : Calls Tryz.prog 63 #[.int .i64 n, .int .i64 way] w (o0s (fmt n) n way w) := by
 have HG := fun W => hi0 (t0v n W)
 have he : o0c n = 0 := by unfold o0c; rw [if_pos hn]
 rw [he] at HG
 have G := b0z hn
 generalize fmt n = f at *
 have hrad := G.rad
 have hgr := G.grad
 by_cases f2 : f.fam = 2
 · have hBf : famB f = 66 := by unfold famB; rw [if_neg (by omega), if_pos f2]
   rw [if_pos f2] at hrad
   have I := Inv.start w [] True.intro
   refine a0d [.v (.int .i64 n), .v (.int .i64 way)] I Tryz.func63 ?_
   refine zq I (fun Al W I => (HG W).out) fun Al W I => ?_
   refine zb I 18 (decide (way < 1)) (false) (dFa (by omega)) fun Al W I => ?_
   refine zb I 21 (decide (way > 5)) (false) (dFa (by omega)) fun Al W I => ?_
   refine zb I 31 (f.g.rad == 16) (true) (beq_iff_eq.2 hrad) fun Al W I => ?_
   exact zret I (v := fun Al => .tuple #[.pointer (some ⟨(lk 0 Al 1), 0, none⟩), .int .i64 0]) fun Al W I => ⟨_, rfl, (I.geB 1), by rw [hBf]; exact (I.box 1 182 _), I.below⟩
 · rw [if_neg f2] at hrad
   by_cases f1 : f.fam = 1
   · have hBf : famB f = 65 := by unfold famB; rw [if_pos f1]
     rw [decide_eq_true f1] at hgr
     unfold o0s
     rw [hBf, hgr]
     simp only [hgr] at HG
     have I := Inv.start w [] True.intro
     refine a0d [.v (.int .i64 n), .v (.int .i64 way)] I Tryz.func63 ?_
     refine zq I (fun Al W I => (HG W).out) fun Al W I => ?_
     refine zb I 18 (decide (way < 1)) (false) (dFa (by omega)) fun Al W I => ?_
     refine zb I 21 (decide (way > 5)) (false) (dFa (by omega)) fun Al W I => ?_
     refine zb I 31 (f.g.rad == 16) (false) (bFn (by omega)) fun Al W I => ?_
     exact zret I fun Al W I => ⟨_, rfl, (I.geB 1), (I.box 1 182 _), I.below⟩
   · have hBf : famB f = 67 := by unfold famB; rw [if_neg f1, if_neg f2]
     rw [decide_eq_false f1] at hgr
     unfold o0s
     rw [hBf, hgr]
     simp only [hgr] at HG
     have I := Inv.start w [] True.intro
     refine a0d [.v (.int .i64 n), .v (.int .i64 way)] I Tryz.func63 ?_
     refine zq I (fun Al W I => (HG W).out) fun Al W I => ?_
     refine zb I 18 (decide (way < 1)) (false) (dFa (by omega)) fun Al W I => ?_
     refine zb I 21 (decide (way > 5)) (false) (dFa (by omega)) fun Al W I => ?_
     refine zb I 31 (f.g.rad == 16) (false) (bFn (by omega)) fun Al W I => ?_
     exact zret I fun Al W I => ⟨_, rfl, (I.geB 1), (I.box 1 182 _), I.below⟩
theorem n1z (n way fl : Int) (a : Vp) (r : Vr) (base u : Nat) (w : World) (U : Bt w u 182 #[.int .i64 n, .int .i64 way, .int .i64 (fmt n).g.rad, .int .i64 (fmt n).g.digs, .int .i64 (fmt n).g.lo, .int .i64 (fmt n).g.hi, .bool (fmt n).g.grad, .int .u8 (famB (fmt n)), .int .i64 fl]) (oa : Own w base .u32 141 a.p a.c (dig B32 a.v.d)) (hn : IsFm n) (V : VRep (fmt n) a.v r) (R : ResF (fmt n) r) (hT : TabW w) :
 Calls Tryz.prog 68 #[.pointer (some ⟨u, 0, none⟩), .agg #[.int .i64 (a.v.cls : Int), .bool a.v.neg, .slice a.p (dig B32 a.v.d).length a.c, .int .i64 a.v.pow]] w fun en w' => en = .returned (.tuple #[.string (b0l ((fmt n).strP ((fmt n).encP r.cls r.neg r.x))), .int .i64 fl, .int .i64 0]) ∧ Below w.heap.size w w' := by
 have HE := fun W (h1 : Own W base .u32 141 a.p a.c (dig B32 a.v.d)) h2 => hi0 (z0h n (a.v.cls : Int) (dinV a.v a.p a.c) W (k1u h1 V.len) h2)
 obtain ⟨e1, e2⟩ := n1u R V a.p a.c
 unfold v0x t0s at HE
 rw [if_pos hn, e1, e2] at HE
 simp only [if_true] at HE
 have HE2 : ∀ W, Own W base .u32 141 a.p a.c (dig B32 a.v.d) → TabW W → Hid (Calls Tryz.prog 42 #[.int .i64 n, .agg #[.int .i64 (a.v.cls : Int), .bool a.v.neg, .slice a.p (dig B32 a.v.d).length a.c, .int .i64 a.v.pow]] W fun en w' => en = .returned (.tuple #[.string (b0l ((fmt n).strP ((fmt n).encP r.cls r.neg r.x))), .int .i64 0]) ∧ Below W.heap.size W w') := HE
 clear HE e1 e2 V R
 generalize b0l ((fmt n).strP ((fmt n).encP r.cls r.neg r.x)) = s at *
 generalize fmt n = f at *
 have I := Inv.startR w [u] [⟨182, (uS f n way fl), true⟩] [ownF base .u32 141 a.p a.c (dig B32 a.v.d), tabF] ⟨U, True.intro⟩ ⟨oa, hT, True.intro⟩
 refine a0d [.p 0 0, .v (.agg #[.int .i64 (a.v.cls : Int), .bool a.v.neg, .slice a.p (dig B32 a.v.d).length a.c, .int .i64 a.v.pow])] I Tryz.func68 ?_
 refine zd [] I fun Al W I => ?_
 refine zk [0, 1, 2, 3, 4] I fun I => ?_
 refine zo 5 I fun I => ?_
 refine zq I (fun Al W I => (HE2 W I.fa.1 I.fa.2.1).out) fun Al W I => ?_
 refine zk [6, 7, 8, 9, 10] I fun I => ?_
 refine zd [] I fun Al W I => ?_
 refine zk [0, 1, 2, 3, 4, 5, 6, 7] I fun I => ?_
 exact zrb I
end Go.Proofs.YtmacohmclpnphaaGreatDoor
namespace Go.Slip
open Go.RowKit
theorem i0g {P : Program} {w : World} {b : Nat} {t : TypeId} {vs : Array Value} (h : Bt w b t vs) {ty : TypeId} (hT : d0i P ty) {m : Nat} (v : Value) (hv : vs[m]? = some v) : (VO.ld ty (.pointer (some (at_ (some ⟨b, 0, none⟩) m)))).sem.run P w = .ok v w := by
 have := u0w h hT m v hv
 show (Instr.loadAt _ _).run P w = _
 unfold at_
 simpa using this
end Go.Slip
namespace Go.Proofs.YtmacohmclpnphaaGreatDoor
open Go.RowKit Go.Slip
def z0k (b : Nat) (xs : List Vp) : PF :=
 ⟨fun w => ∀ x, x ∈ xs → Own w b .u32 141 x.p x.c (dig B32 x.v.d), fun a => ∃ x, x ∈ xs ∧ x.p.isSome = true ∧ blk x.p = a, fun _ _ h hb _ x hx => (h x hx).same fun hp => hb _ ((h x hx).blk_lt hp).2 ⟨x, hx, hp, rfl⟩, fun _ _ h ⟨x, hx, hp, hf⟩ => hf ▸ ((h x hx).blk_lt hp).2⟩
theorem e1a {w : World} {b : Nat} {xs : List Vp} {v : Vl} {p : Option Addr} {c : Nat} (h : ∀ x, x ∈ xs → Own w b .u32 141 x.p x.c (dig B32 x.v.d)) (o : Own w b .u32 141 p c (dig B32 v.d)) : ∀ x, x ∈ xs ++ [⟨v, p, c⟩] → Own w b .u32 141 x.p x.c (dig B32 x.v.d) := fun x hx => by
 rw [List.mem_append, List.mem_singleton] at hx
 rcases hx with hx | rfl
 · exact h x hx
 · exact o
theorem g1z {b a : Nat} {xs : List Vp} {v : Vl} {p : Option Addr} {c : Nat} (h : (z0k b (xs ++ [⟨v, p, c⟩])).foot a) (h1 : ∀ x, (x ∈ xs ∧ x.p.isSome = true ∧ blk x.p = a) → False) (h2 : p.isSome = true → blk p = a → False) : False := by
 obtain ⟨x, hx, h3, h4⟩ := h
 rw [List.mem_append, List.mem_singleton] at hx
 rcases hx with hx | rfl
 · exact h1 x ⟨hx, h3, h4⟩
 · exact h2 h3 h4
theorem z0l : g0s Tryz.prog 96 9 (.string ByteArray.empty) 16 := tyV (by kernel_rfl) (by kernel_rfl) (by omega) rfl rfl
theorem z0m : d0i Tryz.prog 9 := c0d (by kernel_rfl) (by kernel_rfl)
def errL (n : Int) : List ByteArray → Int
 | [] => 0
 | s :: r => if a0x n s = 0 then errL n r else a0x n s
theorem w0b (n : Int) : ∀ (L : List ByteArray), errL n L ≠ 0 → ∃ (j : Nat) (s : ByteArray), L[j]? = some s ∧ errL n L = a0x n s ∧ a0x n s ≠ 0 ∧ ∀ i t, i < j → L[i]? = some t → a0x n t = 0
 | [], h => absurd rfl h
 | s :: r, h => by
  unfold errL at h ⊢
  by_cases hs : a0x n s = 0
  · rw [if_pos hs] at h ⊢
    obtain ⟨j, t, h1, h2, h3, h4⟩ := w0b n r h
    refine ⟨j + 1, t, by simpa using h1, h2, h3, fun i u hi hu => ?_⟩
    cases i with
    | zero => simp only [List.getElem?_cons_zero, Option.some.injEq] at hu; rw [← hu]; exact hs
    | succ i => exact h4 i u (by omega) (by simpa using hu)
  · rw [if_neg hs]
    exact ⟨0, s, rfl, rfl, hs, fun i t hi => by omega⟩
theorem f0r (n : Int) : ∀ {L : List ByteArray}, errL n L = 0 → ∀ s, s ∈ L → a0x n s = 0
 | [], _, s, h => by simp at h
 | t :: r, h, s, hs => by
  unfold errL at h
  by_cases ht : a0x n t = 0
  · rw [if_pos ht] at h
    rcases List.mem_cons.1 hs with rfl | hs
    · exact ht
    · exact f0r n h s hs
  · rw [if_neg ht] at h
    exact absurd h ht
def l1a (n : Int) (w : World) (L : List ByteArray) (en : Ending) (w' : World) : Prop :=
 ∃ (xs : List Vp) (vs : List Value) (p : Option Addr) (c : Nat), en = .returned (.tuple #[.slice p L.length c, .int .i64 0]) ∧ xs.map (·.v) = L.map (decP n) ∧ vs = xs.flatMap Vp.cells ∧ OwnS w' w.heap.size 75 4 p c L.length vs ∧ (∀ x, x ∈ xs → Own w' w.heap.size .u32 141 x.p x.c (dig B32 x.v.d)) ∧ Below w.heap.size w w'
theorem x0t (n way fl : Int) (L : List ByteArray) (b m u : Nat) (w : World) (U : Bt w u 182 #[.int .i64 n, .int .i64 way, .int .i64 (fmt n).g.rad, .int .i64 (fmt n).g.digs, .int .i64 (fmt n).g.lo, .int .i64 (fmt n).g.hi, .bool (fmt n).g.grad, .int .u8 (famB (fmt n)), .int .i64 fl]) (hB0 : Bt w b 9 (L.map Value.string).toArray) (hm : m = L.length) (hl : L.length ≤ 1000) (h0 : errL n L = 0) (hT : TabW w) :
 Calls Tryz.prog 113 #[.pointer (some ⟨u, 0, none⟩), .slice (some ⟨b, 0, none⟩) m m] w (l1a n w L) := by
 subst hm
 have HX : ∀ i, i < L.length → ∃ s : ByteArray, L[i]? = some s ∧ a0x n s = 0 ∧ (L.map Value.string).toArray[i]? = some (.string s) ∧ L.take (i + 1) = L.take i ++ [s] := fun i h => ⟨L[i], List.getElem?_eq_getElem h, f0r n h0 _ (List.getElem_mem h), by simp [h], by rw [List.take_add_one, List.getElem?_eq_getElem h]; rfl⟩
 have HD := fun s W h => hi0 (p0w n s W h)
 generalize fmt n = f at *
 have I := Inv.startW w u 182 (uS f n way fl) [btF b 9 (L.map Value.string).toArray, tabF] U ⟨hB0, hT, True.intro⟩ ⟨fun hf => hB0.far U (by kernel_rfl) hf, fun hf => hT.far U (by kernel_rfl) hf, True.intro⟩
 refine a0d [.p 0 0, .v (.slice (some ⟨b, 0, none⟩) L.length L.length)] I Tryz.func113 ?_
 have I := I.add (h0p w.heap.size 75 4 none 0 0 []) (OwnS.nil _ _ _ _) (fun _ _ h => by cases h.1)
 have I := I.add (z0k w.heap.size []) (fun _ h => by cases h) (fun _ _ ⟨_, h, _⟩ => by cases h)
 refine o0w I (fun gk fr bx gs => ∃ (U900 : Nat → Value) (i : Nat) (p6 : Option Addr) (c6 : Nat) (xs : List Vp) (vs : List Value), fr = (.p 0 0 :: .v (.slice (some ⟨b, 0, none⟩) L.length L.length) :: su 2 (sw U900 4 2 (.v (.slice p6 i c6) :: .v undef :: sw U900 8 3 (.v (.slice (some ⟨b, 0, none⟩) L.length L.length) :: .v (.int .i64 (L.length : Int)) :: .v (.int .i64 (i : Int)) :: sw U900 14 21 []))) : List SV) ∧ bx = [⟨182, (uS f n way fl), false⟩] ∧ gs = [z0k w.heap.size xs, h0p w.heap.size 75 4 p6 c6 i vs, btF b 9 (L.map Value.string).toArray, tabF] ∧ (gk + i = L.length) ∧ (vs = xs.flatMap Vp.cells) ∧ (xs.map (·.v) = (L.take i).map (decP n))) L.length (fun Al W U I => ⟨_, ⟨U, 0, none, 0, [], [], rfl, rfl, rfl, (by omega), rfl, rfl⟩, I.pick [0, 1, 2, 3]⟩) ?_
 rintro J gk0 _ _ _ ⟨U900, i, p6, c6, xs, vs, rfl, rfl, rfl, hgk, hvs, hxs⟩ hJ Al W I
 rcases Bool.eq_false_or_eq_true (decide ((i : Int) < (L.length : Int))) with f14 | f14
 · refine zb I 14 (decide ((i : Int) < (L.length : Int))) (true) (f14) fun Al W I => ?_
   obtain ⟨s, hs, hse, hsv, hst⟩ := HX i (by have := oTr f14; omega)
   refine zx I 15 (fun _ => .pointer (some (at_ (some ⟨b, 0, none⟩) i))) (fun Al W I => (i0a (m := i) (n := L.length) (c := L.length) z0l (fun _ => ⟨rfl, rfl⟩) (by have := oTr f14; omega))) fun Al W I => ?_
   refine zx I 16 (fun _ => .string s) (fun Al W I => (i0g I.fa.2.2.1 z0m _ hsv)) fun Al W I => ?_
   refine zqo I (fun Al W I => (HD s W I.fa.2.2.2.1).out) fun Al W p23 c23 I => ?_
   refine zb I 27 ((a0x n s) != 0) (false) (bne_eq_false_iff_eq.2 hse) fun Al W I => ?_
   have I := I.pick [2, 0, 1, 3, 4]
   refine zap I v0y 2 1 (fun Al => [.int .i64 (((decP n s).cls : Nat) : Int), .bool ((decP n s).neg), .slice p23 (dig B32 (decP n s).d).length c23, .int .i64 ((decP n s).pow)]) (fun Al W I => I.box 2 75 _) (by omega) (fun Al W I hp => ⟨I.fa.1.apart I.fa.2.1 (by kernel_rfl) hp, fun ⟨x, hx, h⟩ => I.fa.1.apart (I.fa.2.2.1 x hx) (by kernel_rfl) hp h, fun e => I.fa.1.far I.fa.2.2.2.1 (by kernel_rfl) hp (Eq.symm e), fun e => by have h1 := (I.fa.1.blk_lt hp).1; have h2 := hT.2; have e : 0 = _ := e; omega, True.intro⟩) fun Al W p32 c32 hq_32 I => ?_
   have I := I.add (z0k w.heap.size (xs ++ [(⟨decP n s, p23, c23⟩ : Vp)])) (e1a I.fa.2.2.1 I.fa.2.1) (fun a ha h => g1z h ((fun a ha h0 e => (I.far a ha).2.2.1 ⟨h0, e⟩) a ha) ((fun a ha h0 e => (I.far a ha).2.1 ⟨h0, e⟩) a ha))
   refine zi I 33 .i64 ((i : Int) + 1) (((i + 1 : Nat) : Int)) ((by rw [show ((i : Int) + 1) = ((i + 1 : Nat) : Int) by omega]; exact IntWalk.i64_in _ (by have := oTr f14; omega))) fun Al W I => ?_
   exact o0p 1 I J fun Al W U I => hJ (gk0 - 1) _ _ _ _ _ ((by have := oTr f14; omega)) ⟨U, i + 1, p32, c32, xs ++ [(⟨decP n s, p23, c23⟩ : Vp)], _, rfl, rfl, rfl, (by have := oTr f14; omega), (by rw [hvs, List.flatMap_append]; rfl), (by rw [hst, List.map_append, List.map_append, hxs]; rfl)⟩ (I.pick [0, 1, 4, 5])
 refine zb I 14 (decide ((i : Int) < (L.length : Int))) (false) (f14) fun Al W I => ?_
 have hi : i = L.length := by have := oFa f14; omega
 exact zret I (v := fun Al => .tuple #[.slice p6 i c6, .int .i64 0]) fun Al W I => ⟨xs, vs, p6, c6, by rw [hi], by rw [hxs, hi, List.take_length], hvs, hi ▸ I.fa.2.1, I.fa.1, I.bel.toBelow U (I.boxE 182 _)⟩
theorem _root_.Go.Slip.Inv.ownl {E : List Nat} {w0 : World} {A : List Nat} {bx : List Box} {fs : List PF} {W : World} (I : Inv E w0 A bx fs W) {b : Nat} {xs : List Vp} (o : ∀ x, x ∈ xs → Own W b .u32 141 x.p x.c (dig B32 x.v.d)) (hb : w0.heap.size ≤ b := by first | exact Nat.le_refl _ | assumption | omega) (hne : r0g 141 bx = true := by kernel_rfl) :
 Inv E w0 A bx (z0k w0.heap.size xs :: fs) W :=
 I.add (z0k w0.heap.size xs) (fun x hx => (o x hx).mono hb) fun a ha ⟨x, hx, hf1, hf2⟩ => by
  obtain ⟨j, hj, _, rfl⟩ := ha
  exact (o x hx).far (I.bt j hj) (g0t hne j hj) hf1 hf2
theorem t0w (n way fl : Int) (L : List ByteArray) (b m u : Nat) (w : World) (U : Bt w u 182 #[.int .i64 n, .int .i64 way, .int .i64 (fmt n).g.rad, .int .i64 (fmt n).g.digs, .int .i64 (fmt n).g.lo, .int .i64 (fmt n).g.hi, .bool (fmt n).g.grad, .int .u8 (famB (fmt n)), .int .i64 fl]) (hB0 : Bt w b 9 (L.map Value.string).toArray) (hm : m = L.length) (hl : L.length ≤ 1000) (h0 : errL n L ≠ 0) (hT : TabW w) :
 Calls Tryz.prog 113 #[.pointer (some ⟨u, 0, none⟩), .slice (some ⟨b, 0, none⟩) m m] w fun en w' => en = .returned (.tuple #[.slice none 0 0, .int .i64 (errL n L)]) ∧ Below w.heap.size w w' := by
 subst hm
 obtain ⟨j, sj, hj, he, hne, hlt⟩ := w0b n L h0
 have hjl : j < L.length := (List.getElem?_eq_some_iff.1 hj).1
 rw [he]
 have HX : ∀ i, i < L.length → ∃ s : ByteArray, (L.map Value.string).toArray[i]? = some (.string s) ∧ (i < j → a0x n s = 0) ∧ (i = j → a0x n s = a0x n sj) := fun i h => ⟨L[i], by simp [h], fun k => hlt i _ k (List.getElem?_eq_getElem h), fun k => by subst k; rw [List.getElem?_eq_getElem h] at hj; cases hj; rfl⟩
 have HD := fun s W h => hi0 (p0w n s W h)
 clear he h0 hlt hj
 generalize a0x n sj = er at *
 generalize fmt n = f at *
 have I := Inv.startW w u 182 (uS f n way fl) [btF b 9 (L.map Value.string).toArray, tabF] U ⟨hB0, hT, True.intro⟩ ⟨fun hf => hB0.far U (by kernel_rfl) hf, fun hf => hT.far U (by kernel_rfl) hf, True.intro⟩
 refine a0d [.p 0 0, .v (.slice (some ⟨b, 0, none⟩) L.length L.length)] I Tryz.func113 ?_
 have I := I.add (h0p w.heap.size 75 4 none 0 0 []) (OwnS.nil _ _ _ _) (fun _ _ h => by cases h.1)
 refine o0w I (fun gk fr bx gs => ∃ (U900 : Nat → Value) (i : Nat) (p6 : Option Addr) (c6 : Nat) (vs : List Value), fr = (.p 0 0 :: .v (.slice (some ⟨b, 0, none⟩) L.length L.length) :: su 2 (sw U900 4 2 (.v (.slice p6 i c6) :: .v undef :: sw U900 8 3 (.v (.slice (some ⟨b, 0, none⟩) L.length L.length) :: .v (.int .i64 (L.length : Int)) :: .v (.int .i64 (i : Int)) :: sw U900 14 21 []))) : List SV) ∧ bx = [⟨182, (uS f n way fl), false⟩] ∧ gs = [h0p w.heap.size 75 4 p6 c6 i vs, btF b 9 (L.map Value.string).toArray, tabF] ∧ (gk + i = L.length) ∧ (i ≤ j)) L.length (fun Al W U I => ⟨_, ⟨U, 0, none, 0, [], rfl, rfl, rfl, (by omega), (by omega)⟩, I.pick [0, 1, 2]⟩) ?_
 rintro J gk0 _ _ _ ⟨U900, i, p6, c6, vs, rfl, rfl, rfl, hgk, hij⟩ hJ Al W I
 rcases Bool.eq_false_or_eq_true (decide ((i : Int) < (L.length : Int))) with f14 | f14
 · refine zb I 14 (decide ((i : Int) < (L.length : Int))) (true) (f14) fun Al W I => ?_
   obtain ⟨s, hsv, hs0, hse⟩ := HX i (by have := oTr f14; omega)
   refine zx I 15 (fun _ => .pointer (some (at_ (some ⟨b, 0, none⟩) i))) (fun Al W I => (i0a (m := i) (n := L.length) (c := L.length) z0l (fun _ => ⟨rfl, rfl⟩) (by have := oTr f14; omega))) fun Al W I => ?_
   refine zx I 16 (fun _ => .string s) (fun Al W I => (i0g I.fa.2.1 z0m _ hsv)) fun Al W I => ?_
   refine zqo I (fun Al W I => (HD s W I.fa.2.2.1).out) fun Al W p23 c23 I => ?_
   by_cases hij2 : i = j
   · refine zb I 27 ((a0x n s) != 0) (true) (bne_iff_ne.2 (by rw [hse hij2]; exact hne)) fun Al W I => ?_
     exact zret I (v := fun Al => .tuple #[.slice none 0 0, .int .i64 (a0x n s)]) fun Al W I => ⟨by rw [hse hij2], I.bel.toBelow U (I.boxE 182 _)⟩
   refine zb I 27 ((a0x n s) != 0) (false) (bne_eq_false_iff_eq.2 (hs0 (by omega))) fun Al W I => ?_
   have I := I.pick [1, 0, 2, 3]
   refine zap I v0y 2 1 (fun Al => [.int .i64 (((decP n s).cls : Nat) : Int), .bool ((decP n s).neg), .slice p23 (dig B32 (decP n s).d).length c23, .int .i64 ((decP n s).pow)]) (fun Al W I => I.box 2 75 _) (by omega) (fun Al W I hp => ⟨I.fa.1.apart I.fa.2.1 (by kernel_rfl) hp, fun e => I.fa.1.far I.fa.2.2.1 (by kernel_rfl) hp (Eq.symm e), fun e => by have h1 := (I.fa.1.blk_lt hp).1; have h2 := hT.2; have e : 0 = _ := e; omega, True.intro⟩) fun Al W p32 c32 hq_32 I => ?_
   refine zi I 33 .i64 ((i : Int) + 1) (((i + 1 : Nat) : Int)) ((by rw [show ((i : Int) + 1) = ((i + 1 : Nat) : Int) by omega]; exact IntWalk.i64_in _ (by have := oTr f14; omega))) fun Al W I => ?_
   exact o0p 1 I J fun Al W U I => hJ (gk0 - 1) _ _ _ _ _ ((by have := oTr f14; omega)) ⟨U, i + 1, p32, c32, _, rfl, rfl, rfl, (by have := oTr f14; omega), (by omega)⟩ (I.pick [0, 2, 3])
 refine zb I 14 (decide ((i : Int) < (L.length : Int))) (false) (f14) fun Al W I => ?_
 exact zret I (v := fun Al => .tuple #[.slice p6 i c6, .int .i64 0]) fun Al W I => absurd (oFa f14) (by rw [Classical.not_not]; omega)
end Go.Proofs.YtmacohmclpnphaaGreatDoor
namespace Go.Slip
open Go.RowKit
theorem Inv.rdN {E : List Nat} {w0 : World} {A : List Nat} {bx bx' : List Box} {fs fs' : List PF} {W V : World} (I : Inv E w0 A bx fs W) {k : IntKind} {p : Option Addr} {xs : List Nat} (o : Rd W k p xs) (hat : 0 < xs.length → V.heap.size ≤ blk p) (hB : ∀ a, Fa A bx a → Fa A bx' a) (J : Inv E w0 A bx' fs' V) : Inv E w0 A bx (rdF k p xs :: fs) W :=
 I.add (rdF k p xs) o fun a ha hf => by
  have h1 := J.lt a (hB a ha)
  have h2 := hat hf.1
  have h3 := hf.2
  omega
theorem x0u {α : Type} {s : Nat} {f : α → List Value} (hf : ∀ x, (f x).length = s) {xs : List α} {i j : Nat} {x : α} {v : Value} (h : xs[i]? = some x) (hv : (f x)[j]? = some v) : (xs.flatMap f).toArray[i * s + j]? = some v := by
 have h1 := r0y hf h
 have hj := (List.getElem?_eq_some_iff.1 hv).1
 rw [← h1, List.getElem?_take, if_pos hj, List.getElem?_drop] at hv
 simpa using hv
end Go.Slip
namespace Go.Proofs.YtmacohmclpnphaaGreatDoor
open Go.RowKit Go.Slip
structure Wp where
 r : Vr
 p : Option Addr
 c : Nat
def Wp.cells (x : Wp) : List Value := [.int .i64 (x.r.cls : Int), .bool x.r.neg, .bool x.r.x.neg, .slice x.p (dig B16 x.r.x.m).length x.c, .int .i64 x.r.x.e]
theorem Wp.len (x : Wp) : x.cells.length = 5 := rfl
theorem tvV : z0j Tryz.prog 25 32 5 56 := x0p (z := .agg #[.int .i64 0, .bool false, .bool false, .slice none 0 0, .int .i64 0]) (by kernel_rfl) (by kernel_rfl) (by kernel_rfl) (by kernel_rfl) (by kernel_rfl)
theorem agV : d0n Tryz.prog 32 5 := c0c (by kernel_rfl) (by kernel_rfl)
theorem o1a : d0i Tryz.prog 3 := c0d (by kernel_rfl) (by kernel_rfl)
theorem h1a {neg : Bool} {num den : Nat} {e way : Int} {f : Fm} (G : c0i f) (hd : 0 < den) (ho : (a0m neg num den e f.g way).over = false) (hz : ¬ ((a0m neg num den e f.g way).under = true ∧ f.fam ≠ 1 ∧ (a0m neg num den e f.g way).pow < f.g.lo)) :
 -20000 ≤ (a0m neg num den e f.g way).pow ∧ (a0m neg num den e f.g way).pow ≤ 20000 := by
 by_cases h0 : (a0m neg num den e f.g way).d = 0
 · have : (a0m neg num den e f.g way).pow = 0 := by
    unfold a0m at *
    by_cases hn : num = 0
    · rw [if_pos hn]
    · rw [if_neg hn] at *
      generalize theK num den e (wid f.g) f.g.digs.toNat = K at *
      have h0 : digP neg num den e (wid f.g) f.g.digs.toNat way (powK f.g K) = 0 := h0
      show (if digP neg num den e (wid f.g) f.g.digs.toNat way (powK f.g K) = 0 then 0 else powP neg num den e (wid f.g) f.g.digs.toNat way (powK f.g K)) = 0
      rw [if_pos h0]
   omega
 · have V := (l0u G (neg := neg) (num := num) (den := den) (e := e) (way := way) hd).2
   have hl := V.lo
   have hh := V.hi
   have e : f.placedV (a0m neg num den e f.g way) way = ⟨2, (a0m neg num den e f.g way).neg, (a0m neg num den e f.g way).d, (a0m neg num den e f.g way).pow⟩ := by
    unfold Fm.placedV
    rw [if_neg (by rw [ho]; simp), if_neg hz, if_neg h0]
   rw [e] at hl hh
   exact ⟨hl, hh⟩
theorem z0n (a : Dv) (p : Option Addr) (c base : Nat) (w : World) (hp : Rf w base p c (dig B16 a.m)) :
 Calls Tryz.prog 22 #[.agg #[.bool a.neg, .slice p (dig B16 a.m).length c, .int .i64 a.e]] w fun en w' => ∃ q, en = .returned (.agg #[.bool a.neg, .slice p (dig B16 a.m).length c, .slice q 1 1, .int .i64 a.e]) ∧ Rf w' w.heap.size q 1 (dig B16 1) ∧ Below w.heap.size w w' := by
 have I := Inv.start w [rfF base p c (dig B16 a.m)] ⟨hp, True.intro⟩
 refine a0d [.v (.agg #[.bool a.neg, .slice p (dig B16 a.m).length c, .int .i64 a.e])] I Tryz.func22 ?_
 exact zret I fun Al W I => ⟨some ⟨(lk 0 Al 2), 0, none⟩, rfl, (x0k (I.box 2 3 _)).mono (I.geB 2), I.below⟩
theorem r0z (n way : Int) (ng : Bool) (p q : Option Addr) (c d b1 b2 : Nat) (num den : Nat) (e : Int) (w : World) (hn : IsFm n) (hw : 1 ≤ way ∧ way ≤ 5) (hp : Rf w b1 p c (dig B16 num)) (hq : Rf w b2 q d (dig B16 den))
 (hl : (dig B16 num).length ≤ 20000) (hl2 : (dig B16 den).length ≤ 20000) (hd : 0 < den) (he : -200000 ≤ e ∧ e ≤ 200000) :
 Calls Tryz.prog 53 #[.int .i64 n, .agg #[.bool ng, .slice p (dig B16 num).length c, .slice q (dig B16 den).length d, .int .i64 e], .int .i64 way] w (GVf w w.heap.size ((fmt n).placedM (a0m ng num den e (fmt n).g way) way)) := by
 have HF := fun W => hi0 (b0h n W)
 rw [decide_eq_true hn] at HF
 have G := b0z hn
 have GG := b0n G.g
 have HR := fun W h1 h2 => hi0 (p0a ng p q c d num den e (fmt n).g way W h1 h2 hl hl2 hd he GG hw.1 hw.2)
 have hlen := v0u (neg := ng) (num := num) (e := e) (way := way) hd GG
 have HP := fun W pp cc h1 => hi0 (r0x n way (a0m ng num den e (fmt n).g way) pp cc W hn hw h1 (by have := n0f (a0m ng num den e (fmt n).g way).d; omega) (h1a G hd))
 generalize a0m ng num den e (fmt n).g way = P at *
 obtain ⟨r, fl, hr⟩ : ∃ r fl, (fmt n).placedM P way = (r, fl) := ⟨_, _, rfl⟩
 rw [hr] at HP ⊢
 unfold GVf at HP
 simp only at HP
 clear hr
 generalize fmt n = f at *
 have I := Inv.start w [rfF b1 p c (dig B16 num), rfF b2 q d (dig B16 den)] ⟨hp, hq, True.intro⟩
 refine a0d [.v (.int .i64 n), .v (.agg #[.bool ng, .slice p (dig B16 num).length c, .slice q (dig B16 den).length d, .int .i64 e]), .v (.int .i64 way)] I Tryz.func53 ?_
 refine zq I (fun Al W I => (HF W).out) fun Al W I => ?_
 refine zg I (fun Al W I => (HR W I.fa.1.rd I.fa.2.1.rd).out) fun Al V Iv _ hB _ kz => ?_
 rintro _ W ⟨p20, c20, rfl, o20, a20, hb⟩
 refine ⟨_, rfl, kz _ _ hb fun I => ?_⟩
 have I := I.rdN o20 a20 (hB _) Iv
 refine zqr I (fun Al W I => (HP W p20 c20 I.fa.1).out) fun Al W p22 c22 I => ?_
 exact zret I fun Al W I => ⟨p22, c22, rfl, I.fa.1, I.below⟩
theorem w0c (n way : Int) (a : Dv) (p : Option Addr) (c base : Nat) (w : World) (hn : IsFm n) (hw : 1 ≤ way ∧ way ≤ 5) (hp : Rf w base p c (dig B16 a.m)) (hl : (dig B16 a.m).length ≤ 20000) (he : -200000 ≤ a.e ∧ a.e ≤ 200000) :
 Calls Tryz.prog 17 #[.int .i64 n, .agg #[.bool a.neg, .slice p (dig B16 a.m).length c, .int .i64 a.e], .int .i64 way] w (GVf w w.heap.size ((fmt n).numM a way)) := by
 have h0 := a0f a0e a.m
 have HZ := fun W => hi0 (i0d n false W hn)
 rw [Bool.false_and] at HZ
 have HO := fun W h => hi0 (z0n a p c base W h)
 by_cases ha : a.m = 0
 · have hM : (fmt n).numM a way = (⟨1, false, vz⟩, 0) := by unfold Fm.numM Fm.zeroM; rw [if_pos ha]; simp
   rw [hM]
   have hl0 := h0.2 ha
   generalize (dig B16 a.m).length = L at *
   have I := Inv.start w [] True.intro
   refine a0d [.v (.int .i64 n), .v (.agg #[.bool a.neg, .slice p L c, .int .i64 a.e]), .v (.int .i64 way)] I Tryz.func17 ?_
   refine zb I 11 ((L : Int) == 0) (true) (beq_iff_eq.2 (by omega)) fun Al W I => ?_
   refine zq I (fun Al W I => (HZ W).out) fun Al W I => ?_
   exact zret I fun Al W I => b0t (k := 1) (fl := 0) rfl I.below
 · have hM : (fmt n).numM a way = (fmt n).placedM (a0m a.neg a.m 1 a.e (fmt n).g way) way := by unfold Fm.numM; rw [if_neg ha]
   rw [hM]
   have HFt := fun W q h1 h2 => hi0 (r0z n way a.neg p q c 1 base w.heap.size a.m 1 a.e W hn hw h1 h2 hl (by rw [← i0b]; omega) (by omega) he)
   rw [← i0b] at HFt
   obtain ⟨r, fl, hr⟩ : ∃ r fl, (fmt n).placedM (a0m a.neg a.m 1 a.e (fmt n).g way) way = (r, fl) := ⟨_, _, rfl⟩
   rw [hr] at HFt ⊢
   unfold GVf at HFt
   simp only at HFt
   clear hr hM
   have I := Inv.start w [rfF base p c (dig B16 a.m)] ⟨hp, True.intro⟩
   refine a0d [.v (.int .i64 n), .v (.agg #[.bool a.neg, .slice p (dig B16 a.m).length c, .int .i64 a.e]), .v (.int .i64 way)] I Tryz.func17 ?_
   refine zb I 11 ((((dig B16 a.m).length : Nat) : Int) == 0) (false) (bFn (fun h => ha (h0.1 (by omega)))) fun Al W I => ?_
   refine zg I (fun Al W I => (HO W I.fa.1).out) fun Al V Iv _ hB _ kz => ?_
   rintro _ W ⟨q16, rfl, o16, hb⟩
   refine ⟨_, rfl, kz _ _ hb fun I => ?_⟩
   have I := I.rf o16 (hB _) Iv
   refine zqr I (fun Al W I => (HFt W q16 I.fa.2.1 I.fa.1).out) fun Al W p18 c18 I => ?_
   exact zret I fun Al W I => ⟨p18, c18, rfl, I.fa.1, I.below⟩
theorem w0d (n : Int) (w : World) (hn : IsFm n) : Calls Tryz.prog 50 #[.int .i64 n] w fun en w' => en = .returned (.tuple #[.agg #[.int .i64 (((fmt n).nothM.cls : Nat) : Int), .bool false, .bool false, .slice none 0 0, .int .i64 0], .int .i64 16]) ∧ Below w.heap.size w w' := by
 have HN := fun W => hi0 (g0i n W hn)
 generalize (fmt n).nothM.cls = k at *
 have I := Inv.start w [] True.intro
 refine a0d [.v (.int .i64 n)] I Tryz.func50 ?_
 refine zq I (fun Al W I => (HN W).out) fun Al W I => ?_
 exact zrb I
def errR (n way : Int) (L : List ByteArray) : Int := if IsFm n then (if errL n L = 0 then (if 1 ≤ way ∧ way ≤ 5 then 0 else 6) else errL n L) else 6
def l1b (n way : Int) (L : List ByteArray) (fn : FuncId) (R : Vr × Nat) : Prop :=
 ∀ (xs : List Vp) (vs : List Value) (p : Option Addr) (c base u : Nat) (W : World), xs.map (·.v) = L.map (decP n) → vs = xs.flatMap Vp.cells → OwnS W base 75 4 p c L.length vs → (∀ x, x ∈ xs → Own W base .u32 141 x.p x.c (dig B32 x.v.d)) →
  Bt W u 182 #[.int .i64 n, .int .i64 way, .int .i64 (fmt n).g.rad, .int .i64 (fmt n).g.digs, .int .i64 (fmt n).g.lo, .int .i64 (fmt n).g.hi, .bool (fmt n).g.grad, .int .u8 (famB (fmt n)), .int .i64 0] → TabW W → base ≤ W.heap.size →
  Calls Tryz.prog fn #[.pointer (some ⟨u, 0, none⟩), .slice p L.length c] W (g0j (fmt n) n way u W base R)
def strR (n : Int) (r : Vr) : ByteArray := b0l ((fmt n).strP ((fmt n).encP r.cls r.neg r.x))
theorem i1q (n way : Int) (L : List ByteArray) (fn : FuncId) (R : Vr × Nat) (b m : Nat) (w : World) (hB0 : Bt w b 9 (L.map Value.string).toArray) (hm : m = L.length) (hl : L.length ≤ 1000) (hT : TabW w)
 (hfn : ∀ args w, (callFunc fn args).run Tryz.prog w = .ok (.enter fn args) w) (h0 : errR n way L = 0) (HD : l1b n way L fn R) (HR : ResF (fmt n) R.1) :
 Calls Tryz.prog 46 #[.int .i64 n, .int .i64 way, .func (.func fn) #[] #[], .slice (some ⟨b, 0, none⟩) m m] w fun en w' => en = .returned (.tuple #[.string (strR n R.1), .int .i64 ((R.2 : Nat) : Int), .int .i64 0]) ∧ Below w.heap.size w w' := by
 subst hm
 have hn : IsFm n := by unfold errR at h0; split at h0; assumption; omega
 unfold errR at h0
 rw [if_pos hn] at h0
 have hL : errL n L = 0 := by split at h0; assumption; contradiction
 rw [if_pos hL] at h0
 have hw : 1 ≤ way ∧ way ≤ 5 := by split at h0; assumption; omega
 clear h0
 obtain ⟨r, fl⟩ := R
 simp only at HR ⊢
 have HO1 := fun W => hi0 (w0a n 1 W hn (by omega))
 have HO2 := fun W => hi0 (w0a n way W hn hw)
 have HDe := fun W u h1 h2 h3 => hi0 (x0t n 1 0 L b L.length u W h1 h2 rfl hl hL h3)
 have HDo := fun xs vs p c base u W h1 h2 h3 h4 h5 h6 h7 => hi0 (HD xs vs p c base u W h1 h2 h3 h4 h5 h6 h7)
 have HT := fun W (v : Vl) p c base u h1 h2 h3 h4 => hi0 (n1z n way (fl : Int) ⟨v, p, c⟩ r base u W h1 h2 hn h3 HR h4)
 have hs : strR n r = b0l ((fmt n).strP ((fmt n).encP r.cls r.neg r.x)) := rfl
 rw [← hs] at HT
 clear hs
 generalize strR n r = s at *
 generalize fmt n = f at *
 have I := Inv.start w [btF b 9 (L.map Value.string).toArray, tabF] ⟨hB0, hT, True.intro⟩
 refine a0d [.v (.int .i64 n), .v (.int .i64 way), .v (.func (.func fn) #[] #[]), .v (.slice (some ⟨b, 0, none⟩) L.length L.length)] I Tryz.func46 ?_
 refine zg I (fun Al W I => (HO1 W).out) fun Al V Iv _ hB _ kz => ?_
 rintro _ W ⟨u16, rfl, hge, hB, hb⟩
 refine ⟨_, rfl, kz _ _ hb fun I => ?_⟩
 refine g1t Iv hb 0 u16 182 [(.int .i64 n), (.int .i64 1), (.int .i64 f.g.rad), (.int .i64 f.g.digs), (.int .i64 f.g.lo), (.int .i64 f.g.hi), (.bool f.g.grad), (.int .u8 (famB f)), (.int .i64 0)] hge hB fun Al hAl_16 I => ?_
 refine g1u I 17 0 u16 hAl_16 fun Al W I => ?_
 refine zg I (fun Al W I => (HDe W _ (I.box 0 182 _) I.fa.1 I.fa.2.1).out) fun Al V Iv _ hB _ kz => ?_
 rintro _ W ⟨xs, vs, p25, c25, rfl, hxs, hvs, oS, oL, hb⟩
 refine ⟨_, rfl, kz _ _ hb fun I => ?_⟩
 have I := I.owns oS
 have I := I.ownl oL
 refine zg I (fun Al W I => (HO2 W).out) fun Al V Iv _ hB _ kz => ?_
 rintro _ W ⟨u34, rfl, hge, hB, hb⟩
 refine ⟨_, rfl, kz _ _ hb fun I => ?_⟩
 refine g1t Iv hb 1 u34 182 [(.int .i64 n), (.int .i64 way), (.int .i64 f.g.rad), (.int .i64 f.g.digs), (.int .i64 f.g.lo), (.int .i64 f.g.hi), (.bool f.g.grad), (.int .u8 (famB f)), (.int .i64 0)] hge hB fun Al hAl_34 I => ?_
 refine g1u I 35 1 u34 hAl_34 fun Al W I => ?_
 refine zgfe (hf := hfn) I 1 182 (fun Al W I => (HDo xs vs p25 c25 _ _ W hxs hvs I.fa.2.1 I.fa.1 (I.box 1 182 _) I.fa.2.2.2.1 I.bel.size).out) fun Al V Iv _ _ kz => ?_
 rintro _ W ⟨v44, hR44, p44, c44, rfl, o44, hO, hB⟩
 refine ⟨_, rfl, kz _ (uS f n way (fl : Int)) _ hO hB fun I => ?_⟩
 have I := I.own o44
 refine zq I (fun Al W I => (HT W v44 p44 c44 _ _ (I.box 1 182 _) I.fa.1 hR44 I.fa.2.2.2.2.1).out) fun Al W I => ?_
 exact zrb I
theorem e1b (n way : Int) (L : List ByteArray) (fn : FuncId) (b m : Nat) (w : World) (hB0 : Bt w b 9 (L.map Value.string).toArray) (hm : m = L.length) (hl : L.length ≤ 1000) (hT : TabW w) (h0 : errR n way L ≠ 0) :
 Calls Tryz.prog 46 #[.int .i64 n, .int .i64 way, .func (.func fn) #[] #[], .slice (some ⟨b, 0, none⟩) m m] w fun en w' => en = .returned (.tuple #[.string (b0l []), .int .i64 0, .int .i64 (errR n way L)]) ∧ Below w.heap.size w w' := by
 subst hm
 unfold errR at h0 ⊢
 by_cases hn : IsFm n
 · rw [if_pos hn] at h0 ⊢
   have HO1 := fun W => hi0 (w0a n 1 W hn (by omega))
   by_cases hL : errL n L = 0
   · rw [if_pos hL] at h0 ⊢
     have hw : ¬ (1 ≤ way ∧ way ≤ 5) := fun h => h0 (if_pos h)
     rw [if_neg hw]
     have HO2 := fun W => hi0 (x0s n way W (fun h => hw h.2))
     have HDe := fun W u h1 h2 h3 => hi0 (x0t n 1 0 L b L.length u W h1 h2 rfl hl hL h3)
     generalize fmt n = f at *
     have I := Inv.start w [btF b 9 (L.map Value.string).toArray, tabF] ⟨hB0, hT, True.intro⟩
     refine a0d [.v (.int .i64 n), .v (.int .i64 way), .v (.func (.func fn) #[] #[]), .v (.slice (some ⟨b, 0, none⟩) L.length L.length)] I Tryz.func46 ?_
     refine zg I (fun Al W I => (HO1 W).out) fun Al V Iv _ hB _ kz => ?_
     rintro _ W ⟨u16, rfl, hge, hB, hb⟩
     refine ⟨_, rfl, kz _ _ hb fun I => ?_⟩
     refine g1t Iv hb 0 u16 182 [(.int .i64 n), (.int .i64 1), (.int .i64 f.g.rad), (.int .i64 f.g.digs), (.int .i64 f.g.lo), (.int .i64 f.g.hi), (.bool f.g.grad), (.int .u8 (famB f)), (.int .i64 0)] hge hB fun Al hAl_16 I => ?_
     refine g1u I 17 0 u16 hAl_16 fun Al W I => ?_
     refine zg I (fun Al W I => (HDe W _ (I.box 0 182 _) I.fa.1 I.fa.2.1).out) fun Al V Iv _ hB _ kz => ?_
     rintro _ W ⟨xs, vs, p25, c25, rfl, hxs, hvs, oS, oL, hb⟩
     refine ⟨_, rfl, kz _ _ hb fun I => ?_⟩
     have I := I.owns oS
     have I := I.ownl oL
     refine zq I (fun Al W I => (HO2 W).out) fun Al W I => ?_
     exact zrb I
   · rw [if_neg hL] at h0 ⊢
     have HDe := fun W u h1 h2 h3 => hi0 (t0w n 1 0 L b L.length u W h1 h2 rfl hl hL h3)
     generalize errL n L = er at *
     generalize fmt n = f at *
     have I := Inv.start w [btF b 9 (L.map Value.string).toArray, tabF] ⟨hB0, hT, True.intro⟩
     refine a0d [.v (.int .i64 n), .v (.int .i64 way), .v (.func (.func fn) #[] #[]), .v (.slice (some ⟨b, 0, none⟩) L.length L.length)] I Tryz.func46 ?_
     refine zg I (fun Al W I => (HO1 W).out) fun Al V Iv _ hB _ kz => ?_
     rintro _ W ⟨u16, rfl, hge, hB, hb⟩
     refine ⟨_, rfl, kz _ _ hb fun I => ?_⟩
     refine g1t Iv hb 0 u16 182 [(.int .i64 n), (.int .i64 1), (.int .i64 f.g.rad), (.int .i64 f.g.digs), (.int .i64 f.g.lo), (.int .i64 f.g.hi), (.bool f.g.grad), (.int .u8 (famB f)), (.int .i64 0)] hge hB fun Al hAl_16 I => ?_
     refine g1u I 17 0 u16 hAl_16 fun Al W I => ?_
     refine zq I (fun Al W I => (HDe W _ (I.box 0 182 _) I.fa.1 I.fa.2.1).out) fun Al W I => ?_
     refine zb I 29 (er != 0) (true) (bne_iff_ne.2 hL) fun Al W I => ?_
     exact zrb I
 · rw [if_neg hn]
   have HO1 := fun W => hi0 (x0s n 1 W (fun h => hn h.1))
   have I := Inv.start w [] True.intro
   refine a0d [.v (.int .i64 n), .v (.int .i64 way), .v (.func (.func fn) #[] #[]), .v (.slice (some ⟨b, 0, none⟩) L.length L.length)] I Tryz.func46 ?_
   refine zq I (fun Al W I => (HO1 W).out) fun Al W I => ?_
   exact zrb I
structure VrF (f : Fm) (r : Vr) : Prop where
 ok : VrOk r
 inf : r.cls = 3 → f.fam = 1
def refD (n : Int) (s : ByteArray) : Vr := (fmt n).refN (a0z (fmt n) s)
theorem o1b {f : Fm} (G : c0i f) (neg : Bool) {e frac : Nat} (h : e < 2 ^ f.E) : (f.dec neg e frac).p = 0 ∨ (f.g.lo ≤ (f.dec neg e frac).p ∧ (f.dec neg e frac).p ≤ f.g.hi + 1) := by
 have h3 := G.hi1
 have h4 := G.hi2
 have h5 := G.hi3
 have h6 := G.fam
 have gg := (b0n G.g).le
 have e1 := G.e1
 have hE1 : (2 : Nat) ^ 7 ≤ 2 ^ f.E := Nat.pow_le_pow_right (by omega) e1
 unfold Fm.dec
 generalize 2 ^ f.E = T at *
 repeat' split
 all_goals first | exact .inl rfl | (right; simp only; omega)
theorem l1c {f : Fm} (neg : Bool) {e frac : Nat} (h : (f.dec neg e frac).c = 3) : f.fam = 1 := by
 have h : (f.dec neg e frac).cls = 3 := by
  unfold Dc.c at h
  split at h <;> omega
 unfold Fm.dec at h
 split at h
 · simp at h
 · split at h
   · rename_i k
     exact k.1
   · split at h
     · split at h <;> simp at h
     · split at h
       · simp at h
       · split at h
         · simp at h
         · split at h <;> simp at h
theorem l0w {n : Int} {s : ByteArray} (hn : IsFm n) : VrF (fmt n) (refD n s) := by
 have G := b0z hn
 have GG := b0n G.g
 obtain ⟨w1, w2, w3⟩ := l0j G.g
 have he : (fmt n).exp (a0z (fmt n) s) < 2 ^ (fmt n).E := Nat.mod_lt _ (Nat.pow_pos (by omega))
 have hx : (fmt n).frac (a0z (fmt n) s) < 2 ^ (fmt n).F := Nat.mod_lt _ (Nat.pow_pos (by omega))
 have hm := j1f (f := fmt n) ((fmt n).neg (a0z (fmt n) s)) (e := (fmt n).exp (a0z (fmt n) s)) hx
 have hp := o1b G ((fmt n).neg (a0z (fmt n) s)) (frac := (fmt n).frac (a0z (fmt n) s)) he
 have hi := fun h => l1c (f := fmt n) ((fmt n).neg (a0z (fmt n) s)) (e := (fmt n).exp (a0z (fmt n) s)) (frac := (fmt n).frac (a0z (fmt n) s)) h
 have hcls := b1l (fmt n) ((fmt n).neg (a0z (fmt n) s)) ((fmt n).exp (a0z (fmt n) s)) ((fmt n).frac (a0z (fmt n) s))
 have z2 := G.f2
 unfold refD Fm.refN Fm.decN
 generalize (fmt n).dec ((fmt n).neg (a0z (fmt n) s)) ((fmt n).exp (a0z (fmt n) s)) ((fmt n).frac (a0z (fmt n) s)) = D at *
 generalize (fmt n).neg (a0z (fmt n) s) = g at *
 generalize fmt n = f at *
 have hc : 1 ≤ D.c ∧ D.c ≤ 5 := by unfold Dc.c; split <;> omega
 have hml : (dig B32 D.m).length ≤ 3 := a0v hm (by omega)
 have wp := b0g f.g
 have hwp : -17010 ≤ (wid f.g : Int) * D.p ∧ (wid f.g : Int) * D.p ≤ 17010 := by
  rcases hp with h | ⟨h1, h2⟩
  · rw [h, Int.mul_zero]; omega
  · have a1 : (wid f.g : Int) * f.g.lo ≤ wid f.g * D.p := Int.mul_le_mul_of_nonneg_left h1 (by omega)
    have a2 : (wid f.g : Int) * D.p ≤ wid f.g * (f.g.hi + 1) := Int.mul_le_mul_of_nonneg_left h2 (by omega)
    rw [Int.mul_add, Int.mul_one] at a2
    omega
 refine ⟨⟨hc, fun h => ?_, fun h => ?_, ?_, ?_, ?_, ?_⟩, hi⟩
 · have h : ¬ D.c = 2 := h
   unfold Fm.vr
   simp only [if_neg h]
   rfl
 · have h : D.c = 2 := h
   have hm0 := h1q h
   unfold Fm.vr
   simp only [h, if_true]
   obtain ⟨b1, b2⟩ := r0w (g := g) (e := (wid f.g : Int) * D.p) hm0
   exact ⟨b2, by rw [b1]; rfl⟩
 · unfold Fm.vr
   simp only
   split
   · exact j0y _
   · exact .inr rfl
 · unfold Fm.vr
   simp only
   split
   · exact Nat.le_trans (k0b a0b _) (by show (dig B32 D.m).length ≤ _; omega)
   · show (dig B32 0).length ≤ _; rw [a0c]; decide
 · unfold Fm.vr
   simp only
   split
   · have := s0o (⟨g, D.m, wid f.g * D.p⟩ : Dv) (n := 3) hml (lo := -17100) (hi := 17100) (by simp only; omega) (by simp only; omega) (by omega) (by omega)
     omega
   · show (-18000 : Int) ≤ 0; decide
 · unfold Fm.vr
   simp only
   split
   · have := s0o (⟨g, D.m, wid f.g * D.p⟩ : Dv) (n := 3) hml (lo := -17100) (hi := 17100) (by simp only; omega) (by simp only; omega) (by omega) (by omega)
     omega
   · show (0 : Int) ≤ 18000; decide
theorem h1b {n : Int} {s : ByteArray} (h0 : a0x n s = 0) : VRep (fmt n) (decP n s) (refD n s) := by
 obtain ⟨hn, hs⟩ := c0t.1 h0
 have G := b0z hn
 have hd : decP n s = (fmt n).valN (a0z (fmt n) s) := by unfold decP; rw [if_pos h0]
 have he : (fmt n).exp (a0z (fmt n) s) < 2 ^ (fmt n).E := Nat.mod_lt _ (Nat.pow_pos (by omega))
 have hx : (fmt n).frac (a0z (fmt n) s) < 2 ^ (fmt n).F := Nat.mod_lt _ (Nat.pow_pos (by omega))
 have hb := o1i G ((fmt n).neg (a0z (fmt n) s)) he hx ((fmt n).neg (a0z (fmt n) s))
 have hk := f1g (fmt n) ((fmt n).neg (a0z (fmt n) s)) ((fmt n).decN (a0z (fmt n) s))
 have ho := f1h (fmt n) ((fmt n).neg (a0z (fmt n) s)) ((fmt n).decN (a0z (fmt n) s))
 rw [hd]
 exact ⟨rfl, rfl, fun _ => hk, fun h => ho h, hb.1, hb.2.1, hb.2.2⟩
theorem e1c {n : Int} {s : ByteArray} (h0 : a0x n s = 0) {x : Vp} (hx : x.v = decP n s) : AtV (fmt n) x (refD n s) := by
 have F := l0w (s := s) (c0t.1 h0).1
 exact ⟨by rw [hx]; exact h1b h0, F.ok, F.inf⟩
/-! ### Results -/
theorem i1r {f : Fm} (G : c0i f) (x : Dv) (way : Int) : ResF f (f.numM x way).1 := by
 unfold Fm.numM
 split
 · exact o0n G _
 · exact (l0u G (by omega)).1
theorem o1c {f : Fm} (G : c0i f) (x y : Dv) (g h : Bool) (way : Int) : ResF f (f.sumM x y g h way).1 := by
 unfold Fm.sumM
 split
 · exact i1r G _ _
 · split <;> exact o0n G _
theorem w0e {f : Fm} {r : Vr} (h : r.cls = 3) (R : VrF f r) : ResF f r :=
 ⟨by omega, fun k => by omega, fun k => by omega, fun _ => R.inf h, fun k => by omega, fun k => by omega, fun _ => R.ok.x0 (by omega)⟩
theorem o1d {f : Fm} (G : c0i f) {a b : Vr} (A : VrF f a) (B : VrF f b) (way : Int) : ResF f (f.addM a b way).1 := by
 unfold Fm.addM
 split
 · exact g0u G
 · split
   · rename_i h
     split
     · exact g0u G
     · split
       · rename_i h3; exact w0e h3 A
       · rename_i h3; exact w0e (show b.cls = 3 by omega) B
   · exact o1c G _ _ _ _ _
def _root_.Go.Slip.Vr.opp (r : Vr) : Vr := if r.cls ≤ 3 then ⟨r.cls, !r.neg, e0q r.x⟩ else r
theorem e1d (n : Int) (xs : List Wp) (b m : Nat) (w : World) (hn : IsFm n) (hB : Bt w b 32 (xs.flatMap Wp.cells).toArray) (hm : m = xs.length) (hl : xs.length ≤ 1000) (hno : ∀ x ∈ xs, x.r.cls < 4) :
 Calls Tryz.prog 49 #[.int .i64 n, .slice (some ⟨b, 0, none⟩) m m] w fun en w' => en = .returned (.tuple #[.agg #[.int .i64 0, .bool false, .bool false, .slice none 0 0, .int .i64 0], .int .i64 0, .bool false]) ∧ Below w.heap.size w w' := by
 subst hm
 have HF := fun W => hi0 (b0h n W)
 rw [decide_eq_true hn] at HF
 have HX : ∀ i, i < xs.length → ∃ x : Wp, xs[i]? = some x ∧ x.r.cls < 4 := fun i h => ⟨xs[i], List.getElem?_eq_getElem h, hno _ (List.getElem_mem h)⟩
 generalize fmt n = f at *
 have I := Inv.start w [btF b 32 (xs.flatMap Wp.cells).toArray] ⟨hB, True.intro⟩
 refine a0d [.v (.int .i64 n), .v (.slice (some ⟨b, 0, none⟩) xs.length xs.length)] I Tryz.func49 ?_
 refine zq I (fun Al W I => (HF W).out) fun Al W I => ?_
 refine o0w I (fun gk fr bx gs => ∃ (U900 : Nat → Value) (i : Nat), fr = (.v (.int .i64 n) :: .v (.slice (some ⟨b, 0, none⟩) xs.length xs.length) :: su 2 (.p 0 0 :: sw U900 5 2 (.p 1 0 :: .v (U900 8) :: .v (.int .i64 (i : Int)) :: sw U900 10 25 [])) : List SV) ∧ bx = [⟨32, [.v (.int .i64 0), .v (.bool false), .v (.bool false), .v (.slice none 0 0), .v (.int .i64 0)], false⟩, ⟨62, [.v (.int .i64 (f.size : Int)), .v (.int .i64 (f.E : Int)), .v (.int .i64 (f.F : Int)), .v (.int .i64 f.g.rad), .v (.int .i64 f.g.digs), .v (.int .i64 f.g.lo), .v (.int .i64 f.g.hi), .v (.bool f.g.grad), .v (.int .i64 (f.fam : Int))], false⟩] ∧ gs = [btF b 32 (xs.flatMap Wp.cells).toArray] ∧ (gk + i = xs.length)) xs.length (fun Al W U I => ⟨_, ⟨U, 0, rfl, rfl, rfl, (by omega)⟩, I.pick [0]⟩) ?_
 rintro J gk0 _ _ _ ⟨U900, i, rfl, rfl, rfl, hgk⟩ hJ Al W I
 rcases Bool.eq_false_or_eq_true (decide ((i : Int) < (xs.length : Int))) with f18 | f18
 · refine zb I 18 (decide ((i : Int) < (xs.length : Int))) (true) (f18) fun Al W I => ?_
   obtain ⟨x, hx, hx4⟩ := HX i (by have := oTr f18; omega)
   refine zx I 23 (fun _ => .pointer (some (at_ (some ⟨b, 0, none⟩) (i * 5)))) (fun Al W I => (m0f (m := i) (n := xs.length) (c := xs.length) tvV (fun _ => ⟨rfl, rfl⟩) (by have := oTr f18; omega))) fun Al W I => ?_
   refine zx I 25 (fun _ => .int .i64 (x.r.cls : Int)) (fun Al W I => (i0g (m := i * 5) I.fa.1 o1a _ (x0u (j := 0) Wp.len hx rfl))) fun Al W I => ?_
   refine zb I 26 (decide ((x.r.cls : Int) ≥ 4)) (false) (dFa (by omega)) fun Al W I => ?_
   refine zi I 20 .i64 ((i : Int) + 1) (((i + 1 : Nat) : Int)) ((by rw [show ((i : Int) + 1) = ((i + 1 : Nat) : Int) by omega]; exact IntWalk.i64_in _ (by have := oTr f18; omega))) fun Al W I => ?_
   exact a0y I J fun Al W U I => hJ (gk0 - 1) _ _ _ _ _ ((by have := oTr f18; omega)) ⟨U, i + 1, rfl, rfl, rfl, (by have := oTr f18; omega)⟩ (I.pick [0])
 refine zb I 18 (decide ((i : Int) < (xs.length : Int))) (false) (f18) fun Al W I => ?_
 exact zrb I
theorem z0o (n : Int) (xs : List Wp) (b m : Nat) (w : World) (hn : IsFm n) (hB : Bt w b 32 (xs.flatMap Wp.cells).toArray) (hm : m = xs.length) (hl : xs.length ≤ 1000) (hyes : ∃ x ∈ xs, 4 ≤ x.r.cls) :
 Calls Tryz.prog 49 #[.int .i64 n, .slice (some ⟨b, 0, none⟩) m m] w fun en w' => en = .returned (.tuple #[.agg #[.int .i64 (((fmt n).nothM.cls : Nat) : Int), .bool false, .bool false, .slice none 0 0, .int .i64 0], .int .i64 (((fmt n).offM.2 : Nat) : Int), .bool true]) ∧ Below w.heap.size w w' := by
 subst hm
 have HF := fun W => hi0 (b0h n W)
 rw [decide_eq_true hn] at HF
 have HX : ∀ i, i < xs.length → ∃ x : Wp, xs[i]? = some x := fun i h => ⟨xs[i], List.getElem?_eq_getElem h⟩
 obtain ⟨y, hy, hy4⟩ := hyes
 obtain ⟨j, hj, hjy⟩ := List.getElem_of_mem hy
 have hYJ : xs[j]? = some y := by rw [List.getElem?_eq_getElem hj, hjy]
 clear hjy hy
 have HN := fun W => hi0 (g0i n W hn)
 generalize (fmt n).nothM.cls = kN at *
 have e2 : (fmt n).fam = 3 → (((fmt n).offM.2 : Nat) : Int) = 16 := fun h => by unfold Fm.offM; rw [if_pos h]; rfl
 have e3 : (fmt n).fam ≠ 3 → (((fmt n).offM.2 : Nat) : Int) = 0 := fun h => by unfold Fm.offM; rw [if_neg h]; rfl
 generalize (((fmt n).offM.2 : Nat) : Int) = fl at *
 generalize fmt n = f at *
 have I := Inv.start w [btF b 32 (xs.flatMap Wp.cells).toArray] ⟨hB, True.intro⟩
 refine a0d [.v (.int .i64 n), .v (.slice (some ⟨b, 0, none⟩) xs.length xs.length)] I Tryz.func49 ?_
 refine zq I (fun Al W I => (HF W).out) fun Al W I => ?_
 refine o0w I (fun gk fr bx gs => ∃ (U900 : Nat → Value) (i : Nat), fr = (.v (.int .i64 n) :: .v (.slice (some ⟨b, 0, none⟩) xs.length xs.length) :: su 2 (.p 0 0 :: sw U900 5 2 (.p 1 0 :: .v (U900 8) :: .v (.int .i64 (i : Int)) :: sw U900 10 25 [])) : List SV) ∧ bx = [⟨32, [.v (.int .i64 0), .v (.bool false), .v (.bool false), .v (.slice none 0 0), .v (.int .i64 0)], false⟩, ⟨62, [.v (.int .i64 (f.size : Int)), .v (.int .i64 (f.E : Int)), .v (.int .i64 (f.F : Int)), .v (.int .i64 f.g.rad), .v (.int .i64 f.g.digs), .v (.int .i64 f.g.lo), .v (.int .i64 f.g.hi), .v (.bool f.g.grad), .v (.int .i64 (f.fam : Int))], false⟩] ∧ gs = [btF b 32 (xs.flatMap Wp.cells).toArray] ∧ (gk + i = xs.length) ∧ (∀ (j : Nat) (x : Wp), j < i → xs[j]? = some x → x.r.cls < 4)) xs.length (fun Al W U I => ⟨_, ⟨U, 0, rfl, rfl, rfl, (by omega), (fun _ _ h => absurd h (by omega))⟩, I.pick [0]⟩) ?_
 rintro J gk0 _ _ _ ⟨U900, i, rfl, rfl, rfl, hgk, hlt⟩ hJ Al W I
 rcases Bool.eq_false_or_eq_true (decide ((i : Int) < (xs.length : Int))) with f18 | f18
 · refine zb I 18 (decide ((i : Int) < (xs.length : Int))) (true) (f18) fun Al W I => ?_
   obtain ⟨x, hx⟩ := HX i (by have := oTr f18; omega)
   refine zx I 23 (fun _ => .pointer (some (at_ (some ⟨b, 0, none⟩) (i * 5)))) (fun Al W I => (m0f (m := i) (n := xs.length) (c := xs.length) tvV (fun _ => ⟨rfl, rfl⟩) (by have := oTr f18; omega))) fun Al W I => ?_
   refine zx I 25 (fun _ => .int .i64 (x.r.cls : Int)) (fun Al W I => (i0g (m := i * 5) I.fa.1 o1a _ (x0u (j := 0) Wp.len hx rfl))) fun Al W I => ?_
   rcases Bool.eq_false_or_eq_true (decide ((x.r.cls : Int) ≥ 4)) with f26 | f26
   · refine zb I 26 (decide ((x.r.cls : Int) ≥ 4)) (true) (f26) fun Al W I => ?_
     by_cases hf3 : f.fam = 3
     · refine zb I 29 ((f.fam : Int) == 3) (true) (beq_iff_eq.2 (by omega)) fun Al W I => ?_
       refine zq I (fun Al W I => (HN W).out) fun Al W I => ?_
       exact zret I (v := fun Al => .tuple #[.agg #[.int .i64 (kN : Int), .bool false, .bool false, .slice none 0 0, .int .i64 0], .int .i64 16, .bool true]) fun Al W I => ⟨by rw [e2 hf3], I.below⟩
     refine zb I 29 ((f.fam : Int) == 3) (false) (bFn (by omega)) fun Al W I => ?_
     refine zq I (fun Al W I => (HN W).out) fun Al W I => ?_
     exact zret I (v := fun Al => .tuple #[.agg #[.int .i64 (kN : Int), .bool false, .bool false, .slice none 0 0, .int .i64 0], .int .i64 0, .bool true]) fun Al W I => ⟨by rw [e3 hf3], I.below⟩
   refine zb I 26 (decide ((x.r.cls : Int) ≥ 4)) (false) (f26) fun Al W I => ?_
   refine zi I 20 .i64 ((i : Int) + 1) (((i + 1 : Nat) : Int)) ((by rw [show ((i : Int) + 1) = ((i + 1 : Nat) : Int) by omega]; exact IntWalk.i64_in _ (by have := oTr f18; omega))) fun Al W I => ?_
   exact a0y I J fun Al W U I => hJ (gk0 - 1) _ _ _ _ _ ((by have := oTr f18; omega)) ⟨U, i + 1, rfl, rfl, rfl, (by have := oTr f18; omega), (fun j' x' h h' => by rcases (show j' < i ∨ j' = i by omega) with q | rfl; exact hlt j' x' q h'; rw [hx] at h'; cases h'; have := oFa f26; omega)⟩ (I.pick [0])
 refine zb I 18 (decide ((i : Int) < (xs.length : Int))) (false) (f18) fun Al W I => ?_
 exact zret I (v := fun Al => .tuple #[.agg #[.int .i64 0, .bool false, .bool false, .slice none 0 0, .int .i64 0], .int .i64 0, .bool false]) fun Al W I => absurd (hlt j y (by have := oFa f18; omega) hYJ) (by rw [Nat.not_lt]; omega)
structure TnD (a : Dv) : Prop where
 len : (dig B32 a.m).length ≤ 40
 lo : -38000 ≤ a.e
 hi : a.e ≤ 38000
theorem VrOk.tn {r : Vr} (R : VrOk r) : TnD r.x := ⟨by have := R.len; omega, by have := R.lo; omega, by have := R.hi; omega⟩
theorem TnD.sm {a : Dv} (h : TnD a) : SmD a := ⟨by have := h.len; omega, by have := h.lo; omega, by have := h.hi; omega⟩
end Go.Proofs.YtmacohmclpnphaaGreatDoor
namespace Go.Slip
open Go.RowKit
def t0x : List (Nat × SV) → Cfg → Cfg
 | [], c => c
 | (i, y) :: l, c => t0x l (j0k i y c)
section
variable {P : Program} {Q : Exit → Act → World → Prop} {E : List Nat} {w0 : World} {A : List Nat} {fs : List PF} {W : World} {c c' : Cfg}
theorem l1d (_ : Inv E w0 A c.bx fs W) (l : List (Nat × SV)) (h1 : ∀ A W, Inv E w0 A (nrm (t0x l c)).bx fs W → G P Q A (nrm (t0x l c)) W)
 (h2 : (∀ A W, Inv E w0 A (nrm (t0x l c)).bx fs W → G P Q A (nrm (t0x l c)) W) → G P Q A c W) : G P Q A c W := h2 h1
theorem zuse (K : ∀ A W, Inv E w0 A c'.bx fs W → G P Q A c' W) (I : Inv E w0 A c.bx fs W) (he : c = c' := by kernel_rfl) : G P Q A c W := by
 subst he
 exact K _ _ I
end
end Go.Slip
namespace Go.Slip
open Go.RowKit
def i1s (i : Nat) (c : Cfg) (A : List Nat) : Option VO :=
 match c.rg with
 | .dr ops _ _ (_ + 1) listed => match ops[i]? with
  | some o => match Region.noSelect ops && Region.free .any ops listed i && (Region.ready .any ops listed).contains i && wnt ops c.fr o with
   | true => match o.op with
    | .indexAddr t x j => some (.ix t (evr A c.fr x) (evr A c.fr j))
    | _ => none
   | false => none
  | none => none
 | _ => none
section
variable {P : Program} {Q : Exit → Act → World → Prop} {E : List Nat} {w0 : World} {A : List Nat} {fs : List PF} {W : World} {c : Cfg}
theorem zkx (i : Nat) (I : Inv E w0 A c.bx fs W) {vo : VO} (v : Value) (hx : ∀ W, vo.sem.run P W = .ok v W) (h : Inv E w0 A (j0k i (.v v) c).bx fs W → G P Q A (j0k i (.v v) c) W)
 (hv : i1s i c A = some vo := by kernel_rfl) (hm : dk1 c.rg c.bx = dk2 c.rg := by kernel_rfl) (hQ : g0e Q := by exact d0u) : G P Q A c W := by
 refine ⟨?_⟩
 have h := (h (by rw [x0e]; exact I)).out
 obtain ⟨cf, cb, rg, ks⟩ := c
 cases rg with
 | off => cases hv
 | pl => cases hv
 | one => cases hv
 | ret => cases hv
 | dr ops A0 m fuel listed =>
  cases fuel with
  | zero => cases hv
  | succ fuel =>
   unfold i1s at hv
   unfold j0k at h
   simp only at hv h
   intro pre
   split at hv
   · rename_i o hi
     rw [hi] at h
     split at hv
     · rename_i h1
       simp only [Bool.and_eq_true] at h1
       obtain ⟨⟨⟨h1, h2⟩, h3⟩, hw⟩ := h1
       split at hv
       · rename_i t x j hop
         simp only [Option.some.injEq] at hv
         subst hv
         have hS : SB A0 m W := c1a I pre hm
         have h : WpH P ops (post P Q ks) (SB A0 m) fuel (listed.setIfInBounds i true) (act A (putO cf o.dst (.v v))) W := h pre
         rw [← e0b] at h
         refine j0i i o.dst v _ hi rfl rfl h1 h2 h3 (fun c a w => f0e (P := P) hQ ks c a o.dst v w) (.inl ⟨by rw [g0r]; exact hw, fun w' _ => ?_⟩) hS h
         rw [c0k]
         unfold execOp
         have := hx w'
         unfold VO.sem at this
         simp only [hop, Sem.run_bind, this, Result.andThen_ok, Sem.run_pure]
       · cases hv
     · cases hv
   · cases hv
end
end Go.Slip
namespace Go.Proofs.YtmacohmclpnphaaGreatDoor
open Go.RowKit Go.Slip
theorem l1e {n : Int} {s t : ByteArray} (h : errL n [s, t] = 0) : a0x n s = 0 ∧ a0x n t = 0 ∧ IsFm n := by
 have h1 := f0r n h s (by simp)
 exact ⟨h1, f0r n h t (by simp), (c0t.1 h1).1⟩
theorem h1c {n : Int} {xs : List Vp} {s t : ByteArray} (h : xs.map (·.v) = [s, t].map (decP n)) : ∃ x y, xs = [x, y] ∧ x.v = decP n s ∧ y.v = decP n t := by
 cases xs with
 | nil => simp at h
 | cons x l =>
  cases l with
  | nil => simp at h
  | cons y l =>
   cases l with
   | nil => simp only [List.map_cons, List.map_nil, List.cons.injEq, and_true] at h; exact ⟨x, y, rfl, h.1, h.2⟩
   | cons _ _ => simp at h
theorem h1d (n way : Int) (s t : ByteArray) (h0 : errL n [s, t] = 0) (hw : 1 ≤ way ∧ way ≤ 5) : l1b n way [s, t] 89 ((fmt n).addM (refD n s) (refD n t) way) := by
 intro xs vs p c base u w hxs hvs oS oL U hT hb
 obtain ⟨hs, ht, hn⟩ := l1e h0
 obtain ⟨x, y, rfl, hx, hy⟩ := h1c hxs
 have ox := oL x (by simp)
 have oy := oL y (by simp)
 have HA := fun W u h1 h2 h3 h4 h5 => hi0 (p1i (fmt n) n way x y (refD n s) (refD n t) base u W h1 h2 h3 h4 (e1c hs hx) (e1c ht hy) (b0z hn) hw h5)
 generalize (fmt n).addM (refD n s) (refD n t) way = R at *
 generalize fmt n = f at *
 subst hvs
 clear oL hx hy hxs h0 hs ht hn
 obtain ⟨r, fl⟩ := R
 have I := Inv.startW w u 182 (uS f n way 0) [h0p base 75 4 p c [s, t].length ([x, y].flatMap Vp.cells), ownF base .u32 141 x.p x.c (dig B32 x.v.d), ownF base .u32 141 y.p y.c (dig B32 y.v.d), tabF] U ⟨oS, ox, oy, hT, True.intro⟩ ⟨fun hf => oS.far U (by kernel_rfl) hf.1 hf.2, fun hf => ox.far U (by kernel_rfl) hf.1 hf.2, fun hf => oy.far U (by kernel_rfl) hf.1 hf.2, fun hf => hT.far U (by kernel_rfl) hf, True.intro⟩
 refine a0d [.p 0 0, .v (.slice p [s, t].length c)] I Tryz.func89 ?_
 refine zd [0, 1] I fun Al W I => ?_
 refine zk [0, 1] I fun I => ?_
 refine zkx 2 I (.pointer (some (at_ p (0 * 4)))) (fun _ => (m0f (m := 0) (n := [s, t].length) (c := c) v0y I.fa.1.solid (by simp))) fun I => ?_
 refine zk [4] I fun I => ?_
 refine zkx 5 I (.pointer (some (at_ p (1 * 4)))) (fun _ => (m0f (m := 1) (n := [s, t].length) (c := c) v0y I.fa.1.solid (by simp))) fun I => ?_
 refine l1d I [(3, .v (.agg #[.int .i64 (x.v.cls : Int), .bool x.v.neg, .slice x.p (dig B32 x.v.d).length x.c, .int .i64 x.v.pow])), (6, .v (.agg #[.int .i64 (y.v.cls : Int), .bool y.v.neg, .slice y.p (dig B32 y.v.d).length y.c, .int .i64 y.v.pow]))] (fun Al W I => ?_) (fun KL7 => ?_)
 · refine zo 7 I fun I => ?_
   refine zge I 0 182 (fun Al W I => have hzW := I.bel.size; (HA W _ (I.box 0 182 _) I.fa.2.1 I.fa.2.2.1 (by omega) I.fa.2.2.2.1).out) fun Al V Iv _ _ kz => ?_
   rintro _ W ⟨v12, hR12, p12, c12, rfl, o12, hO, hB⟩
   refine ⟨_, rfl, kz _ (uS f n way (fl : Int)) _ hO hB fun I => ?_⟩
   have I := I.ownB base o12
   refine zo 8 I fun I => ?_
   refine zn I fun Al W I => ?_
   exact zret I fun Al W I => ⟨v12, hR12, p12, c12, rfl, I.fa.1, I.bel, I.boxE 182 _⟩
 refine l1d I [(3, .v (.agg #[.int .i64 (x.v.cls : Int), .bool x.v.neg, .slice x.p (dig B32 x.v.d).length x.c, .int .i64 x.v.pow]))] (fun Al W I => ?_) (fun KL5 => ?_)
 · refine zo 6 I fun I => ?_
   refine zx I 11 (fun _ => .agg #[.int .i64 (y.v.cls : Int), .bool y.v.neg, .slice y.p (dig B32 y.v.d).length y.c, .int .i64 y.v.pow]) (fun Al W I => (q0c (m := 1 * 4) I.fa.1 v0z y.cells rfl rfl)) fun Al W I => ?_
   exact zuse KL7 I
 refine l1d I [(6, .v (.agg #[.int .i64 (y.v.cls : Int), .bool y.v.neg, .slice y.p (dig B32 y.v.d).length y.c, .int .i64 y.v.pow]))] (fun Al W I => ?_) (fun KL6 => ?_)
 · refine zo 3 I fun I => ?_
   refine zx I 8 (fun _ => .agg #[.int .i64 (x.v.cls : Int), .bool x.v.neg, .slice x.p (dig B32 x.v.d).length x.c, .int .i64 x.v.pow]) (fun Al W I => (q0c (m := 0 * 4) I.fa.1 v0z x.cells rfl rfl)) fun Al W I => ?_
   exact zuse KL7 I
 refine zo2 3 6 I (fun I => ?_) (fun I => ?_)
 · refine zx I 8 (fun _ => .agg #[.int .i64 (x.v.cls : Int), .bool x.v.neg, .slice x.p (dig B32 x.v.d).length x.c, .int .i64 x.v.pow]) (fun Al W I => (q0c (m := 0 * 4) I.fa.1 v0z x.cells rfl rfl)) fun Al W I => ?_
   exact zuse KL5 I
 refine zx I 11 (fun _ => .agg #[.int .i64 (y.v.cls : Int), .bool y.v.neg, .slice y.p (dig B32 y.v.d).length y.c, .int .i64 y.v.pow]) (fun Al W I => (q0c (m := 1 * 4) I.fa.1 v0z y.cells rfl rfl)) fun Al W I => ?_
 exact zuse KL6 I
def f0d (n way : Int) (L : List ByteArray) (R : Vr × Nat) (w : World) (en : Ending) (w' : World) : Prop :=
 (if errR n way L = 0 then en = .returned (.tuple #[.string (strR n R.1), .int .i64 ((R.2 : Nat) : Int), .int .i64 (errR n way L)]) else en = .returned (.tuple #[.string (b0l []), .int .i64 0, .int .i64 (errR n way L)])) ∧ Below w.heap.size w w'
theorem k0z {n way : Int} {L : List ByteArray} (h0 : errR n way L = 0) : IsFm n ∧ errL n L = 0 ∧ 1 ≤ way ∧ way ≤ 5 := by
 have hn : IsFm n := by unfold errR at h0; split at h0; assumption; omega
 unfold errR at h0
 rw [if_pos hn] at h0
 have hL : errL n L = 0 := by split at h0; assumption; contradiction
 rw [if_pos hL] at h0
 exact ⟨hn, hL, by split at h0; assumption; omega⟩
theorem h1e (n way : Int) (s t : ByteArray) (w : World) (hT : TabW w) : Calls Tryz.prog 37 #[.int .i64 n, .string s, .string t, .int .i64 way] w (f0d n way [s, t] ((fmt n).addM (refD n s) (refD n t) way) w) := by
 unfold f0d
 by_cases h0 : errR n way [s, t] = 0
 · obtain ⟨hn, hL, hw⟩ := k0z h0
   have HR := fun b m W h1 h2 h3 => hi0 (i1q n way [s, t] 89 _ b m W h1 h2 (by simp) h3 (fun _ _ => by kernel_rfl) h0 (h1d n way s t hL hw) (o1d (b0z hn) (l0w hn) (l0w hn) way))
   simp only [h0, if_true]
   generalize strR n ((fmt n).addM (refD n s) (refD n t) way).1 = str at *
   generalize ((fmt n).addM (refD n s) (refD n t) way).2 = fl at *
   have I := Inv.start w [tabF] ⟨hT, True.intro⟩
   refine a0d [.v (.int .i64 n), .v (.string s), .v (.string t), .v (.int .i64 way)] I Tryz.func37 ?_
   refine zq I (fun Al W I => (HR _ 2 W (I.box 0 9 _) rfl I.fa.1).out) fun Al W I => ?_
   exact zrb I
 · have HR := fun b m W h1 h2 h3 => hi0 (e1b n way [s, t] 89 b m W h1 h2 (by simp) h3 h0)
   simp only [if_neg h0]
   generalize errR n way [s, t] = er at *
   have I := Inv.start w [tabF] ⟨hT, True.intro⟩
   refine a0d [.v (.int .i64 n), .v (.string s), .v (.string t), .v (.int .i64 way)] I Tryz.func37 ?_
   refine zq I (fun Al W I => (HR _ 2 W (I.box 0 9 _) rfl I.fa.1).out) fun Al W I => ?_
   exact zrb I
theorem p1j {w : World} {b : Nat} {p : Option Addr} {c : Nat} {r : Vr} (h : r.x = vz) : Rf w b p c (dig B16 r.x.m) := by
 rw [h]
 show Rf _ _ _ _ (dig B16 0)
 rw [a0c]
 exact ⟨Rd.nil _ _ _, Nat.zero_le _, fun h => by simp at h⟩
def rflF (b : Nat) (xs : List Wp) : PF :=
 ⟨fun w => ∀ x, x ∈ xs → Rf w b x.p x.c (dig B16 x.r.x.m), fun a => ∃ x, x ∈ xs ∧ 0 < (dig B16 x.r.x.m).length ∧ blk x.p = a, fun _ _ h hb _ x hx => ⟨(h x hx).rd.same fun hp => hb _ ((h x hx).rd.lt hp) ⟨x, hx, hp, rfl⟩, (h x hx).cap, (h x hx).at_⟩, fun _ _ h ⟨x, hx, hp, hf⟩ => hf ▸ (h x hx).rd.lt hp⟩
theorem h1f {w : World} {b : Nat} {xs : List Wp} {r : Vr} {p : Option Addr} {c : Nat} (h : ∀ x, x ∈ xs → Rf w b x.p x.c (dig B16 x.r.x.m)) (o : Rf w b p c (dig B16 r.x.m)) : ∀ x, x ∈ xs ++ [⟨r, p, c⟩] → Rf w b x.p x.c (dig B16 x.r.x.m) := fun x hx => by
 rw [List.mem_append, List.mem_singleton] at hx
 rcases hx with hx | rfl
 · exact h x hx
 · exact o
theorem e1e {b a : Nat} {xs : List Wp} {r : Vr} {p : Option Addr} {c : Nat} (h : (rflF b (xs ++ [⟨r, p, c⟩])).foot a) (h1 : ∀ x, (x ∈ xs ∧ 0 < (dig B16 x.r.x.m).length ∧ blk x.p = a) → False) (h2 : 0 < (dig B16 r.x.m).length → blk p = a → False) : False := by
 obtain ⟨x, hx, h3, h4⟩ := h
 rw [List.mem_append, List.mem_singleton] at hx
 rcases hx with hx | rfl
 · exact h1 x ⟨hx, h3, h4⟩
 · exact h2 h3 h4
def l1f (n : Int) (w : World) (L : List ByteArray) (en : Ending) (w' : World) : Prop :=
 ∃ (xs : List Wp) (vs : List Value) (p : Option Addr) (c : Nat), en = .returned (.tuple #[.slice p L.length c, .int .i64 0]) ∧ xs.map (·.r) = L.map (refD n) ∧ vs = xs.flatMap Wp.cells ∧ OwnS w' w.heap.size 32 5 p c L.length vs ∧ (∀ x, x ∈ xs → Rf w' w.heap.size x.p x.c (dig B16 x.r.x.m)) ∧ Below w.heap.size w w'
theorem e1f (n way : Int) (L : List ByteArray) (b m : Nat) (w : World) (hB0 : Bt w b 9 (L.map Value.string).toArray) (hm : m = L.length) (hl : L.length ≤ 1000) (h0 : errR n way L = 0) :
 Calls Tryz.prog 10 #[.int .i64 n, .int .i64 way, .slice (some ⟨b, 0, none⟩) m m] w (l1f n w L) := by
 subst hm
 obtain ⟨hn, hL, hw⟩ := k0z h0
 have HF := fun W => hi0 (b0h n W)
 rw [decide_eq_true hn] at HF
 have HX : ∀ i, i < L.length → ∃ s : ByteArray, L[i]? = some s ∧ a0x n s = 0 ∧ (L.map Value.string).toArray[i]? = some (.string s) ∧ L.take (i + 1) = L.take i ++ [s] := fun i h => ⟨L[i], List.getElem?_eq_getElem h, f0r n hL _ (List.getElem_mem h), by simp [h], by rw [List.take_add_one, List.getElem?_eq_getElem h]; rfl⟩
 have HO := fun s W => hi0 (o0g n s W)
 have HD := fun s W h => hi0 (i0f n s W hn h)
 have hsz := fun s (h : a0x n s = 0) => (c0t.1 h).2
 have HI := fun W => hi0 (stay (m0b way W))
 rw [t0i hw.1 hw.2] at HI
 have hrd : ∀ s, (fmt n).refN (a0z (fmt n) s) = refD n s := fun s => rfl
 simp only [hrd] at HD
 generalize hgs : (fun s => (fmt n).neg (a0z (fmt n) s)) = gs
 have HD2 : ∀ s (W : World), s.size = (fmt n).size → Hid (Calls Tryz.prog 32 #[.int .i64 n, .string s] W (k0x W (refD n s) (gs s))) := by subst hgs; exact HD
 clear hgs HD hrd
 generalize fmt n = f at *
 have I := Inv.start w [btF b 9 (L.map Value.string).toArray] ⟨hB0, True.intro⟩
 refine a0d [.v (.int .i64 n), .v (.int .i64 way), .v (.slice (some ⟨b, 0, none⟩) L.length L.length)] I Tryz.func10 ?_
 refine zq I (fun Al W I => (HF W).out) fun Al W I => ?_
 have I := I.add (h0p w.heap.size 32 5 none 0 0 []) (OwnS.nil _ _ _ _) (fun _ _ h => by cases h.1)
 have I := I.add (rflF w.heap.size []) (fun _ h => by cases h) (fun _ _ ⟨_, h, _⟩ => by cases h)
 refine o0w I (fun gk fr bx gs => ∃ (U900 : Nat → Value) (i : Nat) (p8 : Option Addr) (c8 : Nat) (xs : List Wp) (vs : List Value), fr = (.v (.int .i64 n) :: .v (.int .i64 way) :: .v (.slice (some ⟨b, 0, none⟩) L.length L.length) :: su 3 (sw U900 6 2 (.v (.slice p8 i c8) :: .v (U900 9) :: .v (.bool true) :: .v (.int .i64 (i : Int)) :: sw U900 12 9 (.v (.bool false) :: sw U900 22 30 (.v undef :: .v (U900 53) :: [])))) : List SV) ∧ bx = [⟨62, [.v (.int .i64 (f.size : Int)), .v (.int .i64 (f.E : Int)), .v (.int .i64 (f.F : Int)), .v (.int .i64 f.g.rad), .v (.int .i64 f.g.digs), .v (.int .i64 f.g.lo), .v (.int .i64 f.g.hi), .v (.bool f.g.grad), .v (.int .i64 (f.fam : Int))], false⟩] ∧ gs = [rflF w.heap.size xs, h0p w.heap.size 32 5 p8 c8 i vs, btF b 9 (L.map Value.string).toArray] ∧ (gk + i = L.length) ∧ (vs = xs.flatMap Wp.cells) ∧ (xs.map (·.r) = (L.take i).map (refD n)) ∧ (p8.isSome = true → ¬ (rflF w.heap.size xs).foot (blk p8))) L.length (fun Al W U I => ⟨_, ⟨U, 0, none, 0, [], [], rfl, rfl, rfl, (by omega), rfl, rfl, (fun h => by cases h)⟩, I.pick [0, 1, 2]⟩) ?_
 rintro J gk0 _ _ _ ⟨U900, i, p8, c8, xs, vs, rfl, rfl, rfl, hgk, hvs, hxs, hap⟩ hJ Al W I
 rcases Bool.eq_false_or_eq_true (decide ((i : Int) < (L.length : Int))) with f25 | f25
 · refine zb I 25 (decide ((i : Int) < (L.length : Int))) (true) (f25) fun Al W I => ?_
   obtain ⟨s, hs, hse, hsv, hst⟩ := HX i (by have := oTr f25; omega)
   refine zx I 31 (fun _ => .pointer (some (at_ (some ⟨b, 0, none⟩) i))) (fun Al W I => (i0a (m := i) (n := L.length) (c := L.length) z0l (fun _ => ⟨rfl, rfl⟩) (by have := oTr f25; omega))) fun Al W I => ?_
   refine zx I 32 (fun _ => .string s) (fun Al W I => (i0g I.fa.2.2.1 z0m _ hsv)) fun Al W I => ?_
   refine zq I (fun Al W I => (HO s W).out) fun Al W I => ?_
   refine zb I 35 ((a0x n s) != 0) (false) (bne_eq_false_iff_eq.2 hse) fun Al W I => ?_
   refine zx I 41 (fun _ => .pointer (some (at_ (some ⟨b, 0, none⟩) i))) (fun Al W I => (i0a (m := i) (n := L.length) (c := L.length) z0l (fun _ => ⟨rfl, rfl⟩) (by have := oTr f25; omega))) fun Al W I => ?_
   refine zx I 42 (fun _ => .string s) (fun Al W I => (i0g I.fa.2.2.1 z0m _ hsv)) fun Al W I => ?_
   refine zg I (fun Al W I => (HD2 s W (hsz s hse)).out) fun Al V Iv _ hB _ kz => ?_
   rintro _ W ⟨p43, c43, rfl, o43, hb⟩
   have n43 : p8.isSome = true → ¬ (0 < (dig B16 (refD n s).x.m).length ∧ blk p43 = blk p8) := fun hp h => by have h1 := o43.at_ h.1; have h2 := (Iv.fa.2.1.blk_lt hp).2; omega
   refine ⟨_, rfl, kz _ _ hb fun I => ?_⟩
   have I := I.rf o43 (hB _) Iv
   have I := I.pick [2, 0, 1, 3]
   refine zap I tvV 2 1 (fun Al => [.int .i64 (((refD n s).cls : Nat) : Int), .bool ((refD n s).neg), .bool ((refD n s).x.neg), .slice p43 (dig B16 (refD n s).x.m).length c43, .int .i64 ((refD n s).x.e)]) (fun Al W I => I.box 2 32 _) (by omega) (fun Al W I hp => ⟨n43 hp, hap hp, fun e => I.fa.1.far I.fa.2.2.2.1 (by kernel_rfl) hp (Eq.symm e), True.intro⟩) fun Al W p49 c49 hq_49 I => ?_
   have I := I.add (rflF w.heap.size (xs ++ [(⟨refD n s, p43, c43⟩ : Wp)])) (h1f I.fa.2.2.1 I.fa.2.1) (fun a ha h => e1e h ((fun a ha h0 e => (I.far a ha).2.2.1 ⟨h0, e⟩) a ha) ((fun a ha h0 e => (I.far a ha).2.1 ⟨h0, e⟩) a ha))
   refine zi I 27 .i64 ((i : Int) + 1) (((i + 1 : Nat) : Int)) ((by rw [show ((i : Int) + 1) = ((i + 1 : Nat) : Int) by omega]; exact IntWalk.i64_in _ (by have := oTr f25; omega))) fun Al W I => ?_
   exact o0p 1 I J fun Al W U I => hJ (gk0 - 1) _ _ _ _ _ ((by have := oTr f25; omega)) ⟨U, i + 1, p49, c49, xs ++ [(⟨refD n s, p43, c43⟩ : Wp)], _, rfl, rfl, rfl, (by have := oTr f25; omega), (by rw [hvs, List.flatMap_append]; rfl), (by rw [hst, List.map_append, List.map_append, hxs]; rfl), (fun hp h => e1e h (fun x hx => (hq_49 hp).2.1 ⟨x, hx⟩) (fun h1 h2 => (hq_49 hp).1 ⟨h1, h2⟩))⟩ (I.pick [0, 1, 4])
 refine zb I 25 (decide ((i : Int) < (L.length : Int))) (false) (f25) fun Al W I => ?_
 refine zq I (fun Al W I => (HI W).out) fun Al W I => ?_
 have hi : i = L.length := by have := oFa f25; omega
 exact zret I (v := fun Al => .tuple #[.slice p8 i c8, .int .i64 0]) fun Al W I => ⟨xs, vs, p8, c8, by rw [hi], by rw [hxs, hi, List.take_length], hvs, hi ▸ I.fa.2.1, I.fa.1, I.below⟩
theorem z0p (n way : Int) (L : List ByteArray) (b m : Nat) (w : World) (hB0 : Bt w b 9 (L.map Value.string).toArray) (hm : m = L.length) (hl : L.length ≤ 1000) (h0 : errR n way L ≠ 0) :
 Calls Tryz.prog 10 #[.int .i64 n, .int .i64 way, .slice (some ⟨b, 0, none⟩) m m] w fun en w' => en = .returned (.tuple #[.slice none 0 0, .int .i64 (errR n way L)]) ∧ Below w.heap.size w w' := by
 subst hm
 have HF := fun W => hi0 (b0h n W)
 by_cases hn : IsFm n
 · rw [decide_eq_true hn] at HF
   have hE : errR n way L = if errL n L = 0 then (if 1 ≤ way ∧ way ≤ 5 then 0 else 6) else errL n L := by unfold errR; rw [if_pos hn]
   have HO := fun s W => hi0 (o0g n s W)
   have HD := fun s W h => hi0 (i0f n s W hn h)
   have hsz := fun s (h : a0x n s = 0) => (c0t.1 h).2
   have HI := fun W => hi0 (stay (m0b way W))
   generalize hgs : (fun s => (fmt n).neg (a0z (fmt n) s)) = gs
   have HD2 : ∀ s (W : World), s.size = (fmt n).size → Hid (Calls Tryz.prog 32 #[.int .i64 n, .string s] W (k0x W (refD n s) (gs s))) := by subst hgs; exact HD
   clear hgs HD
   have HX : ∀ i, i < L.length → ∃ s : ByteArray, L[i]? = some s ∧ (L.map Value.string).toArray[i]? = some (.string s) := fun i h => ⟨L[i], List.getElem?_eq_getElem h, by simp [h]⟩
   have HJ : errL n L ≠ 0 → ∃ (j : Nat) (s : ByteArray), L[j]? = some s ∧ errL n L = a0x n s ∧ a0x n s ≠ 0 ∧ ∀ i t, i < j → L[i]? = some t → a0x n t = 0 := w0b n L
   have HZ : errL n L = 0 → ∀ (i : Nat) (t : ByteArray), L[i]? = some t → a0x n t = 0 := fun h i t ht => f0r n h t (by obtain ⟨h1, h2⟩ := List.getElem?_eq_some_iff.1 ht; rw [← h2]; exact List.getElem_mem h1)
   -- where the first fault is, or behind all
   obtain ⟨j, hjl, hj1, hj2⟩ : ∃ j, j ≤ L.length ∧ (∀ (i : Nat) (t : ByteArray), i < j → L[i]? = some t → a0x n t = 0) ∧ (∀ (s : ByteArray), L[j]? = some s → a0x n s ≠ 0 ∧ errR n way L = a0x n s) := by
    by_cases hL : errL n L = 0
    · exact ⟨L.length, Nat.le_refl _, fun i t _ ht => HZ hL i t ht, fun s hs => by simp at hs⟩
    · obtain ⟨j, s, h1, h2, h3, h4⟩ := HJ hL
      refine ⟨j, by have := (List.getElem?_eq_some_iff.1 h1).1; omega, h4, fun t ht => ?_⟩
      rw [h1] at ht
      cases ht
      exact ⟨h3, by rw [hE, if_neg hL, h2]⟩
   have hend : j = L.length → wayB way = false ∧ errR n way L = 6 := fun h => by
    have hL : errL n L = 0 := by
     by_cases hL : errL n L = 0
     · exact hL
     · obtain ⟨j', s, h1, h2, h3, h4⟩ := HJ hL
       have := (List.getElem?_eq_some_iff.1 h1).1
       exact absurd (hj1 j' s (by omega) h1) h3
    rw [hE, if_pos hL] at h0 ⊢
    have hw : ¬ (1 ≤ way ∧ way ≤ 5) := fun k => h0 (if_pos k)
    exact ⟨l0r (by omega), if_neg hw⟩
   generalize errR n way L = er at *
   generalize fmt n = f at *
   clear HJ HZ hE
   have I := Inv.start w [btF b 9 (L.map Value.string).toArray] ⟨hB0, True.intro⟩
   refine a0d [.v (.int .i64 n), .v (.int .i64 way), .v (.slice (some ⟨b, 0, none⟩) L.length L.length)] I Tryz.func10 ?_
   refine zq I (fun Al W I => (HF W).out) fun Al W I => ?_
   have I := I.add (h0p w.heap.size 32 5 none 0 0 []) (OwnS.nil _ _ _ _) (fun _ _ h => by cases h.1)
   refine o0w I (fun gk fr bx gs => ∃ (U900 : Nat → Value) (i : Nat) (p8 : Option Addr) (c8 : Nat) (vs : List Value), fr = (.v (.int .i64 n) :: .v (.int .i64 way) :: .v (.slice (some ⟨b, 0, none⟩) L.length L.length) :: su 3 (sw U900 6 2 (.v (.slice p8 i c8) :: .v (U900 9) :: .v (.bool true) :: .v (.int .i64 (i : Int)) :: sw U900 12 9 (.v (.bool false) :: sw U900 22 30 (.v undef :: .v (U900 53) :: [])))) : List SV) ∧ bx = [⟨62, [.v (.int .i64 (f.size : Int)), .v (.int .i64 (f.E : Int)), .v (.int .i64 (f.F : Int)), .v (.int .i64 f.g.rad), .v (.int .i64 f.g.digs), .v (.int .i64 f.g.lo), .v (.int .i64 f.g.hi), .v (.bool f.g.grad), .v (.int .i64 (f.fam : Int))], false⟩] ∧ gs = [h0p w.heap.size 32 5 p8 c8 i vs, btF b 9 (L.map Value.string).toArray] ∧ (gk + i = L.length) ∧ (i ≤ j)) L.length (fun Al W U I => ⟨_, ⟨U, 0, none, 0, [], rfl, rfl, rfl, (by omega), (by omega)⟩, I.pick [0, 1]⟩) ?_
   rintro J gk0 _ _ _ ⟨U900, i, p8, c8, vs, rfl, rfl, rfl, hgk, hij⟩ hJ Al W I
   rcases Bool.eq_false_or_eq_true (decide ((i : Int) < (L.length : Int))) with f25 | f25
   · refine zb I 25 (decide ((i : Int) < (L.length : Int))) (true) (f25) fun Al W I => ?_
     obtain ⟨s, hs, hsv⟩ := HX i (by have := oTr f25; omega)
     refine zx I 31 (fun _ => .pointer (some (at_ (some ⟨b, 0, none⟩) i))) (fun Al W I => (i0a (m := i) (n := L.length) (c := L.length) z0l (fun _ => ⟨rfl, rfl⟩) (by have := oTr f25; omega))) fun Al W I => ?_
     refine zx I 32 (fun _ => .string s) (fun Al W I => (i0g I.fa.2.1 z0m _ hsv)) fun Al W I => ?_
     refine zq I (fun Al W I => (HO s W).out) fun Al W I => ?_
     by_cases hij2 : i = j
     · refine zb I 35 ((a0x n s) != 0) (true) (bne_iff_ne.2 (by subst hij2; exact (hj2 s hs).1)) fun Al W I => ?_
       exact zret I (v := fun Al => .tuple #[.slice none 0 0, .int .i64 (a0x n s)]) fun Al W I => ⟨by rw [(hj2 s (hij2 ▸ hs)).2], I.below⟩
     refine zb I 35 ((a0x n s) != 0) (false) (bne_eq_false_iff_eq.2 (hj1 i s (by omega) hs)) fun Al W I => ?_
     refine zx I 41 (fun _ => .pointer (some (at_ (some ⟨b, 0, none⟩) i))) (fun Al W I => (i0a (m := i) (n := L.length) (c := L.length) z0l (fun _ => ⟨rfl, rfl⟩) (by have := oTr f25; omega))) fun Al W I => ?_
     refine zx I 42 (fun _ => .string s) (fun Al W I => (i0g I.fa.2.1 z0m _ hsv)) fun Al W I => ?_
     refine zg I (fun Al W I => have hzW := I.bel.size; (HD2 s W (hsz s (hj1 i s (by omega) hs))).out) fun Al V Iv _ hB _ kz => ?_
     rintro _ W ⟨p43, c43, rfl, -, hb⟩
     refine ⟨_, rfl, kz _ _ hb fun I => ?_⟩
     refine zap I tvV 2 1 (fun Al => [.int .i64 (((refD n s).cls : Nat) : Int), .bool ((refD n s).neg), .bool ((refD n s).x.neg), .slice p43 (dig B16 (refD n s).x.m).length c43, .int .i64 ((refD n s).x.e)]) (fun Al W I => I.box 2 32 _) (by omega) (fun Al W I hp => ⟨fun e => I.fa.1.far I.fa.2.1 (by kernel_rfl) hp (Eq.symm e), True.intro⟩) fun Al W p49 c49 hq_49 I => ?_
     refine zi I 27 .i64 ((i : Int) + 1) (((i + 1 : Nat) : Int)) ((by rw [show ((i : Int) + 1) = ((i + 1 : Nat) : Int) by omega]; exact IntWalk.i64_in _ (by have := oTr f25; omega))) fun Al W I => ?_
     exact o0p 1 I J fun Al W U I => hJ (gk0 - 1) _ _ _ _ _ ((by have := oTr f25; omega)) ⟨U, i + 1, p49, c49, _, rfl, rfl, rfl, (by have := oTr f25; omega), (by omega)⟩ (I.pick [0, 1])
   refine zb I 25 (decide ((i : Int) < (L.length : Int))) (false) (f25) fun Al W I => ?_
   refine zqd I (fun Al W I => (HI W).out) (show (wayB way) = false from (hend (by have := oFa f25; omega)).1) fun Al W I => ?_
   exact zret I (v := fun Al => .tuple #[.slice none 0 0, .int .i64 6]) fun Al W I => ⟨by rw [(hend (by have := oFa f25; omega)).2], I.below⟩
 · rw [decide_eq_false hn] at HF
   have hE : errR n way L = 6 := by unfold errR; rw [if_neg hn]
   rw [hE]
   generalize fmt n = f at *
   have I := Inv.start w [] True.intro
   refine a0d [.v (.int .i64 n), .v (.int .i64 way), .v (.slice (some ⟨b, 0, none⟩) L.length L.length)] I Tryz.func10 ?_
   refine zq I (fun Al W I => (HF W).out) fun Al W I => ?_
   exact zrb I
theorem w0f {m k : Nat} (h1 : 2 ^ k ≤ m) (h2 : m < 2 ^ (k + 1)) : blen m = k + 1 := by
 have a := (b0e m (k + 1)).2 h2
 have b : ¬ blen m ≤ k := fun h => by have := (b0e m k).1 h; omega
 omega
def oneS : ByteArray := b0l [63, 128, 0, 0]
def twoS : ByteArray := b0l [64, 0, 0, 0]
theorem l1g : a0z (fmt 1) oneS = 1065353216 := by
 unfold a0z oneS
 rw [r0u (by decide)]
 decide +kernel
theorem l1h : a0x 1 oneS = 0 := c0t.2 ⟨by decide, by unfold oneS; rw [y0a]; rfl⟩
theorem l1i : refD 1 oneS = ⟨2, false, ⟨false, 1, 0⟩⟩ := by
 unfold refD
 rw [l1g]
 have hd : (fmt 1).decN 1065353216 = ⟨2, 8388608, -23⟩ := by kernel_rfl
 have hg : (fmt 1).neg 1065353216 = false := by decide +kernel
 unfold Fm.refN Fm.vr
 rw [hd, hg]
 have ht : tz 8388608 = 23 := n0a 1 23 rfl
 have hw : wid (fmt 1).g = 1 := by decide
 unfold Dc.c bare
 simp [ht, hw]
theorem l1j : j0c ⟨false, 1, 0⟩ ⟨false, 1, 0⟩ = ⟨false, 1, 1⟩ := by
 rw [p0l _ _ (e := 0) (by decide) (by decide)]
 have hz : zOf ⟨false, 1, 0⟩ 0 + zOf ⟨false, 1, 0⟩ 0 = 2 := by decide
 rw [hz]
 have ht : tz 2 = 1 := n0a 1 1 rfl
 unfold norm ofZ bare
 simp [ht]
theorem l1k : (fmt 1).addM ⟨2, false, ⟨false, 1, 0⟩⟩ ⟨2, false, ⟨false, 1, 0⟩⟩ 1 = (⟨2, false, ⟨false, 1, 1⟩⟩, 0) := by
 have hK : theK 1 1 1 1 24 = -22 := by
  have h := u0r (m := 1) (by decide) 1 (w := 1) (D := 24) (by decide) (by decide)
  rw [show blen 1 = 1 from w0f (k := 0) (by decide) (by decide)] at h
  exact b1e (by decide) (by decide) (by decide) (by decide) h
 have hR : a0m false 1 1 1 (fmt 1).g 1 = ⟨false, 8388608, -22, true, false, false⟩ := by
  unfold a0m
  rw [if_neg (by decide), show wid (fmt 1).g = 1 from rfl, show (fmt 1).g.digs.toNat = 24 from rfl, hK]
  kernel_rfl
 have ht : tz 8388608 = 23 := n0a 1 23 rfl
 unfold Fm.addM
 rw [if_neg (by decide), if_neg (by decide)]
 unfold Fm.sumM
 rw [l1j, if_pos (by decide)]
 unfold Fm.numM
 rw [if_neg (by decide), hR]
 unfold Fm.placedM Fm.flP bare
 have hw : wid (fmt 1).g = 1 := by decide
 simp [ht, hw]
theorem l1l : strR 1 ⟨2, false, ⟨false, 1, 1⟩⟩ = twoS := by
 have hb : blen 1 = 1 := w0f (k := 0) (by decide) (by decide)
 have h24 : blen 8388608 = 24 := w0f (k := 23) (by decide) (by decide)
 have hs : c0x ⟨false, 1, 1⟩ (fmt 1).g = -22 := by
  unfold c0x upK topD
  simp only [hb]
  decide
 have hf : (fmt 1).fr ⟨false, 1, 1⟩ = 8388608 := by
  unfold Fm.fr
  rw [hs]
  decide
 have hn : (fmt 1).numP ⟨false, 1, 1⟩ = ⟨false, 128, 0⟩ := by
  unfold Fm.numP
  rw [hf, hs, h24]
  kernel_rfl
 have he : (fmt 1).encP 2 false ⟨false, 1, 1⟩ = ⟨false, 128, 0⟩ := hn
 have h2 : (fmt 1).strP ⟨false, 128, 0⟩ = [64, 0, 0, 0] := by decide +kernel
 unfold strR twoS
 simp only
 rw [he, h2]
theorem h1g : errR 1 1 [oneS, oneS] = 0 := by
 unfold errR errL errL errL
 rw [l1h]
 decide
theorem p0c (w : World) (hT : TabW w) : Calls Tryz.prog 12 #[] w fun en w' => en = .returned (.bool true) ∧ Below w.heap.size w w' := by
 have HA : ∀ W, TabW W → Hid (Calls Tryz.prog 37 #[.int .i64 1, .string oneS, .string oneS, .int .i64 1] W fun en w' => en = .returned (.tuple #[.string twoS, .int .i64 0, .int .i64 0]) ∧ Below W.heap.size W w') := by
  intro W h
  have := h1e 1 1 oneS oneS W h
  unfold f0d at this
  rw [h1g, l1i, l1k] at this
  simp only [l1l, if_true] at this
  exact hi0 this
 refine calls_of_wp Tryz.func12 rfl ?_
 refine a0t (a' := ⟨(us 26 []).toArray, []⟩) (by kernel_rfl) ?_
 refine yq ?_
 refine ye ?_
 refine ywv 0 rfl 5 (.slice (some ⟨w.heap.size, 0, none⟩) 4 4) #[.int .u8 63, .int .u8 128, .int .u8 0, .int .u8 0] 5 (fun V1 hbV1 hzV1 b5 => ?_)
 refine yv 0 rfl 6 (.string oneS) ?_ (k0l (p := some ⟨w.heap.size, 0, none⟩) (n := 4) (c := 4) (xs := [63, 128, 0, 0]) p0u y0w uStr (d1t b5) rfl (by kernel_rfl))
 refine yzt 1 ?_
 refine ye ?_
 replace hT := (hT.past hbV1)
 refine yc 2 rfl 10 ((HA V1 hT).out) (fun Gx hGx => ?_)
 rintro eV2 V2 ⟨rfl, hbV2⟩
 have hzV2 := hbV2.size
 refine ⟨_, rfl, hGx _ _ ?_⟩
 clear hGx Gx
 refine yzt 7 ?_
 refine ye ?_
 refine ywv 8 rfl 22 (.slice (some ⟨V2.heap.size, 0, none⟩) 4 4) #[.int .u8 64, .int .u8 0, .int .u8 0, .int .u8 0] 5 (fun V3 hbV3 hzV3 b22 => ?_)
 refine yv 0 rfl 23 (.string twoS) ?_ (k0l (p := some ⟨V2.heap.size, 0, none⟩) (n := 4) (c := 4) (xs := [64, 0, 0, 0]) p0u y0w uStr (d1t b22) rfl (by kernel_rfl))
 refine yv 0 rfl 24 (.bool true) ?_ (g1r (s := twoS) (by kernel_rfl) (by kernel_rfl))
 refine yzt 2 ?_
 refine wp_ret ?_
 repeat (first | with_reducible refine a0s ?_ | with_reducible refine a0p ?_)
 refine yret (.bool true) (res1 Tryz.results12 rvt) ?_
 exact ⟨rfl, (a0a (a0a hbV1 hbV2) hbV3)⟩
theorem t0y (n : Int) (r : Vr) (fl : Nat) (p : Option Addr) (c base : Nat) (w : World) (hn : IsFm n) (hp : Rf w base p c (dig B16 r.x.m)) (R : ResF (fmt n) r) :
 Calls Tryz.prog 13 #[.int .i64 n, .string (strR n r), .int .i64 (fl : Int), .int .i64 0, .int .i64 0, .agg #[.int .i64 (r.cls : Int), .bool r.neg, .bool r.x.neg, .slice p (dig B16 r.x.m).length c, .int .i64 r.x.e], .int .i64 (fl : Int)] w fun en w' => en = .returned (.bool true) ∧ Below w.heap.size w w' := by
 have hg := (b0z hn).g
 have hl : (dig B16 r.x.m).length ≤ 2400 := by
  by_cases h2 : r.cls = 2
  · have := w0v hg (R.c2 h2).1
    have := n0f r.x.m
    omega
  · rw [R.x0 h2]; show (dig B16 0).length ≤ _; rw [a0c]; decide
 have HE := fun W h => hi0 (o0i n r p c base W hn h hl (fun h2 => ⟨(R.c2 h2).1, (R.c2 h2).2.2.1, (R.c2 h2).2.1, (R.c2 h2).2.2.2, w0v hg (R.c2 h2).1⟩))
 have hs : b0l ((fmt n).strP ((fmt n).encP r.cls r.neg r.x)) = strR n r := rfl
 rw [hs] at HE
 generalize strR n r = s at *
 have I := Inv.start w [rfF base p c (dig B16 r.x.m)] ⟨hp, True.intro⟩
 refine a0d [.v (.int .i64 n), .v (.string s), .v (.int .i64 (fl : Int)), .v (.int .i64 0), .v (.int .i64 0), .v (.agg #[.int .i64 (r.cls : Int), .bool r.neg, .bool r.x.neg, .slice p (dig B16 r.x.m).length c, .int .i64 r.x.e]), .v (.int .i64 (fl : Int))] I Tryz.func13 ?_
 refine zq I (fun Al W I => (HE W I.fa.1).out) fun Al W I => ?_
 refine zbin I 27 _ (fun _ _ _ _ _ => c1n s) fun Al W I => ?_
 refine zb I 32 ((fl : Int) == (fl : Int)) (true) (beq_self_eq_true _) fun Al W I => ?_
 exact zrb I
theorem s0a (n er fl : Int) (v : Value) (hv : ∃ k g h q l c e, v = .agg #[.int .i64 k, .bool g, .bool h, .slice q l c, .int .i64 e]) (w : World) (he : er ≠ 0) :
 Calls Tryz.prog 13 #[.int .i64 n, .string (b0l []), .int .i64 0, .int .i64 er, .int .i64 er, v, .int .i64 fl] w fun en w' => en = .returned (.bool true) ∧ Below w.heap.size w w' := by
 obtain ⟨k, g, h, q, l, c, e, rfl⟩ := hv
 have I := Inv.start w [] True.intro
 refine a0d [.v (.int .i64 n), .v (.string (b0l [])), .v (.int .i64 0), .v (.int .i64 er), .v (.int .i64 er), .v (.agg #[.int .i64 k, .bool g, .bool h, .slice q l c, .int .i64 e]), .v (.int .i64 fl)] I Tryz.func13 ?_
 refine zb I 17 (er == 0) (false) (bFn he) fun Al W I => ?_
 refine zb I 23 (er == er) (true) (beq_self_eq_true _) fun Al W I => ?_
 refine zbin I 27 _ (fun _ _ _ _ _ => c1n (b0l [])) fun Al W I => ?_
 exact zrb I
theorem h1h {n way : Int} {L : List ByteArray} {R : Vr × Nat} {w : World} {fn : FuncId} {args : Array Value} (h : Calls Tryz.prog fn args w (f0d n way L R w)) (h0 : errR n way L ≠ 0) :
 Calls Tryz.prog fn args w fun en w' => en = .returned (.tuple #[.string (b0l []), .int .i64 0, .int .i64 (errR n way L)]) ∧ Below w.heap.size w w' := by
 unfold f0d at h
 simp only [if_neg h0] at h
 exact h
structure ElF (w : World) (g o : Nat) (a : Rw) : Prop where
 c0 : w.cell? ⟨g, o, none⟩ = some (.bool a.g)
 c1 : w.cell? ⟨g, o + 1, none⟩ = some (.slice a.p (dig B16 a.m).length a.c)
 c2 : w.cell? ⟨g, o + 2, none⟩ = some (.int .i64 a.e)
 lt : g < w.heap.size
theorem ElF.e3 {w : World} {g o : Nat} {a : Rw} (h : ElF w g o a) : w.cell? ⟨g, o, none⟩ = some (.bool a.g) ∧ w.cell? ⟨g, o + 1, none⟩ = some (.slice a.p (dig B16 a.m).length a.c) ∧ w.cell? ⟨g, o + 2, none⟩ = some (.int .i64 a.e) := ⟨h.c0, h.c1, h.c2⟩
theorem ElF.below {w w' : World} {B g o : Nat} {a : Rw} (h : ElF w g o a) (hb : Below B w w') (hB : g < B) : ElF w' g o a :=
 ⟨by rw [Below.cell hb hB]; exact h.c0, by rw [Below.cell hb hB]; exact h.c1, by rw [Below.cell hb hB]; exact h.c2, Nat.lt_of_lt_of_le h.lt hb.size⟩
theorem ElF.past {w w' : World} {g o : Nat} {a : Rw} (h : ElF w g o a) (hb : Below w.heap.size w w') : ElF w' g o a := h.below hb h.lt
theorem ElF.drew {w : World} {g o : Nat} {a : Rw} (h : ElF w g o a) : ElF w.drew g o a := ⟨h.c0, h.c1, h.c2, h.lt⟩
theorem ElF.laid {w : World} {g o : Nat} {a : Rw} (h : ElF w g o a) (ob : Obj) : ElF (w.alloc ob) g o a := h.past (b0w _ _)
theorem ElF.set {w : World} {g o k i : Nat} {a : Rw} {v : Value} (h : ElF w g o a) (hne : g < k) : ElF (w.setCell ⟨k, i, none⟩ v) g o a :=
 h.below ((Below.refl k w).setCell (p := ⟨k, i, none⟩) (Nat.le_refl _) v) hne
theorem s0b (p : Option Addr) (n c : Nat) (a : Nat) (w : World) (hp : Rd w .i64 p (dig B16 a)) (hn : n = (dig B16 a).length) (hl : (dig B16 a).length ≤ 1000000) (h0 : 0 < a) :
 Calls Tryz.prog 58 #[.slice p n c, .int .i64 2] w (d0h w .i64 (dig B16 (isq a))) := by
 subst hn
 have hla := a0f a0e a
 have t1 : decide (0 < (dig B16 a).length) = true := dTr (by omega)
 have HLN := fun W h => hi0 (d0v p _ c a W h rfl (by omega))
 have hbl : blen a ≤ 16000000 := by have := f0g a; omega
 have HH := hi0 (c1q (a := a))
 obtain ⟨N, hN⟩ : ∃ N, N = (blen a + 1) / 2 := ⟨_, rfl⟩
 have hNb : N ≤ 10000000 := by omega
 rw [← hN] at HH
 have eN : ((blen a : Int) + 1) / 2 = (N : Int) := by omega
 have hbn : (0 : Int) ≤ (blen a : Int) := by omega
 generalize blen a = bl at *
 have HN := hi0 hN
 clear hN hla
 have HPW := fun W => hi0 (h0k N W (by omega))
 have LB : (dig B16 (2 ^ N)).length ≤ 700000 := by
  have h2 : (dig B16 (2 ^ N)).length = N / 16 + 1 := by
   rw [← h0b (B := B16) (w := 16) (by decide) (by omega) N]; simp
  omega
 go_enter Tryz.func58, Tryz.ntmps58
 go_wp2_with fail
 ((with_reducible refine (((HLN _ hp).out)).mono ?_))
 rintro _ _ ⟨rfl, rfl⟩
 go_wp2_with fail
 ((with_reducible refine (HPW _).out.mono ?_))
 rintro e3 w3 ⟨p3, c3, rfl, hr3, hc3, hf3, hb3⟩
 have hs3 := hb3
 clear HPW HLN eN hbn
 go_wp2_with fail
 go_loopg [5] (2 ^ N) (fun g xv wr => ∃ (X : Nat) (px : Option Addr) (cx : Nat), X = g ∧ xv = .slice px (dig B16 X).length cx ∧ Rd wr .i64 px (dig B16 X) ∧ (dig B16 X).length ≤ cx ∧ (0 < (dig B16 X).length → w.heap.size ≤ blk px) ∧ Below w.heap.size w wr ∧ Hid (a < (X + 1) ^ 2 ∧ X ≤ 2 ^ N))
 case atStart => exact ⟨2 ^ N, p3, c3, rfl, rfl, hr3, hc3, hf3, hs3, ⟨HH.out, Nat.le_refl _⟩⟩
 case round =>
  obtain ⟨X, px, cx, rfl, rfl, hrx, hcx, hfx, hb, HR⟩ := hrel
  have hX : 0 < X := by
   rcases Nat.eq_zero_or_pos X with h | h
   · have h2 := HR.out.1
     rw [h, Nat.zero_add, Nat.one_pow] at h2
     omega
   · exact h
  have lx : (dig B16 X).length ≤ 700000 := Nat.le_trans (a0h a0e HR.out.2) LB
  obtain ⟨q, hq⟩ : ∃ q, q = a / X := ⟨_, rfl⟩
  have lq : (dig B16 q).length ≤ 1000000 := by rw [hq]; exact Nat.le_trans (a0h a0e (Nat.div_le_self _ _)) hl
  have HQ := hi0 hq
  obtain ⟨y, hy⟩ : ∃ y, y = (X + q) / 2 := ⟨_, rfl⟩
  have HY := hi0 (show (X + q) / 2 ^ 1 = y from hy.symm)
  have hy2 : y = (X * 1 + a / X ^ 1) / (1 + 1) := by rw [hy, hq, Nat.pow_one, Nat.mul_one]
  have HAB := hi0 (l0z hX hy2)
  have HST := hi0 (fun h : X ≤ y => m0z hX hy2 h)
  have ls : (dig B16 (X + q)).length ≤ 1700002 := by have := c0p a0e X q; omega
  have ly : (dig B16 y).length ≤ 1700002 := by rw [hy]; exact Nat.le_trans (a0h a0e (Nat.div_le_self _ _)) ls
  have HDN := fun W p c h => hi0 (show Calls Tryz.prog 79 #[.slice p (dig B16 (X + q)).length c, .int .i64 1] W (d0h W .i64 (dig B16 y)) by have h := j0o p _ c (X + q) 1 W h rfl (by omega) (by omega); rw [HY.out] at h; exact h)
  clear hy hy2 hq
  have hs0 := hb
  go_wp2_with fail
  ((with_reducible refine (h0l p px _ _ c cx a X _ (hp.past hb) hrx rfl rfl (by omega) (by omega) hX).mono ?_))
  rw [← HQ.out]
  rintro e4 w4 ⟨p4, c4, q4, d4, rfl, hr4, hc4, hf4, -, -, -, hb4⟩
  have hs4 := hs0.trans (hb4.mono hs0.size)
  have hrx4 := hrx.past hb4
  go_wp2_with fail
  ((with_reducible refine (j0n px p4 _ _ cx c4 X q _ hrx4 hr4 rfl rfl (by omega)).mono ?_))
  rintro e5 w5 ⟨p5, c5, rfl, hr5, hc5, hf5, hb5⟩
  have hs5 := hs4.trans (hb5.mono hs4.size)
  have hrx5 := hrx4.past hb5
  go_wp2_with fail
  ((with_reducible refine (HDN _ _ _ hr5).out.mono ?_))
  rintro e6 w6 ⟨p6, c6, rfl, hr6, hc6, hf6, hb6⟩
  have hs6 := hs5.trans (hb6.mono hs5.size)
  have hrx6 := hrx5.past hb6
  have z0 := hs0.size
  have z4 := hs4.size
  have z5 := hs5.size
  go_wp2_with fail
  have hcb := k1c y X
  have hcs : 0 ≤ cmpN y X ↔ X ≤ y := by unfold cmpN; split <;> (try split) <;> omega
  ((with_reducible refine (e0g p6 px _ _ c6 cx y X _ hr6 hrx6 rfl rfl (by omega) (by omega)).mono ?_))
  generalize cmpN y X = cm at *
  rintro e7 w7 ⟨rfl, hb7⟩
  have hs7 := hs6.trans (hb7.mono hs6.size)
  by_cases hxy : X ≤ y
  · have t2 : decide (0 ≤ cm) = true := dTr (hcs.2 hxy)
    have HE := hi0 (i1h (HST.out hxy) HR.out.1)
    go_wp2
    go_ret
    rw [HE.out]
    exact ⟨px, cx, rfl, hrx6.past hb7, hcx, hfx, hs7⟩
  · have t2 : decide (0 ≤ cm) = false := dFa (fun h => hxy (hcs.1 h))
    have hyb := HR.out.2
    have hlt : y < X := by omega
    have hle := hi0 (show y ≤ 2 ^ N from Nat.le_trans (Nat.le_of_lt hlt) HR.out.2)
    clear hxy hyb
    go_wp2_with fail
    go_roundg y
    case measure => omega
    case rel => exact ⟨y, p6, c6, rfl, rfl, hr6.past hb7, hc6, fun h => Nat.le_trans z5 (hf6 h), hs7, ⟨HAB.out, hle.out⟩⟩
theorem o1e {a : Dv} {e : Int} (h : zOf a e = 0) : a.m = 0 := by
 unfold zOf sg at h
 have hp : 0 < 2 ^ (a.e - e).toNat := Nat.pow_pos (by omega)
 rcases Nat.eq_zero_or_pos a.m with k | k
 · exact k
 · have hq := Nat.mul_pos k hp
   have hz : (a.m : Int) * 2 ^ (a.e - e).toNat ≠ 0 := by
    have : (((a.m * 2 ^ (a.e - e).toNat : Nat)) : Int) ≠ 0 := by omega
    simpa using this
   split at h <;> first | exact absurd h hz | (exfalso; apply hz; simpa using h)
end Go.Proofs.YtmacohmclpnphaaGreatDoor
namespace Go.Slip
end Go.Slip
namespace Go.Proofs.YtmacohmclpnphaaGreatDoor
open Go.RowKit Go.Slip
/-! ### The number 1 -/
theorem z0q (x : Dv) : (j0c x (e0q x)).m = 0 := by
 have := a1w x (e0q x) (e := min x.e 0) (by omega) (show min x.e 0 ≤ x.e by omega)
 rw [y0l, Int.add_right_neg] at this
 exact o1e this
theorem sub_self {f : Fm} {r : Vr} (hc : r.cls ≤ 2) (way : Int) : ∃ g, f.addM r r.opp way = (f.zeroM g, 0) := by
 have ho : r.opp = ⟨r.cls, !r.neg, e0q r.x⟩ := by unfold Vr.opp; rw [if_pos (by omega)]
 rw [ho]
 unfold Fm.addM
 rw [if_neg (by simp only; omega), if_neg (by simp only; omega)]
 unfold Fm.sumM
 rw [if_neg (by rw [z0q]; simp)]
 split
 · exact ⟨_, rfl⟩
 · exact ⟨_, rfl⟩
end Go.Proofs.YtmacohmclpnphaaGreatDoor
namespace Go.Slip
theorem z0r {neg : Bool} {n1 d1 n2 d2 : Nat} {e1 e2 kmin : Int} {g : Gd} {way : Int} (p1 : 0 < n1) (p2 : 0 < n2) (q1 : 0 < d1) (q2 : 0 < d2) (hD : 1 ≤ g.digs.toNat)
 (h1 : ∀ (m : Nat) (k : Int), kmin ≤ k → (le2 (m * d1) k n1 e1 ↔ le2 (m * d2) k n2 e2)) (h2 : ∀ (m : Nat) (k : Int), kmin ≤ k → (le2 n1 e1 (m * d1) k ↔ le2 n2 e2 (m * d2) k))
 (hk : kmin ≤ wid g * theK n1 d1 e1 (wid g) g.digs.toNat - 1) : a0m neg n1 d1 e1 g way = a0m neg n2 d2 e2 g way := by
 have wp := b0g g
 have hK := j0g p1 q1 e1 wp.1 hD
 have e0 : theK n2 d2 e2 (wid g) g.digs.toNat = theK n1 d1 e1 (wid g) g.digs.toNat := by
  refine b1e p2 q2 wp.1 hD ⟨?_, fun h => hK.no ?_⟩
  · rw [g0n q2]
    have := hK.yes
    rw [g0n q1] at this
    exact (h1 _ _ (by omega)).1 this
  · rw [g0n q2] at h
    rw [g0n q1]
    refine (h1 _ _ ?_).2 h
    rw [Int.mul_add]
    omega
 unfold a0m
 rw [if_neg (by omega), if_neg (by omega), e0]
 generalize theK n1 d1 e1 (wid g) g.digs.toNat = K at *
 have hpk : kmin ≤ wid g * powK g K - 1 := by
  have : (wid g : Int) * K ≤ wid g * powK g K := Int.mul_le_mul_of_nonneg_left (u0s g K) (by omega)
  omega
 have eq : qP n1 d1 (e1 - wid g * powK g K) = qP n2 d2 (e2 - wid g * powK g K) := by
  have a1 := (p0m q1 e1 (wid g * powK g K) (qP n1 d1 (e1 - wid g * powK g K))).1 (Nat.le_refl _)
  have a2 := (p0m q2 e2 (wid g * powK g K) (qP n2 d2 (e2 - wid g * powK g K))).1 (Nat.le_refl _)
  have b1 := (p0m q2 e2 (wid g * powK g K) _).2 ((h1 _ _ (by omega)).1 a1)
  have b2 := (p0m q1 e1 (wid g * powK g K) _).2 ((h1 _ _ (by omega)).2 a2)
  omega
 have er : rP n1 d1 (e1 - wid g * powK g K) = 0 ↔ rP n2 d2 (e2 - wid g * powK g K) = 0 := by
  rw [h1p q1, h1p q2, eq]
  exact h2 _ _ (by omega)
 have c1 := w0r q1 e1 (wid g * powK g K) (num := n1)
 have c2 := w0r q2 e2 (wid g * powK g K) (num := n2)
 rw [eq] at c1
 have ha := c1.1.trans ((h1 _ _ (by omega)).trans c2.1.symm)
 have hb := c1.2.trans ((h2 _ _ (by omega)).trans c2.2.symm)
 have k1 := @w0s (rP n1 d1 (e1 - wid g * powK g K)) (denP d1 (e1 - wid g * powK g K))
 have k2 := @w0s (rP n2 d2 (e2 - wid g * powK g K)) (denP d2 (e2 - wid g * powK g K))
 have eu : ∀ way, upP neg n1 d1 e1 (wid g) way (powK g K) = upP neg n2 d2 e2 (wid g) way (powK g K) := fun way => by
  have f1 : (0 < cmpN (rP n1 d1 (e1 - wid g * powK g K) * 2) (denP d1 (e1 - wid g * powK g K))) = (0 < cmpN (rP n2 d2 (e2 - wid g * powK g K) * 2) (denP d2 (e2 - wid g * powK g K))) := propext (by rw [k1.1, k2.1, hb])
  have f2 : (0 ≤ cmpN (rP n1 d1 (e1 - wid g * powK g K) * 2) (denP d1 (e1 - wid g * powK g K))) = (0 ≤ cmpN (rP n2 d2 (e2 - wid g * powK g K) * 2) (denP d2 (e2 - wid g * powK g K))) := propext (by rw [k1.2.1, k2.2.1, ha])
  have f3 : (cmpN (rP n1 d1 (e1 - wid g * powK g K) * 2) (denP d1 (e1 - wid g * powK g K)) = 0) = (cmpN (rP n2 d2 (e2 - wid g * powK g K) * 2) (denP d2 (e2 - wid g * powK g K)) = 0) := propext (by rw [k1.2.2, k2.2.2, ha, hb])
  have f4 : (rP n1 d1 (e1 - wid g * powK g K) ≠ 0) = (rP n2 d2 (e2 - wid g * powK g K) ≠ 0) := propext (not_congr er)
  unfold upP f0o
  simp only [f1, f2, f3, f4, eq]
 have e3 : dUp neg n1 d1 e1 (wid g) way (powK g K) = dUp neg n2 d2 e2 (wid g) way (powK g K) := by unfold dUp; rw [eq, eu]
 have e4 : h0w neg n1 d1 e1 (wid g) g.digs.toNat way (powK g K) = h0w neg n2 d2 e2 (wid g) g.digs.toNat way (powK g K) := by unfold h0w; rw [e3, eu]
 have e5 : digP neg n1 d1 e1 (wid g) g.digs.toNat way (powK g K) = digP neg n2 d2 e2 (wid g) g.digs.toNat way (powK g K) := by unfold digP; simp only [e3, e4]
 have e6 : powP neg n1 d1 e1 (wid g) g.digs.toNat way (powK g K) = powP neg n2 d2 e2 (wid g) g.digs.toNat way (powK g K) := by unfold powP; simp only [e4]
 have e7 : (rP n1 d1 (e1 - wid g * powK g K) = 0) = (rP n2 d2 (e2 - wid g * powK g K) = 0) := propext er
 unfold fitK
 simp only [e5, e6, e7]
theorem h1i (m : Nat) (x : Int) : le2 m x (bare ⟨false, m, x⟩).m (bare ⟨false, m, x⟩).e ∧ le2 (bare ⟨false, m, x⟩).m (bare ⟨false, m, x⟩).e m x := by
 by_cases h : m = 0
 · subst h; exact ⟨by unfold le2; simp, by unfold le2; rw [r0s]; simp⟩
 · rw [m0l (by omega)]
   have h1 := (c0r m (by omega)).1
   have h2 := b1i (a := m / 2 ^ tz m) (x := x) (tz m)
   rw [Nat.mul_comm, h1] at h2
   exact h2
def h0n (x : Dv) (N : Nat) : Dv := bare (c0s x.m (g0f x.e N) (isq (x.m * 2 ^ g0f x.e N)) 1 x.e)
theorem t0z {X n R : Nat} {e : Int} (hR : h0o (X * 2 ^ n) R) (hev : (e - n) % 2 = 0) {m : Nat} {k : Int} (hk : (e - n) / 2 ≤ k) :
 (le2 m k (bare (c0s X n R 1 e)).m (bare (c0s X n R 1 e)).e ↔ le2 (m * m) (2 * k) X e) ∧ (le2 (bare (c0s X n R 1 e)).m (bare (c0s X n R 1 e)).e m k ↔ le2 X e (m * m) (2 * k)) := by
 obtain ⟨s, hs, hs2⟩ : ∃ s : Nat, s = (if R * R ≠ X * 2 ^ n then 1 else 0) ∧ s ≤ 1 := ⟨_, rfl, by split <;> omega⟩
 have hst : c0s X n R 1 e = ⟨false, R * 2 + s, (e - n) / 2 - 1⟩ := by unfold c0s; rw [hs, Nat.pow_one, Nat.mul_comm 2 R]; rfl
 rw [hst]
 obtain ⟨b1, b2⟩ := h1i (R * 2 + s) ((e - n) / 2 - 1)
 generalize (bare (⟨false, R * 2 + s, (e - n) / 2 - 1⟩ : Dv)).m = bm at *
 generalize (bare (⟨false, R * 2 + s, (e - n) / 2 - 1⟩ : Dv)).e = be at *
 obtain ⟨E, hE⟩ : ∃ E, (e - n) / 2 = E := ⟨_, rfl⟩
 have he : e = 2 * E + n := by omega
 rw [hE] at b1 b2 hk
 obtain ⟨j, hj⟩ : ∃ j : Nat, k = E + j := ⟨(k - E).toNat, by omega⟩
 have c1 : le2 m k (R * 2 + s) (E - 1) ↔ m * 2 ^ j ≤ R := by
  rw [d0y (E - 1) (by omega) (Int.le_refl _), Int.sub_self, show (k - (E - 1)).toNat = j + 1 by omega, Nat.pow_succ, ← Nat.mul_assoc]
  simp only [Int.toNat_zero, Nat.pow_zero, Nat.mul_one]
  omega
 have c2 : le2 (R * 2 + s) (E - 1) m k ↔ R + s ≤ m * 2 ^ j := by
  rw [d0y (E - 1) (Int.le_refl _) (by omega), Int.sub_self, show (k - (E - 1)).toNat = j + 1 by omega, Nat.pow_succ, ← Nat.mul_assoc]
  simp only [Int.toNat_zero, Nat.pow_zero, Nat.mul_one]
  omega
 have ej : m * m * 2 ^ (j + j) = (m * 2 ^ j) * (m * 2 ^ j) := by rw [Nat.pow_add]; grind
 have d1 : le2 (m * m) (2 * k) X e ↔ (m * 2 ^ j) * (m * 2 ^ j) ≤ X * 2 ^ n := by
  rw [d0y (2 * E) (by omega) (by omega), show (2 * k - 2 * E).toNat = j + j by omega, show (e - 2 * E).toNat = n by omega, ej]
 have d2 : le2 X e (m * m) (2 * k) ↔ X * 2 ^ n ≤ (m * 2 ^ j) * (m * 2 ^ j) := by
  rw [d0y (2 * E) (by omega) (by omega), show (2 * k - 2 * E).toNat = j + j by omega, show (e - 2 * E).toNat = n by omega, ej]
 have r1 := hR.1
 have r2 := hR.2
 generalize X * 2 ^ n = M at *
 generalize m * 2 ^ j = c at *
 refine ⟨⟨fun h => d1.2 ?_, fun h => h0x (c1.2 ?_) b1⟩, ⟨fun h => d2.2 ?_, fun h => h0x b2 (c2.2 ?_)⟩⟩
 · have := c1.1 (h0x h b2)
   exact Nat.le_trans (Nat.mul_le_mul this this) r1
 · have := d1.1 h
   rcases Nat.lt_or_ge R c with q | q
   · have := Nat.mul_le_mul (show R + 1 ≤ c from q) (show R + 1 ≤ c from q)
     omega
   · exact q
 · have := c2.1 (h0x b1 h)
   rcases Nat.eq_zero_or_pos s with q | q
   · have hrr : R * R = M := by
      rcases Nat.decEq (R * R) M with z | z
      · rw [if_pos z] at hs; omega
      · exact z
     rw [← hrr]
     exact Nat.mul_le_mul (by omega) (by omega)
   · have h3 : R + 1 ≤ c := by omega
     have := Nat.mul_le_mul h3 h3
     omega
 · have h3 := d2.1 h
   rcases Nat.lt_or_ge c (R + s) with q | q
   · exfalso
     have h4 : c ≤ R := by omega
     have h5 := Nat.mul_le_mul h4 h4
     have h6 : R * R = M := by omega
     rw [if_neg (by simpa using h6)] at hs
     have h7 : c < R := by omega
     have h8 : c * c < R * R := Nat.mul_lt_mul_of_lt_of_le h7 (by omega) (by omega)
     omega
   · exact q
theorem j0r {X n R : Nat} {e : Int} (h0 : 0 < R) : (bare (c0s X n R 1 e)).m ≠ 0 := by
 unfold c0s
 have hp : 0 < 2 ^ 1 * R + if R * R ≠ X * 2 ^ n then 1 else 0 := by omega
 rw [m0l hp]
 intro h
 have := (c0r _ hp).2
 have h : (2 ^ 1 * R + if R * R ≠ X * 2 ^ n then 1 else 0) / 2 ^ tz (2 ^ 1 * R + if R * R ≠ X * 2 ^ n then 1 else 0) = 0 := h
 rw [h] at this
 cases this
theorem z0s {x : Dv} {g : Gd} {N M : Nat} {way : Int} (h0 : x.m ≠ 0) (hD : 1 ≤ g.digs.toNat) (hw : wid g * g.digs.toNat ≤ 140) (hN : 300 ≤ blen x.m + N) (hM : 300 ≤ blen x.m + M) :
 a0m false (h0n x N).m 1 (h0n x N).e g way = a0m false (h0n x M).m 1 (h0n x M).e g way := by
 have wp := b0g g
 -- the coarser one first
 have key : ∀ A B : Nat, A ≤ B → 300 ≤ blen x.m + A → a0m false (h0n x A).m 1 (h0n x A).e g way = a0m false (h0n x B).m 1 (h0n x B).e g way := by
  intro A B hAB hA
  have a1 := k0o x.e A
  have a2 := i0n x.e A
  have b1 := k0o x.e B
  have b2 := i0n x.e B
  have ra := k0n (x.m * 2 ^ g0f x.e A)
  have rb := k0n (x.m * 2 ^ g0f x.e B)
  have la := n0x (X := x.m) (n := g0f x.e A) (b := 149) (by omega) (by omega)
  have lb := n0x (X := x.m) (n := g0f x.e B) (b := 149) (by omega) (by omega)
  have hba : (x.e - (g0f x.e B : Nat)) / 2 ≤ (x.e - (g0f x.e A : Nat)) / 2 := by omega
  unfold h0n
  generalize g0f x.e A = nA at *
  generalize g0f x.e B = nB at *
  generalize isq (x.m * 2 ^ nA) = RA at *
  generalize isq (x.m * 2 ^ nB) = RB at *
  have pa : 0 < RA := (c0j RA).1 (by omega)
  have pb : 0 < RB := (c0j RB).1 (by omega)
  have sa := j0r (X := x.m) (n := nA) (e := x.e) pa
  have sb := j0r (X := x.m) (n := nB) (e := x.e) pb
  have ha := fun m k h => t0z (X := x.m) (e := x.e) ra a2 (m := m) (k := k) h
  have hb := fun m k h => t0z (X := x.m) (e := x.e) rb b2 (m := m) (k := k) h
  refine z0r (kmin := (x.e - (nA : Nat)) / 2) (by omega) (by omega) (by omega) (by omega) hD (fun m k h => ?_) (fun m k h => ?_) ?_
  · simp only [Nat.mul_one]
    exact (ha m k h).1.trans (hb m k (by omega)).1.symm
  · simp only [Nat.mul_one]
    exact (ha m k h).2.trans (hb m k (by omega)).2.symm
  · have hK := j0g (show 0 < (bare (c0s x.m nA RA 1 x.e)).m by omega) (show 0 < 1 by omega) (bare (c0s x.m nA RA 1 x.e)).e wp.1 hD
    obtain ⟨E, hE⟩ : ∃ E, (x.e - (nA : Nat)) / 2 = E := ⟨_, rfl⟩
    rw [hE] at ha hba ⊢
    have d1 := e0f (E + 1 + wid g) (wid g) (by omega)
    have hf : e0x (bare (c0s x.m nA RA 1 x.e)).m 1 (bare (c0s x.m nA RA 1 x.e)).e (wid g) g.digs.toNat ((E + 1 + wid g) / wid g) := by
     rw [g0n (by omega), Nat.mul_one]
     generalize (E + 1 + wid g) / (wid g : Int) = k at *
     rw [(ha _ _ (by omega)).1]
     have hp := e0z RA pa
     have h149 : 2 ^ 149 ≤ RA := by
      rcases Nat.lt_or_ge RA (2 ^ 149) with q | q
      · have := (b0e RA 149).2 q; omega
      · exact q
     have ww : wid g * (g.digs.toNat - 1) ≤ wid g * g.digs.toNat := Nat.mul_le_mul_left _ (by omega)
     obtain ⟨j, hj⟩ : ∃ j : Nat, (wid g : Int) * k = E + j := ⟨((wid g : Int) * k - E).toNat, by omega⟩
     rw [hj]
     have e2 : 2 * (E + (j : Int)) = 2 * E + (j + j : Nat) := by omega
     rw [d0y (2 * E) (by omega) (by omega), e2, show (2 * E + ((j + j : Nat) : Int) - 2 * E).toNat = j + j by omega, show (x.e - 2 * E).toNat = nA by omega, ← Nat.pow_add, ← Nat.pow_add]
     refine Nat.le_trans ?_ ra.1
     have h7 := Nat.mul_le_mul h149 h149
     rw [← Nat.pow_add] at h7
     exact Nat.le_trans (Nat.pow_le_pow_right (by omega) (by omega)) h7
    have := hK.le (by omega) hf
    have hm : (wid g : Int) * ((E + 1 + wid g) / wid g) ≤ wid g * theK (bare (c0s x.m nA RA 1 x.e)).m 1 (bare (c0s x.m nA RA 1 x.e)).e (wid g) g.digs.toNat := Int.mul_le_mul_of_nonneg_left this (by omega)
    omega
 rcases Nat.le_total N M with h | h
 · exact key N M h hN
 · exact (key M N h hM).symm
end Go.Slip
