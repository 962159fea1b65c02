/- The references' Placed. -/
import Derived.Outline
import Derived.Carry
import Derived.Test.YtmacohmclpnphaaGreatDoorZb1
import Derived.Test.YtmacohmclpnphaaGreatDoorZb2
import Derived.Test.YtmacohmclpnphaaGreatDoorZb3
import Derived.Test.YtmacohmclpnphaaGreatDoorZb4
import Derived.Test.YtmacohmclpnphaaGreatDoorZb5
import Derived.Test.YtmacohmclpnphaaGreatDoorZb6
import Derived.Test.YtmacohmclpnphaaGreatDoorZb7
set_option maxHeartbeats 8000000
set_option maxRecDepth 100000
namespace Go.Proofs.YtmacohmclpnphaaGreatDoor
open Go.RowKit Go.Slip
theorem n1k (n way : Int) (ng : Bool) (d : Nat) (pw : Int) (pp : Option Addr) (cc : Nat) (w : World) (hn : IsFm n) (ex un : Bool) (hf : (fmt n).fam = 2) :
 Calls Tryz.prog 124 #[.int .i64 n, .agg #[.bool ng, .slice pp (dig B16 d).length cc, .int .i64 pw, .bool ex, .bool true, .bool un], .int .i64 way] w (GVf w w.heap.size ((fmt n).greatM ng, 5)) := by
 have HF := fun W => hi0 (b0j n W)
 rw [decide_eq_true hn, hf] at HF
 have HG := fun W => hi0 (f0n n ng W hn)
 generalize (fmt n).greatM ng = r at *
 generalize fmt n = f at *
 clear hf hn
 cases ex
 · have I := Inv.start w [] True.intro
   refine a0e [.v (.int .i64 n), .v (.agg #[.bool ng, .slice pp (dig B16 d).length cc, .int .i64 pw, .bool false, .bool true, .bool un]), .v (.int .i64 way)] I Tryz.func124 ?_
   refine zq I (fun Al W I => (HF W).out) fun Al W I => ?_
   refine zqr I (fun Al W I => (HG W).out) fun Al W p28 c28 I => ?_
   exact zret I fun Al W I => ⟨p28, c28, rfl, I.fa.1, I.below⟩
 · have I := Inv.start w [] True.intro
   refine a0e [.v (.int .i64 n), .v (.agg #[.bool ng, .slice pp (dig B16 d).length cc, .int .i64 pw, .bool true, .bool true, .bool un]), .v (.int .i64 way)] I Tryz.func124 ?_
   refine zq I (fun Al W I => (HF W).out) fun Al W I => ?_
   refine zqr I (fun Al W I => (HG W).out) fun Al W p28 c28 I => ?_
   exact zret I fun Al W I => ⟨p28, c28, rfl, I.fa.1, I.below⟩
theorem n1l (n way : Int) (ng : Bool) (d : Nat) (pw : Int) (pp : Option Addr) (cc : Nat) (w : World) (hn : IsFm n) (ex un : Bool) (hf : (fmt n).fam = 3) :
 Calls Tryz.prog 124 #[.int .i64 n, .agg #[.bool ng, .slice pp (dig B16 d).length cc, .int .i64 pw, .bool ex, .bool true, .bool un], .int .i64 way] w (GVf w w.heap.size ((fmt n).nothM, 5)) := by
 have HF := fun W => hi0 (b0j n W)
 rw [decide_eq_true hn, hf] at HF
 have HG := fun W => hi0 (e0i n W hn)
 have hr : (fmt n).nothM = ⟨(fmt n).nothM.cls, false, vz⟩ := rfl
 rw [hr]
 generalize (fmt n).nothM.cls = k at *
 generalize fmt n = f at *
 clear hf hn
 cases ex
 · have I := Inv.start w [] True.intro
   refine a0e [.v (.int .i64 n), .v (.agg #[.bool ng, .slice pp (dig B16 d).length cc, .int .i64 pw, .bool false, .bool true, .bool un]), .v (.int .i64 way)] I Tryz.func124 ?_
   refine zq I (fun Al W I => (HF W).out) fun Al W I => ?_
   refine zq I (fun Al W I => (HG W).out) fun Al W I => ?_
   exact zret I fun Al W I => a0u (k := k) (fl := 5) rfl I.below
 · have I := Inv.start w [] True.intro
   refine a0e [.v (.int .i64 n), .v (.agg #[.bool ng, .slice pp (dig B16 d).length cc, .int .i64 pw, .bool true, .bool true, .bool un]), .v (.int .i64 way)] I Tryz.func124 ?_
   refine zq I (fun Al W I => (HF W).out) fun Al W I => ?_
   refine zq I (fun Al W I => (HG W).out) fun Al W I => ?_
   exact zret I fun Al W I => a0u (k := k) (fl := 5) rfl I.below
theorem n1m (n way : Int) (ng : Bool) (d : Nat) (pw : Int) (pp : Option Addr) (cc : Nat) (w : World) (hn : IsFm n) (ex un : Bool) (hf : (fmt n).fam = 1) (hw : 1 ≤ way ∧ way ≤ 5) :
 Calls Tryz.prog 124 #[.int .i64 n, .agg #[.bool ng, .slice pp (dig B16 d).length cc, .int .i64 pw, .bool ex, .bool true, .bool un], .int .i64 way] w (GVf w w.heap.size (if way ≤ 2 ∨ (way = 4 ∧ ng = false) ∨ (way = 5 ∧ ng = true) then infM ng else (fmt n).greatM ng, 5)) := by
 have HF := fun W => hi0 (b0j n W)
 rw [decide_eq_true hn, hf] at HF
 have HG := fun W => hi0 (f0n n ng W hn)
 generalize fmt n = f at *
 clear hf hn
 rcases (show way = 1 ∨ way = 2 ∨ way = 3 ∨ way = 4 ∨ way = 5 by omega) with rfl | rfl | rfl | rfl | rfl <;> cases ng <;> cases ex
 · rw [if_pos (by decide)]
   have I := Inv.start w [] True.intro
   refine a0e [.v (.int .i64 n), .v (.agg #[.bool false, .slice pp (dig B16 d).length cc, .int .i64 pw, .bool false, .bool true, .bool un]), .v (.int .i64 1)] I Tryz.func124 ?_
   refine zq I (fun Al W I => (HF W).out) fun Al W I => ?_
   exact zret I fun Al W I => a0u (k := 3) (fl := 5) rfl I.below
 · rw [if_pos (by decide)]
   have I := Inv.start w [] True.intro
   refine a0e [.v (.int .i64 n), .v (.agg #[.bool false, .slice pp (dig B16 d).length cc, .int .i64 pw, .bool true, .bool true, .bool un]), .v (.int .i64 1)] I Tryz.func124 ?_
   refine zq I (fun Al W I => (HF W).out) fun Al W I => ?_
   exact zret I fun Al W I => a0u (k := 3) (fl := 5) rfl I.below
 · rw [if_pos (by decide)]
   have I := Inv.start w [] True.intro
   refine a0e [.v (.int .i64 n), .v (.agg #[.bool true, .slice pp (dig B16 d).length cc, .int .i64 pw, .bool false, .bool true, .bool un]), .v (.int .i64 1)] I Tryz.func124 ?_
   refine zq I (fun Al W I => (HF W).out) fun Al W I => ?_
   exact zret I fun Al W I => a0u (k := 3) (fl := 5) rfl I.below
 · rw [if_pos (by decide)]
   have I := Inv.start w [] True.intro
   refine a0e [.v (.int .i64 n), .v (.agg #[.bool true, .slice pp (dig B16 d).length cc, .int .i64 pw, .bool true, .bool true, .bool un]), .v (.int .i64 1)] I Tryz.func124 ?_
   refine zq I (fun Al W I => (HF W).out) fun Al W I => ?_
   exact zret I fun Al W I => a0u (k := 3) (fl := 5) rfl I.below
 · rw [if_pos (by decide)]
   have I := Inv.start w [] True.intro
   refine a0e [.v (.int .i64 n), .v (.agg #[.bool false, .slice pp (dig B16 d).length cc, .int .i64 pw, .bool false, .bool true, .bool un]), .v (.int .i64 2)] I Tryz.func124 ?_
   refine zq I (fun Al W I => (HF W).out) fun Al W I => ?_
   exact zret I fun Al W I => a0u (k := 3) (fl := 5) rfl I.below
 · rw [if_pos (by decide)]
   have I := Inv.start w [] True.intro
   refine a0e [.v (.int .i64 n), .v (.agg #[.bool false, .slice pp (dig B16 d).length cc, .int .i64 pw, .bool true, .bool true, .bool un]), .v (.int .i64 2)] I Tryz.func124 ?_
   refine zq I (fun Al W I => (HF W).out) fun Al W I => ?_
   exact zret I fun Al W I => a0u (k := 3) (fl := 5) rfl I.below
 · rw [if_pos (by decide)]
   have I := Inv.start w [] True.intro
   refine a0e [.v (.int .i64 n), .v (.agg #[.bool true, .slice pp (dig B16 d).length cc, .int .i64 pw, .bool false, .bool true, .bool un]), .v (.int .i64 2)] I Tryz.func124 ?_
   refine zq I (fun Al W I => (HF W).out) fun Al W I => ?_
   exact zret I fun Al W I => a0u (k := 3) (fl := 5) rfl I.below
 · rw [if_pos (by decide)]
   have I := Inv.start w [] True.intro
   refine a0e [.v (.int .i64 n), .v (.agg #[.bool true, .slice pp (dig B16 d).length cc, .int .i64 pw, .bool true, .bool true, .bool un]), .v (.int .i64 2)] I Tryz.func124 ?_
   refine zq I (fun Al W I => (HF W).out) fun Al W I => ?_
   exact zret I fun Al W I => a0u (k := 3) (fl := 5) rfl I.below
 · rw [if_neg (by decide)]
   generalize f.greatM false = r at *
   have I := Inv.start w [] True.intro
   refine a0e [.v (.int .i64 n), .v (.agg #[.bool false, .slice pp (dig B16 d).length cc, .int .i64 pw, .bool false, .bool true, .bool un]), .v (.int .i64 3)] I Tryz.func124 ?_
   refine zq I (fun Al W I => (HF W).out) fun Al W I => ?_
   refine zqr I (fun Al W I => (HG W).out) fun Al W p61 c61 I => ?_
   exact zret I fun Al W I => ⟨p61, c61, rfl, I.fa.1, I.below⟩
 · rw [if_neg (by decide)]
   generalize f.greatM false = r at *
   have I := Inv.start w [] True.intro
   refine a0e [.v (.int .i64 n), .v (.agg #[.bool false, .slice pp (dig B16 d).length cc, .int .i64 pw, .bool true, .bool true, .bool un]), .v (.int .i64 3)] I Tryz.func124 ?_
   refine zq I (fun Al W I => (HF W).out) fun Al W I => ?_
   refine zqr I (fun Al W I => (HG W).out) fun Al W p61 c61 I => ?_
   exact zret I fun Al W I => ⟨p61, c61, rfl, I.fa.1, I.below⟩
 · rw [if_neg (by decide)]
   generalize f.greatM true = r at *
   have I := Inv.start w [] True.intro
   refine a0e [.v (.int .i64 n), .v (.agg #[.bool true, .slice pp (dig B16 d).length cc, .int .i64 pw, .bool false, .bool true, .bool un]), .v (.int .i64 3)] I Tryz.func124 ?_
   refine zq I (fun Al W I => (HF W).out) fun Al W I => ?_
   refine zqr I (fun Al W I => (HG W).out) fun Al W p61 c61 I => ?_
   exact zret I fun Al W I => ⟨p61, c61, rfl, I.fa.1, I.below⟩
 · rw [if_neg (by decide)]
   generalize f.greatM true = r at *
   have I := Inv.start w [] True.intro
   refine a0e [.v (.int .i64 n), .v (.agg #[.bool true, .slice pp (dig B16 d).length cc, .int .i64 pw, .bool true, .bool true, .bool un]), .v (.int .i64 3)] I Tryz.func124 ?_
   refine zq I (fun Al W I => (HF W).out) fun Al W I => ?_
   refine zqr I (fun Al W I => (HG W).out) fun Al W p61 c61 I => ?_
   exact zret I fun Al W I => ⟨p61, c61, rfl, I.fa.1, I.below⟩
 · rw [if_pos (by decide)]
   have I := Inv.start w [] True.intro
   refine a0e [.v (.int .i64 n), .v (.agg #[.bool false, .slice pp (dig B16 d).length cc, .int .i64 pw, .bool false, .bool true, .bool un]), .v (.int .i64 4)] I Tryz.func124 ?_
   refine zq I (fun Al W I => (HF W).out) fun Al W I => ?_
   exact zret I fun Al W I => a0u (k := 3) (fl := 5) rfl I.below
 · rw [if_pos (by decide)]
   have I := Inv.start w [] True.intro
   refine a0e [.v (.int .i64 n), .v (.agg #[.bool false, .slice pp (dig B16 d).length cc, .int .i64 pw, .bool true, .bool true, .bool un]), .v (.int .i64 4)] I Tryz.func124 ?_
   refine zq I (fun Al W I => (HF W).out) fun Al W I => ?_
   exact zret I fun Al W I => a0u (k := 3) (fl := 5) rfl I.below
 · rw [if_neg (by decide)]
   generalize f.greatM true = r at *
   have I := Inv.start w [] True.intro
   refine a0e [.v (.int .i64 n), .v (.agg #[.bool true, .slice pp (dig B16 d).length cc, .int .i64 pw, .bool false, .bool true, .bool un]), .v (.int .i64 4)] I Tryz.func124 ?_
   refine zq I (fun Al W I => (HF W).out) fun Al W I => ?_
   refine zqr I (fun Al W I => (HG W).out) fun Al W p61 c61 I => ?_
   exact zret I fun Al W I => ⟨p61, c61, rfl, I.fa.1, I.below⟩
 · rw [if_neg (by decide)]
   generalize f.greatM true = r at *
   have I := Inv.start w [] True.intro
   refine a0e [.v (.int .i64 n), .v (.agg #[.bool true, .slice pp (dig B16 d).length cc, .int .i64 pw, .bool true, .bool true, .bool un]), .v (.int .i64 4)] I Tryz.func124 ?_
   refine zq I (fun Al W I => (HF W).out) fun Al W I => ?_
   refine zqr I (fun Al W I => (HG W).out) fun Al W p61 c61 I => ?_
   exact zret I fun Al W I => ⟨p61, c61, rfl, I.fa.1, I.below⟩
 · rw [if_neg (by decide)]
   generalize f.greatM false = r at *
   have I := Inv.start w [] True.intro
   refine a0e [.v (.int .i64 n), .v (.agg #[.bool false, .slice pp (dig B16 d).length cc, .int .i64 pw, .bool false, .bool true, .bool un]), .v (.int .i64 5)] I Tryz.func124 ?_
   refine zq I (fun Al W I => (HF W).out) fun Al W I => ?_
   refine zqr I (fun Al W I => (HG W).out) fun Al W p61 c61 I => ?_
   exact zret I fun Al W I => ⟨p61, c61, rfl, I.fa.1, I.below⟩
 · rw [if_neg (by decide)]
   generalize f.greatM false = r at *
   have I := Inv.start w [] True.intro
   refine a0e [.v (.int .i64 n), .v (.agg #[.bool false, .slice pp (dig B16 d).length cc, .int .i64 pw, .bool true, .bool true, .bool un]), .v (.int .i64 5)] I Tryz.func124 ?_
   refine zq I (fun Al W I => (HF W).out) fun Al W I => ?_
   refine zqr I (fun Al W I => (HG W).out) fun Al W p61 c61 I => ?_
   exact zret I fun Al W I => ⟨p61, c61, rfl, I.fa.1, I.below⟩
 · rw [if_pos (by decide)]
   have I := Inv.start w [] True.intro
   refine a0e [.v (.int .i64 n), .v (.agg #[.bool true, .slice pp (dig B16 d).length cc, .int .i64 pw, .bool false, .bool true, .bool un]), .v (.int .i64 5)] I Tryz.func124 ?_
   refine zq I (fun Al W I => (HF W).out) fun Al W I => ?_
   exact zret I fun Al W I => a0u (k := 3) (fl := 5) rfl I.below
 · rw [if_pos (by decide)]
   have I := Inv.start w [] True.intro
   refine a0e [.v (.int .i64 n), .v (.agg #[.bool true, .slice pp (dig B16 d).length cc, .int .i64 pw, .bool true, .bool true, .bool un]), .v (.int .i64 5)] I Tryz.func124 ?_
   refine zq I (fun Al W I => (HF W).out) fun Al W I => ?_
   exact zret I fun Al W I => a0u (k := 3) (fl := 5) rfl I.below
theorem pr_n (n way : Int) (ng : Bool) (d : Nat) (pw : Int) (pp : Option Addr) (cc : Nat) (w : World) (hn : IsFm n) (hp : Rd w .i64 pp (dig B16 d)) (hl : (dig B16 d).length ≤ 1000) (ex un : Bool) (hpw : ¬ (un = true ∧ (fmt n).fam ≠ 1 ∧ pw < (fmt n).g.lo) → -20000 ≤ pw ∧ pw ≤ 20000) :
 Calls Tryz.prog 124 #[.int .i64 n, .agg #[.bool ng, .slice pp (dig B16 d).length cc, .int .i64 pw, .bool ex, .bool false, .bool un], .int .i64 way] w (GVf w w.heap.size ((fmt n).placedM ⟨ng, d, pw, ex, false, un⟩ way)) := by
 have HF := fun W => hi0 (b0j n W)
 rw [decide_eq_true hn] at HF
 have HZ := fun g W => hi0 (l0o n g W hn)
 have hz : ∀ g, (fmt n).zeroM g = ⟨1, g && decide ((fmt n).fam = 1), vz⟩ := fun _ => rfl
 have HW := fun W => hi0 (c0q (fmt n).g W)
 have hM : (fmt n).placedM ⟨ng, d, pw, ex, false, un⟩ way = if un = true ∧ (fmt n).fam ≠ 1 ∧ pw < (fmt n).g.lo then ((fmt n).zeroM false, 3) else if d = 0 then ((fmt n).zeroM ng, (fmt n).flP ⟨ng, d, pw, ex, false, un⟩) else (⟨2, ng, bare ⟨ng, d, wid (fmt n).g * pw⟩⟩, (fmt n).flP ⟨ng, d, pw, ex, false, un⟩) := by unfold Fm.placedM; simp only [Bool.false_eq_true, if_false]
 have hFL : (fmt n).flP ⟨ng, d, pw, ex, false, un⟩ = if un then (if (fmt n).fam = 1 then (if ex then 0 else 3) else 3) else if ex then 0 else 1 := rfl
 have G := c0c hn
 simp only [hz, Bool.false_and] at hM
 generalize (fmt n).placedM ⟨ng, d, pw, ex, false, un⟩ way = R at *
 generalize (fmt n).flP ⟨ng, d, pw, ex, false, un⟩ = FL at *
 generalize fmt n = f at *
 have hfam := G.fam
 have wp := b0n f.g
 have hmu := fun h => k0f (wd := wid f.g) (k := pw) (B := 20000) wp.2 (hpw h)
 have h0 := a0i a0h d
 generalize hm : (wid f.g : Int) * pw = mw at *
 have HM := hi0 hm
 obtain ⟨x, hx⟩ : ∃ x, bare ⟨ng, d, mw⟩ = x := ⟨_, rfl⟩
 rw [hx] at hM
 have HB := fun hk W p c h => hi0 (l0l ng p _ c mw d x W h rfl (by have := hmu hk; omega) (by have := hmu hk; omega) hx)
 clear hm hx hz
 generalize hq : (fun g : Bool => g && decide (f.fam = 1)) = q
 have hq2 : ∀ g : Bool, (g && decide (f.fam = 1)) = q g := fun g => by rw [← hq]
 have hq3 : q false = false := by rw [← hq]; rfl
 simp only [hq2] at hM HZ
 clear hq hq2
 have I := Inv.start w [rdF .i64 pp (dig B16 d)] ⟨hp, True.intro⟩
 refine a0e [.v (.int .i64 n), .v (.agg #[.bool ng, .slice pp (dig B16 d).length cc, .int .i64 pw, .bool ex, .bool false, .bool un]), .v (.int .i64 way)] I Tryz.func124 ?_
 refine zq I (fun Al W I => (HF W).out) fun Al W I => ?_
 obtain ⟨ne, hne⟩ : ∃ ne, (!ex) = ne := ⟨_, rfl⟩
 refine zb I 18 (!ex) (ne) (hne) fun Al W I => ?_
 refine zcut I (some 2000018) (fun fr bx gs => ∃ (U1 : Nat → Value) (k1 : Nat), fr = (.v (.int .i64 n) :: .v (.agg #[.bool ng, .slice pp (dig B16 d).length cc, .int .i64 pw, .bool ex, .bool false, .bool un]) :: .v (.int .i64 way) :: .v undef :: .p 0 0 :: .v undef :: .p 1 0 :: .v (.int .i64 0) :: .p 2 0 :: .v (U1 9) :: .v (.int .i64 (k1 : Int)) :: sw U1 11 7 (.v (.bool ne) :: .v (U1 19) :: .v undef :: .v (U1 21) :: su 2 (sw U1 24 6 (.v undef :: sw U1 31 22 (.v undef :: sw U1 54 10 (.v undef :: sw U1 65 7 (.v undef :: sw U1 73 2 (.v undef :: sw U1 76 5 (.v undef :: sw U1 82 6 (.v undef :: sw U1 89 21 []))))))))) : List SV) ∧ bx = [⟨48, [.v (.bool ng), .v (.slice pp (dig B16 d).length cc), .v (.int .i64 pw), .v (.bool ex), .v (.bool false), .v (.bool un)], false⟩, ⟨32, [.v (.int .i64 0), .v (.bool false), .v (.bool false), .v (.slice none 0 0), .v (.int .i64 0)], false⟩, ⟨62, [.v (.int .i64 (f.size : Int)), .v (.int .i64 (f.E : Int)), .v (.int .i64 (f.F : Int)), .v (.int .i64 f.g.rad), .v (.int .i64 f.g.digs), .v (.int .i64 f.g.lo), .v (.int .i64 f.g.hi), .v (.bool f.g.grad), .v (.int .i64 (f.fam : Int))], false⟩] ∧ gs = [rdF .i64 pp (dig B16 d)] ∧ (k1 = if ex then 0 else 1)) ?_ ?_
 · intro J hJ Al W I
   rcases Bool.eq_false_or_eq_true ne with rfl | rfl
   · exact a0o I J fun Al W U I => hJ _ _ _ _ _ ⟨U, 1, rfl, rfl, rfl, (by revert hne; cases ex <;> simp)⟩ (I.pick [0])
   exact a0o I J fun Al W U I => hJ _ _ _ _ _ ⟨U, 0, rfl, rfl, rfl, (by revert hne; cases ex <;> simp)⟩ (I.pick [0])
 rintro _ _ _ ⟨U1, k1, rfl, rfl, rfl, hk1⟩ Al W I
 obtain ⟨ub, hub⟩ : ∃ ub, un = ub := ⟨_, rfl⟩
 refine zb I 64 (un) (ub) (hub) fun Al W I => ?_
 refine zcut I (some 2000064) (fun fr bx gs => ∃ (U2 : Nat → Value) (k2 : Nat), fr = (.v (.int .i64 n) :: .v (.agg #[.bool ng, .slice pp (dig B16 d).length cc, .int .i64 pw, .bool ex, .bool false, .bool un]) :: .v (.int .i64 way) :: .v undef :: .p 0 0 :: .v undef :: .p 1 0 :: .v (U2 7) :: .p 2 0 :: .v (U2 9) :: .v (.int .i64 (k2 : Int)) :: sw U2 11 7 (.v (.bool ne) :: .v (U2 19) :: .v (.bool false) :: .v (U2 21) :: su 2 (sw U2 24 6 (.v undef :: sw U2 31 22 (.v undef :: sw U2 54 10 (.v (.bool ub) :: sw U2 65 23 (.v undef :: sw U2 89 21 [])))))) : List SV) ∧ bx = [⟨48, [.v (.bool ng), .v (.slice pp (dig B16 d).length cc), .v (.int .i64 pw), .v (.bool ex), .v (.bool false), .v (.bool un)], false⟩, ⟨32, [.v (.int .i64 0), .v (.bool false), .v (.bool false), .v (.slice none 0 0), .v (.int .i64 0)], false⟩, ⟨62, [.v (.int .i64 (f.size : Int)), .v (.int .i64 (f.E : Int)), .v (.int .i64 (f.F : Int)), .v (.int .i64 f.g.rad), .v (.int .i64 f.g.digs), .v (.int .i64 f.g.lo), .v (.int .i64 f.g.hi), .v (.bool f.g.grad), .v (.int .i64 (f.fam : Int))], false⟩] ∧ gs = [rdF .i64 pp (dig B16 d)] ∧ (FL = k2) ∧ (¬ (un = true ∧ f.fam ≠ 1 ∧ pw < f.g.lo))) ?_ ?_
 · intro J hJ Al W I
   rcases Bool.eq_false_or_eq_true ub with rfl | rfl
   · by_cases h1 : f.fam = 1
     · refine zb I 67 ((f.fam : Int) == 1) (true) (beq_iff_eq.2 (by omega)) fun Al W I => ?_
       rcases Bool.eq_false_or_eq_true (!ex) with f71 | f71
       · refine zb I 71 (!ex) (true) (f71) fun Al W I => ?_
         refine zb I 75 (decide ((f.fam : Int) > 1)) (false) (dFa (by omega)) fun Al W I => ?_
         exact a0o I J fun Al W U I => hJ _ _ _ _ _ ⟨U, 3, rfl, rfl, rfl, (by rw [hFL, if_pos hub, if_pos h1]; revert f71; cases ex <;> simp), (fun h => h.2.1 h1)⟩ (I.pick [0])
       refine zb I 71 (!ex) (false) (f71) fun Al W I => ?_
       refine zb I 75 (decide ((f.fam : Int) > 1)) (false) (dFa (by omega)) fun Al W I => ?_
       exact a0o I J fun Al W U I => hJ _ _ _ _ _ ⟨U, k1, rfl, rfl, rfl, (by rw [hFL, if_pos hub, if_pos h1, hk1]; revert f71; cases ex <;> simp), (fun h => h.2.1 h1)⟩ (I.pick [0])
     refine zb I 67 ((f.fam : Int) == 1) (false) (bFn (by omega)) fun Al W I => ?_
     refine zb I 75 (decide ((f.fam : Int) > 1)) (true) (dTr (by omega)) fun Al W I => ?_
     rcases Bool.eq_false_or_eq_true (decide (pw < f.g.lo)) with f81 | f81
     · refine zb I 81 (decide (pw < f.g.lo)) (true) (f81) fun Al W I => ?_
       refine zq I (fun Al W I => (HZ false W).out) fun Al W I => ?_
       rw [hM, if_pos ⟨hub, h1, oTr f81⟩]
       exact zret I fun Al W I => a0u (k := 1) (fl := 3) rfl I.below
     refine zb I 81 (decide (pw < f.g.lo)) (false) (f81) fun Al W I => ?_
     exact a0o I J fun Al W U I => hJ _ _ _ _ _ ⟨U, 3, rfl, rfl, rfl, (by rw [hFL, if_pos hub, if_neg h1]), (fun h => absurd h.2.2 (oFa f81))⟩ (I.pick [0])
   exact a0o I J fun Al W U I => hJ _ _ _ _ _ ⟨U, k1, rfl, rfl, rfl, (by rw [hFL, if_neg (by rw [hub]; simp), hk1]), (fun h => by rw [hub] at h; cases h.1)⟩ (I.pick [0])
 rintro _ _ _ ⟨U2, k2, rfl, rfl, rfl, hk2, hlo⟩ Al W I
 rcases Bool.eq_false_or_eq_true ((((dig B16 d).length : Nat) : Int) == 0) with f88 | f88
 · refine zb I 88 ((((dig B16 d).length : Nat) : Int) == 0) (true) (f88) fun Al W I => ?_
   refine zq I (fun Al W I => (HZ ng W).out) fun Al W I => ?_
   rw [hM, if_neg hlo, if_pos (h0.1 (by have := beq_iff_eq.1 f88; omega)), hk2]
   exact zret I fun Al W I => a0u (k := 1) (fl := k2) rfl I.below
 refine zb I 88 ((((dig B16 d).length : Nat) : Int) == 0) (false) (f88) fun Al W I => ?_
 refine zd [1] I fun Al W I => ?_
 refine zk [0, 1, 2, 3, 4, 5, 6, 7, 9, 10, 15] I fun I => ?_
 refine zo 8 I fun I => ?_
 refine zq I (fun Al W I => (HW W).out) fun Al W I => ?_
 refine zki 11 I .i64 (((wid f.g : Nat) : Int) * pw) (mw) ((by rw [HM.out]; exact IntWalk.i64_in _ (by have := hmu hlo; omega))) fun I => ?_
 refine zk [12] I fun I => ?_
 refine zo 13 I fun I => ?_
 refine zqr I (fun Al W I => (HB hlo W pp cc I.fa.1).out) fun Al W p107 c107 I => ?_
 refine zk [14] I fun I => ?_
 refine zo 16 I fun I => ?_
 refine zn I fun Al W I => ?_
 refine zk [17] I fun I => ?_
 rw [hM, if_neg hlo, if_neg (fun h => by have := h0.2 h; have := bnF f88; omega), hk2]
 exact zret I fun Al W I => ⟨p107, c107, rfl, I.fa.1, I.below⟩
theorem r0j (n way : Int) (p : Pl) (pp : Option Addr) (cc : Nat) (w : World) (hn : IsFm n) (hw : 1 ≤ way ∧ way ≤ 5) (hp : Rd w .i64 pp (dig B16 p.d)) (hl : (dig B16 p.d).length ≤ 1000) (hpw : p.over = false → ¬ (p.under = true ∧ (fmt n).fam ≠ 1 ∧ p.pow < (fmt n).g.lo) → -20000 ≤ p.pow ∧ p.pow ≤ 20000) :
 Calls Tryz.prog 124 #[.int .i64 n, .agg #[.bool p.neg, .slice pp (dig B16 p.d).length cc, .int .i64 p.pow, .bool p.exact, .bool p.over, .bool p.under], .int .i64 way] w (GVf w w.heap.size ((fmt n).placedM p way)) := by
 obtain ⟨ng, d, pw, ex, ov, un⟩ := p
 simp only at hp hl hpw ⊢
 have hfam := (c0c hn).fam
 cases ov with
 | true =>
  unfold Fm.placedM
  rw [if_pos rfl]
  by_cases f2 : (fmt n).fam = 2
  · rw [if_pos f2]; exact n1k n way ng d pw pp cc w hn ex un f2
  · rw [if_neg f2]
    by_cases f3 : (fmt n).fam = 3
    · rw [if_pos f3]; exact n1l n way ng d pw pp cc w hn ex un f3
    · rw [if_neg f3]; exact n1m n way ng d pw pp cc w hn ex un (by omega) hw
 | false =>
  exact pr_n n way ng d pw pp cc w hn hp hl ex un (fun h => hpw rfl h)
end Go.Proofs.YtmacohmclpnphaaGreatDoor
namespace Go.Slip
open Go.RowKit
/-! ### Slices of structs -/
structure y0f (P : Program) (t e : TypeId) (s bytes : Nat) : Prop where
 ht : P.underlying t = some (.slice e)
 hi : ∃ i z, P.info? e = some i ∧ i.zero = some z ∧ i.size = s ∧ i.bytes = bytes ∧ z.cells.size = s
 pos : 0 < s
 le : bytes ≤ 100
theorem w0k {P : Program} {t e : TypeId} {s bytes : Nat} {z : Value} (h1 : P.underlying t = some (.slice e)) (h2 : (P.info? e).map (fun i => (i.zero, i.size, i.bytes)) = some (some z, s, bytes)) (h3 : Nat.ble bytes 100 = true) (h4 : Nat.beq z.cells.size s = true) (h5 : Nat.ble 1 s = true) : y0f P t e s bytes := by
 refine ⟨h1, ?_, Nat.le_of_ble_eq_true h5, Nat.le_of_ble_eq_true h3⟩
 cases h : P.info? e with
 | none => rw [h] at h2; cases h2
 | some i =>
  rw [h] at h2
  simp only [Option.map_some, Option.some.injEq, Prod.mk.injEq] at h2
  exact ⟨i, z, rfl, h2.1, h2.2.1, h2.2.2, Nat.eq_of_beq_eq_true h4⟩
def OwnS (w : World) (base : Nat) (e : TypeId) (s : Nat) (p : Option Addr) (c n : Nat) (vs : List Value) : Prop := w.ownsRow base e s (.slice p n c) n vs
theorem OwnS.nil (w : World) (base : Nat) (e : TypeId) (s : Nat) : OwnS w base e s none 0 0 [] := World.ownsRow_nil w base e s
section
variable {w w' : World} {base : Nat} {e : TypeId} {s : Nat} {p : Option Addr} {c n : Nat} {vs : List Value}
theorem OwnS.form (h : OwnS w base e s p c n vs) : (p = none ∧ c = 0 ∧ n = 0 ∧ vs = []) ∨ ∃ g, p = some ⟨g, 0, none⟩ ∧ base ≤ g ∧ g < w.heap.size ∧ n ≤ c ∧ c ≤ maxLen := by
 rcases h.2 with ⟨h1, h2⟩ | ⟨g, cap, cur, hv, hb, hg, hn, hc, _, _⟩
 · left
   simp only [Value.slice.injEq] at h1
   refine ⟨h1.1, h1.2.2, h2, List.eq_nil_of_length_eq_zero ?_⟩
   rw [h.1, h2, Nat.zero_mul]
 · right
   simp only [Value.slice.injEq] at hv
   obtain ⟨rfl, _, rfl⟩ := hv
   exact ⟨g, rfl, hb, (Array.getElem?_eq_some_iff.1 hg).1, hn, hc⟩
theorem OwnS.blk_lt (h : OwnS w base e s p c n vs) (hp : p.isSome = true) : base ≤ blk p ∧ blk p < w.heap.size := by
 rcases h.form with ⟨rfl, _, _, rfl⟩ | ⟨g, rfl, h1, h2, _⟩
 · simp at hp
 · exact ⟨h1, h2⟩
theorem OwnS.mono {b' : Nat} (h : OwnS w base e s p c n vs) (hb : b' ≤ base) : OwnS w b' e s p c n vs := by
 refine ⟨h.1, ?_⟩
 rcases h.2 with h1 | ⟨g, cap, cur, hv, hbg, r⟩
 · exact .inl h1
 · exact .inr ⟨g, cap, cur, hv, by omega, r⟩
theorem OwnS.same (h : OwnS w base e s p c n vs) (hb : p.isSome = true → w'.heap[blk p]? = w.heap[blk p]?) : OwnS w' base e s p c n vs := by
 refine ⟨h.1, ?_⟩
 rcases h.2 with h1 | ⟨g, cap, cur, hv, hbg, hg, r⟩
 · exact .inl h1
 · simp only [Value.slice.injEq] at hv
   obtain ⟨rfl, h2, rfl⟩ := hv
   exact .inr ⟨g, c, cur, rfl, hbg, by rw [← hg]; exact hb rfl, r⟩
theorem OwnS.cell (h : OwnS w base e s p c n vs) {j : Nat} {u : Value} (hu : vs[j]? = some u) : w.cell? (at_ p j) = some u := by
 rcases h.form with ⟨_, _, _, rfl⟩ | ⟨g, rfl, _⟩
 · simp at hu
 · have := World.ownsRow.cells h (g := g) rfl j u hu
   rw [← this]
   unfold at_ Addr.add
   split <;> simp_all
theorem OwnS.solid (h : OwnS w base e s p c n vs) : i0l p n := by
 rcases h.form with ⟨_, _, rfl, _⟩ | ⟨g, rfl, _⟩
 · exact fun h => by simp at h
 · exact fun _ => ⟨rfl, rfl⟩
theorem OwnS.far (h : OwnS w base e s p c n vs) {b : Nat} {t : TypeId} {us : Array Value} (hX : Bt w b t us) (hne : Nat.beq t e = false) (hp : p.isSome = true) : blk p ≠ b := by
 rcases h.2 with ⟨h1, h2⟩ | ⟨g, cap, cur, hv, hb, hg, _⟩
 · simp only [Value.slice.injEq] at h1
   rw [h1.1] at hp; cases hp
 · simp only [Value.slice.injEq] at hv
   intro hE
   rw [hv.1] at hE
   have hE2 : g = b := hE
   subst hE2
   have hE3 := hg.symm.trans hX
   simp only [Option.some.injEq, Obj.cells.injEq] at hE3
   rw [hE3.2.1] at hne
   simp at hne
theorem OwnS.apart (h : OwnS w base e s p c n vs) {b2 : Nat} {k : IntKind} {e2 : TypeId} {q : Option Addr} {c2 : Nat} {xs : List Nat} (o : Own w b2 k e2 q c2 xs) (hne : Nat.beq e2 e = false) (hp : p.isSome = true) : ¬ (q.isSome = true ∧ blk q = blk p) := by
 rintro ⟨hq, he⟩
 rcases h.2 with ⟨h1, h2⟩ | ⟨g, cap, cur, hv, hb, hg, _⟩
 · simp only [Value.slice.injEq] at h1
   rw [h1.1] at hp; cases hp
 · rcases o.2 with ⟨h1, h2⟩ | ⟨g', cap', cur', hv', hb', hg', _⟩
   · simp only [Value.slice.injEq] at h1
     rw [h1.1] at hq; cases hq
   · simp only [Value.slice.injEq] at hv hv'
     rw [hv.1, hv'.1] at he
     have hE : g' = g := he
     subst hE
     have := hg.symm.trans hg'
     simp only [Option.some.injEq, Obj.cells.injEq] at this
     rw [this.2.1] at hne
     simp at hne
end
def h0m (b : Nat) (e : TypeId) (s : Nat) (p : Option Addr) (c n : Nat) (vs : List Value) : PF :=
 ⟨fun w => OwnS w b e s p c n vs, fun a => p.isSome = true ∧ blk p = a, fun _ _ h hb _ => h.same fun hp => hb _ (h.blk_lt hp).2 ⟨hp, rfl⟩, fun _ _ h hf => hf.2 ▸ (h.blk_lt hf.1).2⟩
section
variable {P : Program} {w : World}
theorem i0s {t e : TypeId} {s bytes : Nat} (hty : y0f P t e s bytes) {p : Option Addr} {n c m : Nat} (hp : i0l p n) (hm : m < n) : (VO.ix t (.slice p n c) (.int .i64 (m : Int))).sem.run P w = .ok (.pointer (some (at_ p (m * s)))) w := by
 obtain ⟨i, z, hi, -, hs, -⟩ := hty.hi
 have hel : P.elem t = e := n0d hty.ht
 show (Instr.indexAt _ _ _).run P w = _
 rw [run_indexAt_solid w t p n c .i64 m (by rw [hel]; exact hty.ht) hp, if_pos (show (0 : Int) ≤ (m : Int) ∧ (m : Int) < (n : Int) by omega)]
 have hz : (sizeOf (P.elem t)).run P w = .ok s w := by
  rw [hel]
  simp [sizeOf, typeInfo, hi, hs]
 simp only [hz, Result.andThen_ok, Int.toNat_natCast]
theorem h0k {ty : TypeId} {base : Nat} {e : TypeId} {s : Nat} {p : Option Addr} {c n : Nat} {vs : List Value} (hr : OwnS w base e s p c n vs) {k : Nat} (hT : d0m P ty k) {m : Nat} (cs : List Value) (hc : (vs.drop m).take cs.length = cs) (hn : cs.length = k) : (VO.ld ty (.pointer (some (at_ p m)))).sem.run P w = .ok (.agg cs.toArray) w := by
 obtain ⟨⟨d, hu, hd⟩, hi⟩ := hT
 show (Instr.loadAt _ _).run P w = _
 have hE : at_ p m = ⟨(at_ p m).block, (at_ p m).off, none⟩ := rfl
 rw [hE]
 refine run_loadAt_mid w _ _ ty cs d (fun j v hv => ?_) hu hd (by rw [hi, hn])
 have hj := (List.getElem?_eq_some_iff.1 hv).1
 rw [← hc, List.getElem?_take, if_pos hj, List.getElem?_drop] at hv
 have := hr.cell hv
 rw [← this]
 unfold at_
 simp only [Nat.add_assoc]
end
section
variable {P : Program} {ops : Array Oper} {rest : List Oper} {o : Oper} {a : Act} {Q : Exit → Act → World → Prop} {w : World} {K : Act → World → Prop}
theorem j1g (s x : Operand) (t ty : TypeId) {pos : String} {d : Option Tmp} {af : Array Edge} {g : Option (Nat × Bool)} (ho : o = ⟨d, .call { callee := .builtin .append, args := #[s, x], argTypes := #[t, t] }, ty, pos, af, g⟩)
 {e : TypeId} {sz bytes : Nat} (hty : y0f P t e sz bytes) (base : Nat) (p : Option Addr) (n c : Nat) (vs : List Value) (hown : OwnS w base e sz p c n vs)
 (q : Addr) (m c2 : Nat) (ys : List Value) (hl : ys.length = m * sz) (hnews : ∀ j u, ys[j]? = some u → w.cell? (q.add j) = some u) (hone : ys.all (·.oneCell') = true) (hs : a.eval s = .slice p n c) (hx : a.eval x = .slice (some q) m c2)
 (hb : n + m ≤ 1000000000) (hbase : base ≤ w.heap.size) (hw : Region.wanted o (yielded ops a.tmps) = true)
 (h : ∀ p' c' w', OwnS w' base e sz p' c' (n + m) (vs ++ ys) → w.grownBy w' (p.map (·.block)) → (p'.isSome = true → (p.isSome = true ∧ blk p' = blk p) ∨ blk p' = w.heap.size) → K (a.put d (.slice p' (n + m) c')) w') : OpW P ops Q o K a w := by
 obtain ⟨i, z, hi, hz, hs1, hbt, hzs⟩ := hty.hi
 obtain ⟨v', w', hr, hO, hg, hnn, hat⟩ := run_append_own_at (P := P) w base t ty e i z sz bytes hty.ht hi hz hs1 hbt hzs hty.pos _ _ _ hown q m c2 ys hl hnews (fun u hu => List.all_eq_true.1 hone u hu) (by simp only [maxLen]; omega)
  (by have := Nat.mul_le_mul hb hty.le; omega) hbase
 have hv : ∃ p' c', v' = .slice p' (n + m) c' := by
  rcases hO.2 with ⟨h1, h2⟩ | ⟨g, cap, cur, h1, _⟩
  · exact ⟨none, 0, by rw [h1, h2]⟩
  · exact ⟨_, _, h1⟩
 obtain ⟨p', c', rfl⟩ := hv
 have hg' : w.grownBy w' (p.map (·.block)) := by cases p <;> exact hg
 refine ⟨?_⟩
 rw [if_pos hw]
 subst ho
 unfold Oper.wp execOp
 simp only [resolve, invoke, builtin, Sem.run_bind, Sem.run_pure, Result.andThen_ok, List.map_toArray, List.map_cons, List.map_nil, hs, hx, hr]
 refine h p' c' w' hO hg' fun hp' => ?_
 cases p' with
 | none => cases hp'
 | some a' =>
  rcases hat with h1 | h1
  · cases p with
    | none => cases h1
    | some b =>
     left
     exact ⟨rfl, Option.some.inj h1⟩
  · exact .inr (Option.some.inj h1)
end
/-! ### A block that was handed in -/
theorem Bt.far {w : World} {b b' : Nat} {t t' : TypeId} {vs us : Array Value} (h : Bt w b t vs) (hX : Bt w b' t' us) (hne : Nat.beq t t' = false) : ¬ (b = b') := by
 intro e
 subst e
 have := h.symm.trans hX
 simp only [Option.some.injEq, Obj.cells.injEq] at this
 rw [this.2.1] at hne
 simp at hne
def btF (b : Nat) (t : TypeId) (vs : Array Value) : PF :=
 ⟨fun w => Bt w b t vs, fun a => b = a, fun _ _ h hb _ => (hb b h.lt rfl).trans h, fun _ _ h hf => hf ▸ h.lt⟩
theorem g1w {P : Program} {w : World} {b : Nat} {t : TypeId} {vs : Array Value} (h : Bt w b t vs) {ty k : Nat} (hT : d0m P ty k) {m : Nat} (cs : List Value) (hc : (vs.toList.drop m).take cs.length = cs) (hn : cs.length = k) : (VO.ld ty (.pointer (some (at_ (some ⟨b, 0, none⟩) m)))).sem.run P w = .ok (.agg cs.toArray) w := by
 have := v0t h hT m cs hc hn
 show (Instr.loadAt _ _).run P w = _
 unfold at_
 simpa using this
theorem r0k {α : Type} {s : Nat} {f : α → List Value} (hf : ∀ x, (f x).length = s) : ∀ {xs : List α} {i : Nat} {x : α}, xs[i]? = some x → ((xs.flatMap f).drop (i * s)).take (f x).length = f x
 | [], _, _, h => by simp at h
 | a :: l, 0, x, h => by
  simp only [List.getElem?_cons_zero, Option.some.injEq] at h
  subst h
  rw [Nat.zero_mul, List.drop_zero, List.flatMap_cons, List.take_left']
  rfl
 | a :: l, i + 1, x, h => by
  rw [List.getElem?_cons_succ] at h
  have := r0k hf h
  rw [List.flatMap_cons, Nat.add_mul, Nat.one_mul, Nat.add_comm, ← List.drop_drop, List.drop_left' (hf a)]
  exact this
theorem Kp.toBelow {u : Nat} {w w' : World} {t : TypeId} {vs : Array Value} (h : Kp [u] w w') (U : Bt w u t vs) (U' : Bt w' u t vs) : Below w.heap.size w w' :=
 ⟨h.os, h.tape, h.output, h.size, fun k hk => by
   by_cases e : k = u
   · subst e; exact Eq.trans U' (Eq.symm U)
   · exact h.block k hk (by simp [e])⟩
/-! ### Steps -/
def y0g : List Box → Bool
 | [] => true
 | b :: l => match b.ro with | true => false | false => y0g l
theorem o0e : ∀ {l : List Box}, y0g l = true → ∀ k, k < l.length → (lk bx0 l k).ro = false
 | [], _, _, h => by simp at h
 | b :: l, h, k, hk => by
  unfold y0g at h
  split at h
  · cases h
  · rename_i hb
    cases k with
    | zero => exact hb
    | succ k => exact o0e h k (by simpa using hk)
section
variable {P : Program} {Q : Exit → Act → World → Prop} {E : List Nat} {w0 : World} {A : List Nat} {fs : List PF} {W V : World} {c : Cfg}
theorem Inv.grown {W' : World} {bx : List Box} {b : Nat} {e : TypeId} {s : Nat} {p p' : Option Addr} {cc c' n n' : Nat} {vs vs' : List Value} (I : Inv E w0 A bx (h0m b e s p cc n vs :: fs) W) (hb : w0.heap.size ≤ b) (hrw : y0g bx = true)
 (hO : OwnS W' b e s p' c' n' vs') (hg : W.grownBy W' (p.map (·.block))) (hat : p'.isSome = true → (p.isSome = true ∧ blk p' = blk p) ∨ blk p' = W.heap.size) (hfar : p.isSome = true → PF.far (blk p) fs) :
 Inv E w0 A bx (h0m b e s p' c' n' vs' :: fs) W' := by
 have hrow := I.fa.1
 have hne : ∀ k, p.map (·.block) = some k → p.isSome = true ∧ blk p = k := fun k h => by
  cases p with
  | none => cases h
  | some a => exact ⟨rfl, Option.some.inj h⟩
 have keep : ∀ k, k < W.heap.size → (p.isSome = true → blk p ≠ k) → W'.heap[k]? = W.heap[k]? := fun k hk h => hg.block k hk fun e => by
  obtain ⟨h1, h2⟩ := hne k e.symm
  exact h h1 h2
 refine ⟨⟨hg.os.trans I.bel.os, hg.tape.trans I.bel.tape, hg.output.trans I.bel.output, Nat.le_trans I.bel.size hg.size, fun k hk hkE => ?_⟩, I.ge, I.nd, I.len, I.pre, fun k hk => ?_, ⟨hO, ?_⟩, fun a ha => ⟨fun hf => ?_, (I.far a ha).2⟩⟩
 · rw [keep k (Nat.lt_of_lt_of_le hk I.bel.size) fun hp => by have := (hrow.blk_lt hp).1; omega]
   exact I.bel.block k hk hkE
 · have hF : Fa A bx (lk 0 A k) := ⟨k, hk, o0e hrw k hk, rfl⟩
   have h1 := I.bt k hk
   unfold Bt at h1 ⊢
   rw [keep _ (I.lt _ hF) fun hp e => (I.far _ hF).1 ⟨hp, e⟩]
   exact h1
 · refine PF.all_keep hg.size I.fa.2 fun k hk ha => keep k hk fun hp => ha _ (hfar hp)
 · rcases hat hf.1 with ⟨hp, h⟩ | h
   · exact (I.far a ha).1 ⟨hp, h.symm.trans hf.2⟩
   · have := I.lt a ha
     have := hf.2
     omega
def apOf (c : Cfg) (A : List Nat) : Option (TypeId × Value × Value) :=
 match hdOp c with
 | some ⟨_, .call ⟨.builtin .append, ⟨[s, x]⟩, ⟨[t, t']⟩⟩, _, _, _, _⟩ => match Nat.beq t t' with
  | true => some (t, evr A c.fr s, evr A c.fr x)
  | false => none
 | _ => none
theorem zap {e : TypeId} {sz : Nat} {p : Option Addr} {cc n : Nat} {vs : List Value} (I : Inv E w0 A c.bx (h0m w0.heap.size e sz p cc n vs :: fs) W) {t : TypeId} {bytes : Nat} (hty : y0f P t e sz bytes) (k m : Nat) (news : List Nat → List Value)
 (hbox : ∀ A W, Inv E w0 A (zr P none c).bx (h0m w0.heap.size e sz p cc n vs :: fs) W → Bt W (lk 0 A k) e (news A).toArray) (hcap : n + m ≤ 1000000000)
 (hfar : ∀ A W, Inv E w0 A (zr P none c).bx (h0m w0.heap.size e sz p cc n vs :: fs) W → p.isSome = true → PF.far (blk p) fs)
 (h : ∀ A W p' c', (p'.isSome = true → PF.far (blk p') fs) → Inv E w0 A (putc (zr P none c) (.v (.slice p' (n + m) c'))).bx (h0m w0.heap.size e sz p' c' (n + m) (vs ++ news A) :: fs) W → G P Q A (putc (zr P none c) (.v (.slice p' (n + m) c'))) W)
 (hl : ∀ A, Nat.beq (news A).length (m * sz) = true := by intro _; kernel_rfl) (hone : ∀ A, (news A).all (·.oneCell') = true := by intro _; kernel_rfl)
 (ho : ∀ A, apOf (zr P none c) A = some (t, .slice p n cc, .slice (some ⟨lk 0 A k, 0, none⟩) m m) := by intro _; kernel_rfl)
 (hr : ∀ A w, (zms P none 5000 c A w).map (·.1) = (zms P none 5000 c A w).map (·.2) := by intro _ _; kernel_rfl)
 (hrw : y0g (zr P none c).bx = true := by kernel_rfl)
 (hm : ok1 (zr P none c).rg (zr P none c).bx = ok2 (zr P none c).rg := by kernel_rfl) : G P Q A c W :=
 b0y I hr fun A W I => by
  have ho2 := ho A
  have h2 := h A
  have hbox2 := hbox A W I
  have hfar2 := hfar A W I
  have hl2 := hl A
  have hone2 := hone A
  clear hr ho h hbox hfar hl hone
  generalize zr P none c = c at *
  unfold apOf hdOp at ho2
  split at ho2
  · rename_i hn'
    split at ho2
    · rename_i hbeq
      have htt := Nat.eq_of_beq_eq_true hbeq
      subst htt
      simp only [Option.some.injEq, Prod.mk.injEq] at ho2
      obtain ⟨rfl, ho1, ho2⟩ := ho2
      split at hn'
      · rename_i o' hn
        split at hn'
        · rename_i hw
          simp only [Option.some.injEq] at hn'
          subst hn'
          refine G_op (E := E) (w0 := w0) (fs := []) hn fun K hK => j1g _ _ _ _ rfl hty w0.heap.size p n cc vs I.fa.1 ⟨lk 0 A k, 0, none⟩ m m (news A) (Nat.eq_of_beq_eq_true hl2) (fun j u hu => ?_) hone2 (by rw [c0j]; exact ho1) (by rw [c0j]; exact ho2) hcap I.bel.size (by rw [f0m]; exact hw) fun p' c' W' hO hg hat => ?_
          · have := hbox2.bx.cell j
            rw [show (⟨lk 0 A k, 0, none⟩ : Addr).add j = ⟨lk 0 A k, j, none⟩ by unfold Addr.add; split <;> simp_all, this]
            simpa using hu
          · have I2 := I.grown (Nat.le_refl _) hrw hO hg hat hfar2
            have hq : p'.isSome = true → PF.far (blk p') fs := fun hp => by
             rcases hat hp with ⟨h1, h3⟩ | h1
             · rw [h3]; exact hfar2 h1
             · rw [h1]; exact PF.far_new I.fa.2
            have h := h2 W' p' c' hq I2
            unfold putc at h
            rw [hn] at h
            have := hK A W' _ c.bx (List.prefix_refl _) (I2.pick []) hm h
            rw [show Value.slice p' (n + m) c' = (SV.v (.slice p' (n + m) c')).r A from rfl, d0e]
            exact this
        · cases hn'
      · cases hn'
    · cases ho2
  · cases ho2
theorem Inv.newb {bx : List Box} (I : Inv E w0 A bx fs V) (hb : Below V.heap.size V W) {b : Nat} {t : TypeId} {cs : List SV} (hge : V.heap.size ≤ b) (hB : Bt W b t (cs.map (SV.r A)).toArray) (h1 : wfL bx.length cs = true) (h2 : wfB bx.length bx = true) :
 Inv E w0 (A ++ [b]) (bx ++ [⟨t, cs, false⟩]) fs W := by
 have I' := I.past hb
 have hl : ∀ k, k < bx.length → lk 0 (A ++ [b]) k = lk 0 A k ∧ lk bx0 (bx ++ [⟨t, cs, false⟩]) k = lk bx0 bx k := fun k h => ⟨d0h 0 (by rw [I.len]; exact h), d0h bx0 h⟩
 have hn : lk 0 (A ++ [b]) bx.length = b ∧ lk bx0 (bx ++ [⟨t, cs, false⟩]) bx.length = ⟨t, cs, false⟩ := ⟨by rw [← I.len, d0s], d0s _⟩
 have hF : ∀ a, Fa (A ++ [b]) (bx ++ [⟨t, cs, false⟩]) a → Fa A bx a ∨ a = b := fun a ⟨k, hk, hr, e⟩ => by
  rw [List.length_append, List.length_singleton] at hk
  by_cases h : k < bx.length
  · rw [(hl k h).2] at hr
    rw [(hl k h).1] at e
    exact .inl ⟨k, h, hr, e⟩
  · obtain rfl : k = bx.length := by omega
    exact .inr (e.trans hn.1)
 refine ⟨I'.bel, fun a ha => ?_, fun i j hi hj hr hne => ?_, by simp [I.len], I.pre.trans (List.prefix_append _ _), fun k hk => ?_, I'.fa, fun a ha => ?_⟩
 · rcases hF a ha with h | rfl
   · exact I.ge a h
   · exact .inl (Nat.le_trans I.bel.size hge)
 · rw [List.length_append, List.length_singleton] at hi hj
   by_cases h : i < bx.length
   · rw [(hl i h).2] at hr
     by_cases h' : j < bx.length
     · rw [(hl i h).1, (hl j h').1]
       exact I.nd i j h h' hr hne
     · obtain rfl : j = bx.length := by omega
       rw [(hl i h).1, hn.1]
       have := (I.bt i h).lt
       omega
   · obtain rfl : i = bx.length := by omega
     have h' : j < bx.length := by omega
     rw [(hl j h').1, hn.1]
     have := (I.bt j h').lt
     omega
 · rw [List.length_append, List.length_singleton] at hk
   by_cases h : k < bx.length
   · rw [(hl k h).1, (hl k h).2]
     have := I'.bt k h
     unfold Box.row at this ⊢
     rw [o0k _ I.len (n0b h2 k)]
     exact this
   · obtain rfl : k = bx.length := by omega
     rw [hn.1, hn.2]
     unfold Box.row
     simp only
     rw [o0k _ I.len h1]
     exact hB
 · rcases hF a ha with h | rfl
   · exact I'.far a h
   · have : ∀ {l : List PF}, PF.all V l → PF.far a l := fun {l} hl => by
      induction l with
      | nil => exact True.intro
      | cons f l ih => exact ⟨fun hf => by have := f.lt V _ hl.1 hf; omega, ih hl.2⟩
     exact this I.fa
theorem m1d {A' : List Nat} {c' : Cfg} (hA : A <+: A') (he : act A c.fr = act A' c'.fr) (h1 : c'.rg = c.rg) (h2 : c'.ks = c.ks) (h : G P Q A' c' W) : G P Q A c W := by
 refine ⟨?_⟩
 have h := h.out
 unfold g1j at *
 obtain ⟨fr, bx, rg, ks⟩ := c
 obtain ⟨fr', bx', rg', ks'⟩ := c'
 simp only at *
 subst h1 h2
 rw [he]
 cases rg' with
 | off => exact h
 | pl => exact h
 | dr ops A0 m fuel listed => exact fun pre => h (pre.on hA)
 | one ops A0 m fuel listed i => exact fun pre => h (pre.on hA)
 | ret => exact h
theorem f1h {bxv : List Box} (I : Inv E w0 A bxv fs V) (hb : Below V.heap.size V W) (k b : Nat) (t : TypeId) (cs : List Value) (hge : V.heap.size ≤ b) (hB : Bt W b t cs.toArray)
 (h : ∀ A', lk 0 A' k = b → Inv E w0 A' (c.bx ++ [⟨t, cs.map .v, false⟩]) fs W → G P Q A' ⟨c.fr, c.bx ++ [⟨t, cs.map .v, false⟩], c.rg, c.ks⟩ W)
 (hbv : bxv = c.bx := by kernel_rfl) (hk : c.bx.length = k := by kernel_rfl) (h1 : wfL c.bx.length (cs.map SV.v) = true := by kernel_rfl) (h2 : wfB c.bx.length c.bx = true := by kernel_rfl) (h3 : wfL c.bx.length c.fr = true := by kernel_rfl) : G P Q A c W := by
 subst hbv
 have hcs : ∀ A, (cs.map SV.v).map (SV.r A) = cs := fun A => by
  rw [List.map_map]
  exact List.map_id _
 have I2 := I.newb hb (cs := cs.map SV.v) hge (by rw [hcs]; exact hB) h1 h2
 refine m1d (A' := A ++ [b]) (c' := ⟨c.fr, c.bx ++ [⟨t, cs.map .v, false⟩], c.rg, c.ks⟩) (List.prefix_append _ _) ?_ rfl rfl (h _ ?_ I2)
 · unfold act
   simp only
   rw [o0k _ I.len h3]
 · rw [← hk, ← I.len, d0s]
theorem f1i (I : Inv E w0 A c.bx fs W) (d k b : Nat) (hk : lk 0 A k = b) (h : ∀ A W, Inv E w0 A (putc (zr P (some d) c) (.p k 0)).bx fs W → G P Q A (putc (zr P (some d) c) (.p k 0)) W)
 (hkl : Nat.ble (k + 1) c.bx.length = true := by kernel_rfl)
 (hv : x0p P (zr P (some d) c) = some (.val (.v (.pointer (some ⟨b, 0, none⟩)))) := by kernel_rfl)
 (hc : ∀ A w, (g0l P (zr P (some d) c) A w).map (·.1) = (g0l P (zr P (some d) c) A w).map (·.2) := by intro _ _; kernel_rfl)
 (hr : ∀ A w, (zms P (some d) 5000 c A w).map (·.1) = (zms P (some d) 5000 c A w).map (·.2) := by intro _ _; kernel_rfl)
 (hm : ok1 (zr P (some d) c).rg (zr P (some d) c).bx = ok2 (zr P (some d) c).rg := by kernel_rfl) : G P Q A c W := by
 refine k0y 5000 I (fun A w => f0s (hr A w)) fun A' W' hA I' => ?_
 rw [← k1t] at I' ⊢
 refine k1v I' _ (.p k 0) ?_ (h A' W') hv (fun A w => f0s (hc A w)) hm
 show Value.pointer (some ⟨b, 0, none⟩) = .pointer (some ⟨lk 0 A' k, 0, none⟩)
 rw [v0x hA (by rw [I.len]; exact h0w hkl), hk]
theorem j0f {α : Type} (d : α) {l : List α} {n k : Nat} (h : k < n) : lk d (l.take n) k = lk d l k := by
 rw [e0l, e0l, List.getElem?_take, if_pos h]
theorem Inv.dropB {bx : List Box} (I : Inv E w0 A bx fs W) (n : Nat) (hE : E.length ≤ n) (hw : wfB n (bx.take n) = true) (hn : n ≤ bx.length) : Inv E w0 (A.take n) (bx.take n) fs W := by
 have hl : (bx.take n).length = n := by rw [List.length_take]; omega
 have hla : (A.take n).length = n := by rw [List.length_take, I.len]; omega
 have hF : ∀ a, Fa (A.take n) (bx.take n) a → Fa A bx a := fun a ⟨k, hk, hr, e⟩ => by
  rw [hl] at hk
  rw [j0f _ hk] at hr e
  exact ⟨k, by omega, hr, e⟩
 refine ⟨I.bel, fun a ha => I.ge a (hF a ha), fun i j hi hj hr hne => ?_, by rw [hl, hla], ?_, fun k hk => ?_, I.fa, fun a ha => I.far a (hF a ha)⟩
 · rw [hl] at hi hj
   rw [j0f _ hi] at hr
   rw [j0f _ hi, j0f _ hj]
   exact I.nd i j (by omega) (by omega) hr hne
 · exact List.prefix_take_iff.2 ⟨I.pre, hE⟩
 · rw [hl] at hk
   have h1 := I.bt k (by omega)
   rw [j0f _ hk, j0f _ hk]
   unfold Box.row at h1 ⊢
   have hw2 := n0b hw k
   rw [j0f _ hk] at hw2
   have h2 := o0k (A := A.take n) (A.drop n) hla hw2
   rw [List.take_append_drop] at h2
   rw [← h2]
   exact h1
theorem p0o (n : Nat) (I : Inv E w0 A c.bx fs W) (J : Act → World → Prop) {fr : (Nat → Value) → List SV} {bx : (Nat → Value) → List Box} (h : ∀ A W U, Inv E w0 A (bx U) fs W → J (act A (fr U)) W)
 (hr : ∀ A w, (zms P none 5000 c A w).map (·.1) = (zms P none 5000 c A w).map (·.2) := by intro _ _; kernel_rfl)
 (hf : ∀ A, (zr P none c).fr.map (SV.r A) = (fr (uOf (zr P none c) A)).map (SV.r A) := by intro _; kernel_rfl)
 (hb : ∀ A, (zr P none c).bx.take n = bx (uOf (zr P none c) A) := by intro _; kernel_rfl)
 (hw : ∀ U, wfL n (fr U) = true := by intro _; kernel_rfl) (hw2 : wfB n ((zr P none c).bx.take n) = true := by kernel_rfl) (hn : Nat.ble n (zr P none c).bx.length = true := by kernel_rfl) (hE : Nat.ble E.length n = true := by kernel_rfl)
 (hs : g1q (zr P none c) = some J := by kernel_rfl) : G P Q A c W :=
 b0y I hr fun A W I => by
  have I2 := I.dropB n (Nat.le_of_ble_eq_true hE) hw2 (Nat.le_of_ble_eq_true hn)
  rw [hb A] at I2
  have h := h (A.take n) W (uOf (zr P none c) A) I2
  have hf := hf A
  have hla : (A.take n).length = n := by rw [List.length_take, I.len]; exact Nat.min_eq_left (Nat.le_of_ble_eq_true hn)
  have h3 := o0k (A := A.take n) (A.drop n) hla (hw (uOf (zr P none c) A))
  rw [List.take_append_drop] at h3
  unfold act at h
  rw [← h3, ← hf] at h
  clear hb hf h3 hw hw2 hn I2
  generalize zr P none c = c at *
  refine ⟨?_⟩
  obtain ⟨cf, cb, rg, ks⟩ := c
  cases rg with
  | pl => cases hs
  | dr => cases hs
  | one => cases hs
  | ret => cases hs
  | off =>
   cases ks with
   | nil => cases hs
   | cons k ks =>
    cases k with
    | block => cases hs
    | code => cases hs
    | stop J' =>
     obtain rfl : J' = J := Option.some.inj hs
     exact h
theorem zgfe (I : Inv E w0 A c.bx fs W) (k : Nat) (t : TypeId) {f : FuncId} {args : List Nat → World → Array Value} {post : List Nat → World → Ending → World → Prop} (hf : ∀ args w, (callFunc f args).run P w = .ok (.enter f args) w)
 (hc : ∀ A W, Inv E w0 A (zr P none c).bx fs W → Calls P f (args A W) W (post A W))
 (h : ∀ A V, Inv E w0 A (zr P none c).bx fs V → w0.heap.size ≤ V.heap.size → ∀ K : Value → World → Prop, (∀ v cs W, Kp [lk 0 A k] V W → Bt W (lk 0 A k) t (cs.map (SV.r A)).toArray → (Inv E w0 A (u0h (zr P none c) k cs (.v v)).bx fs W → G P Q A (u0h (zr P none c) k cs (.v v)) W) → K v W) → ∀ e W, post A V e W → ∃ v, e = .returned v ∧ K v W)
 (ho : ∀ A w, v0y (zr P none c) A = some (.func (.func f) #[] #[], args A w) := by intro _ _; kernel_rfl)
 (hr : ∀ A w, (zms P none 5000 c A w).map (·.1) = (zms P none 5000 c A w).map (·.2) := by intro _ _; kernel_rfl)
 (hm : ∀ cs, ok1 (zr P none c).rg (setL (zr P none c).bx k ⟨(lk bx0 (zr P none c).bx k).t, cs, false⟩) = ok2 (zr P none c).rg := by intro _; kernel_rfl) (hk : wrOk (zr P none c) k = true := by kernel_rfl)
 (ht : (lk bx0 (zr P none c).bx k).t = t := by kernel_rfl) : G P Q A c W :=
 b0y I hr fun A V I => g1m I k (hc A V I) (by rw [ht]; exact h A V I I.bel.size) (v0z (ho A V) (hf _)) hm hk
theorem Inv.owns {bx : List Box} (I : Inv E w0 A bx fs W) {b : Nat} {e : TypeId} {s : Nat} {p : Option Addr} {cc n : Nat} {vs : List Value} (o : OwnS W b e s p cc n vs) (hb : w0.heap.size ≤ b := by first | exact Nat.le_refl _ | assumption | omega) (hne : q0t e bx = true := by kernel_rfl) :
 Inv E w0 A bx (h0m w0.heap.size e s p cc n vs :: fs) W :=
 I.add (h0m w0.heap.size e s p cc n vs) (o.mono hb) fun a ha hf => by
  obtain ⟨j, hj, _, rfl⟩ := ha
  exact o.far (I.bt j hj) (g0n hne j hj) hf.1 hf.2
end
end Go.Slip
namespace Go.Proofs.YtmacohmclpnphaaGreatDoor
open Go.RowKit Go.Slip
theorem TabW.far {w : World} {b : Nat} {t : TypeId} {vs : Array Value} (h : TabW w) (hX : Bt w b t vs) (hne : (match vs[0]? with | some (.int .u8 _) => false | _ => true) = true) : ¬ (0 = b) := by
 intro e
 subst e
 have h1 := h.1 0 (by omega)
 rw [hX.bx.cell 0] at h1
 rw [h1] at hne
 cases hne
def famB (f : Fm) : Int := if f.fam = 1 then 65 else if f.fam = 2 then 66 else 67
abbrev uS (f : Fm) (n way k : Int) : List SV := [.v (.int .i64 n), .v (.int .i64 way), .v (.int .i64 f.g.rad), .v (.int .i64 f.g.digs), .v (.int .i64 f.g.lo), .v (.int .i64 f.g.hi), .v (.bool f.g.grad), .v (.int .u8 (famB f)), .v (.int .i64 k)]
theorem c0o (f : Fm) (n way a b c : Int) (u : Nat) (w : World) (U : Bt w u 182 #[.int .i64 n, .int .i64 way, .int .i64 f.g.rad, .int .i64 f.g.digs, .int .i64 f.g.lo, .int .i64 f.g.hi, .bool f.g.grad, .int .u8 (famB f), .int .i64 a]) (hc : bits .or .i64 a b = c) :
 Calls Tryz.prog 163 #[.pointer (some ⟨u, 0, none⟩), .int .i64 b] w fun e w' => e = .returned (.tuple #[]) ∧ Kp [u] w w' ∧ Bt w' u 182 #[.int .i64 n, .int .i64 way, .int .i64 f.g.rad, .int .i64 f.g.digs, .int .i64 f.g.lo, .int .i64 f.g.hi, .bool f.g.grad, .int .u8 (famB f), .int .i64 c] := by
 have I := Inv.startW w u 182 (uS f n way a) [] U True.intro True.intro
 refine a0e [.p 0 0, .v (.int .i64 b)] I Tryz.func163 ?_
 refine zbin I 9 _ (fun _ _ _ _ _ => l1c .i64 (a) (b) (c) (hc)) fun Al W I => ?_
 exact zret I fun Al W I => ⟨rfl, I.bel, I.boxE 182 _⟩
theorem c1l (f : Fm) (n way a : Int) (u : Nat) (w : World) (U : Bt w u 182 #[.int .i64 n, .int .i64 way, .int .i64 f.g.rad, .int .i64 f.g.digs, .int .i64 f.g.lo, .int .i64 f.g.hi, .bool f.g.grad, .int .u8 (famB f), .int .i64 a]) :
 Calls Tryz.prog 165 #[.pointer (some ⟨u, 0, none⟩)] w fun e w' => e = .returned (.int .i64 ((wid f.g : Nat) : Int)) ∧ Below w.heap.size w w' := by
 by_cases h : f.g.rad = 16
 · have hw : wid f.g = 4 := by unfold wid; rw [if_pos h]
   rw [hw]
   have I := Inv.startR w [u] [⟨182, (uS f n way a), true⟩] [] ⟨U, True.intro⟩ True.intro
   refine a0e [.p 0 0] I Tryz.func165 ?_
   refine zb I 8 (f.g.rad == 16) (true) (beq_iff_eq.2 h) fun Al W I => ?_
   exact zrb I
 · have hw : wid f.g = 1 := by unfold wid; rw [if_neg h]
   rw [hw]
   have I := Inv.startR w [u] [⟨182, (uS f n way a), true⟩] [] ⟨U, True.intro⟩ True.intro
   refine a0e [.p 0 0] I Tryz.func165 ?_
   refine zb I 8 (f.g.rad == 16) (false) (bFn h) fun Al W I => ?_
   exact zrb I
theorem w0l (f : Fm) (n way a : Int) (g : Bool) (u : Nat) (w : World) (U : Bt w u 182 #[.int .i64 n, .int .i64 way, .int .i64 f.g.rad, .int .i64 f.g.digs, .int .i64 f.g.lo, .int .i64 f.g.hi, .bool f.g.grad, .int .u8 (famB f), .int .i64 a]) :
 Calls Tryz.prog 119 #[.pointer (some ⟨u, 0, none⟩), .bool g] w fun e w' => e = .returned (.agg #[.int .i64 1, .bool (g && decide (f.fam = 1)), .slice none 0 0, .int .i64 0]) ∧ Below w.heap.size w w' := by
 have hB : (famB f == 65) = decide (f.fam = 1) := by
  unfold famB
  by_cases h1 : f.fam = 1
  · simp [h1]
  · by_cases h2 : f.fam = 2 <;> simp [h1, h2]
 cases g
 · have I := Inv.startR w [u] [⟨182, (uS f n way a), true⟩] [] ⟨U, True.intro⟩ True.intro
   refine a0e [.p 0 0, .v (.bool false)] I Tryz.func119 ?_
   exact zrb I
 · generalize decide (f.fam = 1) = q at *
   have I := Inv.startR w [u] [⟨182, (uS f n way a), true⟩] [] ⟨U, True.intro⟩ True.intro
   refine a0e [.p 0 0, .v (.bool true)] I Tryz.func119 ?_
   refine zb I 11 ((famB f) == 65) (q) (hB) fun Al W I => ?_
   exact zrb I
theorem f1j : Tryz.prog.underlying 216 = some (.map 5 3) := by kernel_rfl
def o0f : Array MapEntry := #[⟨.int .u8 65, .int .i64 4, 0⟩, ⟨.int .u8 66, .int .i64 1, 1⟩, ⟨.int .u8 67, .int .i64 5, 2⟩]
theorem i0a (f : Fm) (n way a : Int) (u : Nat) (w : World) (U : Bt w u 182 #[.int .i64 n, .int .i64 way, .int .i64 f.g.rad, .int .i64 f.g.digs, .int .i64 f.g.lo, .int .i64 f.g.hi, .bool f.g.grad, .int .u8 (famB f), .int .i64 a]) :
 Calls Tryz.prog 141 #[.pointer (some ⟨u, 0, none⟩)] w fun e w' => e = .returned (.agg #[.int .i64 (f.nothM.cls : Int), .bool false, .slice none 0 0, .int .i64 0]) ∧ Below w.heap.size w w' := by
 have hmm := @run_makeMap Tryz.prog
 go_enter Tryz.func141, Tryz.ntmps141
 have hs : (w.alloc (Obj.cells #[Value.int IntKind.i64 0, Value.bool false, Value.slice none 0 0, Value.int IntKind.i64 0] 75)).heap.size = w.heap.size + 1 := by show (w.heap.push _).size = _; exact Array.size_push ..
 have h1 := e0g (w := w.alloc (Obj.cells #[Value.int IntKind.i64 0, Value.bool false, Value.slice none 0 0, Value.int IntKind.i64 0] 75)) f1j Tryz.underlying5 #[] 0 65 (.int .i64 4) rfl
 have h2 := e0g (w := w.alloc (Obj.cells #[Value.int IntKind.i64 0, Value.bool false, Value.slice none 0 0, Value.int IntKind.i64 0] 75)) f1j Tryz.underlying5 #[⟨.int .u8 65, .int .i64 4, 0⟩] 1 66 (.int .i64 1) rfl
 have h3 := e0g (w := w.alloc (Obj.cells #[Value.int IntKind.i64 0, Value.bool false, Value.slice none 0 0, Value.int IntKind.i64 0] 75)) f1j Tryz.underlying5 #[⟨.int .u8 65, .int .i64 4, 0⟩, ⟨.int .u8 66, .int .i64 1, 1⟩] 2 67 (.int .i64 5) rfl
 rw [hs] at h1 h2 h3
 have U3 : ∀ es c, Bt ((w.alloc (Obj.cells #[Value.int IntKind.i64 0, Value.bool false, Value.slice none 0 0, Value.int IntKind.i64 0] 75)).alloc (Obj.map es c)) u 182 #[.int .i64 n, .int .i64 way, .int .i64 f.g.rad, .int .i64 f.g.digs, .int .i64 f.g.lo, .int .i64 f.g.hi, .bool f.g.grad, .int .u8 (famB f), .int .i64 a] := fun es c => U.past (((Below.refl _ _).alloc (Nat.le_refl _) _).alloc (by rw [hs]; omega) _)
 have hL := (U3 o0f 3).bx.c 7 (v := .int .u8 (famB f)) rfl
 have hM : ((w.alloc (Obj.cells #[Value.int IntKind.i64 0, Value.bool false, Value.slice none 0 0, Value.int IntKind.i64 0] 75)).alloc (Obj.map o0f 3)).heap[w.heap.size + 1]? = some (.map o0f 3) := by
  rw [← hs]; show ((World.alloc _ _).heap.push _)[_]? = _; exact Array.getElem?_push_size
 have hF : ∃ i, Instr.findNow (.int .u8) (.int .u8 (famB f)) o0f.toList 0 = some (some (i, .int .i64 (f.nothM.cls : Int))) := by
  unfold famB Fm.nothM
  by_cases h1 : f.fam = 1
  · rw [if_pos h1, if_pos h1]; exact ⟨0, rfl⟩
  · rw [if_neg h1, if_neg h1]
    by_cases h2 : f.fam = 2
    · rw [if_pos h2, if_pos h2]; exact ⟨1, rfl⟩
    · rw [if_neg h2, if_neg h2]; exact ⟨2, rfl⟩
 obtain ⟨i, hF⟩ := hF
 have hK := g0c f1j Tryz.underlying5 hM (famB f) hF
 simp only [o0f] at hL hK
 clear hM hF U3
 go_wp2_with fail
 have hC : Bt ((w.alloc (Obj.cells #[.int .i64 (f.nothM.cls : Int), .bool false, .slice none 0 0, .int .i64 0] 75)).alloc (Obj.map o0f 3)) w.heap.size 75 #[.int .i64 (f.nothM.cls : Int), .bool false, .slice none 0 0, .int .i64 0] := by
  show ((w.heap.push _).push _)[_]? = _
  rw [Array.getElem?_push_lt (by rw [Array.size_push]; omega)]
  simp
 simp only [o0f] at hC
 have ⟨b0, b1, b2, b3⟩ := hC.bx.e4
 refine bodyPost_ret (v := .agg #[.int .i64 (f.nothM.cls : Int), .bool false, .slice none 0 0, .int .i64 0]) (by simp [results, Tryz.results141, go_sem, b0, b1, b2, b3]) rfl ⟨rfl, ?_⟩
 refine ((Below.refl _ _).alloc (Nat.le_refl _) _).alloc ?_ _
 show _ ≤ (w.heap.push _).size
 rw [Array.size_push]; omega
def j1h (w : World) (v : Vl) (en : Ending) (w' : World) : Prop :=
 ∃ p c, en = .returned (.agg #[.int .i64 (v.cls : Int), .bool v.neg, .slice p (dig B32 v.d).length c, .int .i64 v.pow]) ∧ Own w' w.heap.size .u32 141 p c (dig B32 v.d) ∧ Below w.heap.size w w'
theorem f0f (f : Fm) (n way a : Int) (g : Bool) (u : Nat) (w : World) (U : Bt w u 182 #[.int .i64 n, .int .i64 way, .int .i64 f.g.rad, .int .i64 f.g.digs, .int .i64 f.g.lo, .int .i64 f.g.hi, .bool f.g.grad, .int .u8 (famB f), .int .i64 a]) (hd : 0 ≤ f.g.digs ∧ f.g.digs ≤ 1000) :
 Calls Tryz.prog 164 #[.pointer (some ⟨u, 0, none⟩), .bool g] w (j1h w ⟨2, g, 2 ^ (wid f.g * f.g.digs.toNat) - 1, f.g.hi⟩) := by
 have wp := b0n f.g
 have lu := U.lt
 have hmw : ((wid f.g * f.g.digs.toNat : Nat) : Int) = (wid f.g : Nat) * f.g.digs := by rw [Int.natCast_mul, Int.toNat_of_nonneg hd.1]
 have hmb : wid f.g * f.g.digs.toNat ≤ 4 * 1000 := Nat.mul_le_mul wp.2 (by omega)
 have l1 : (dig B32 1).length ≤ 1 := by rw [a0j a0c]; unfold B32; omega
 have l2 : (dig B32 (2 ^ (wid f.g * f.g.digs.toNat))).length ≤ 126 := b0b (n := wid f.g * f.g.digs.toNat + 1) (k := 126) (Nat.pow_lt_pow_right (a := 2) (by omega) (by omega)) (by omega)
 have h1 := Nat.one_le_two_pow (n := wid f.g * f.g.digs.toNat)
 have HW := fun W u hU => hi0 (c1l f n way a u W hU)
 generalize wid f.g * f.g.digs.toNat = m at *
 generalize hx : 2 ^ m = x at *
 have HX := hi0 hx
 clear hx
 have HM := hi0 hmw
 clear hmw
 have I := Inv.startR w [u] [⟨182, (uS f n way a), true⟩] [] ⟨U, True.intro⟩ True.intro
 refine a0e [.p 0 0, .v (.bool g)] I Tryz.func164 ?_
 refine zq I (fun Al W I => (HW W _ (I.box 0 182 _)).out) fun Al W I => ?_
 refine zd [] I fun Al W I => ?_
 refine zk [1, 2, 3, 4, 5, 6] I fun I => ?_
 refine zki 7 I .i64 (((wid f.g : Nat) : Int) * f.g.digs) ((m : Int)) ((by rw [HM.out]; exact IntWalk.i64_in _ (by rw [← HM.out]; omega))) fun I => ?_
 refine zo 0 I fun I => ?_
 refine zqo I (fun Al W I => have hzW := I.bel.size; sof 1 1 rfl (by omega) W) fun Al W p9 c9 I => ?_
 refine zo 8 I fun I => ?_
 refine zqo I (fun Al W I => have hzW := I.bel.size; sshl p9 _ c9 1 m x _ W I.fa.1.rd rfl (by omega) (by omega) rfl (by rw [HX.out]; omega)) fun Al W p17 c17 I => ?_
 refine zo 9 I fun I => ?_
 refine zqo I (fun Al W I => have hzW := I.bel.size; sof 1 1 rfl (by omega) W) fun Al W p18 c18 I => ?_
 refine zo 10 I fun I => ?_
 refine zqo I (fun Al W I => have hzW := I.bel.size; ssub p17 p18 _ _ c17 c18 x 1 (x - 1) W I.fa.2.1.rd I.fa.1.rd rfl rfl (by omega) (by omega) rfl) fun Al W p19 c19 I => ?_
 refine zk [11] I fun I => ?_
 exact zret I fun Al W I => ⟨p19, c19, rfl, I.fa.1.mono (by omega), I.below⟩
def l0p (f : Fm) (n way c : Int) (u : Nat) (w : World) (v : Vl) (en : Ending) (w' : World) : Prop :=
 ∃ p k, en = .returned (.agg #[.int .i64 (v.cls : Int), .bool v.neg, .slice p (dig B32 v.d).length k, .int .i64 v.pow]) ∧ Own w' w.heap.size .u32 141 p k (dig B32 v.d) ∧ Kp [u] w w' ∧ Bt w' u 182 #[.int .i64 n, .int .i64 way, .int .i64 f.g.rad, .int .i64 f.g.digs, .int .i64 f.g.lo, .int .i64 f.g.hi, .bool f.g.grad, .int .u8 (famB f), .int .i64 c]
theorem f1k (f : Fm) (n way a c : Int) (g : Bool) (u : Nat) (w : World) (U : Bt w u 182 #[.int .i64 n, .int .i64 way, .int .i64 f.g.rad, .int .i64 f.g.digs, .int .i64 f.g.lo, .int .i64 f.g.hi, .bool f.g.grad, .int .u8 (famB f), .int .i64 a]) (hd : 0 ≤ f.g.digs ∧ f.g.digs ≤ 1000) (hc : bits .or .i64 a 5 = c) (h2 : f.fam = 2) :
 Calls Tryz.prog 180 #[.pointer (some ⟨u, 0, none⟩), .bool g] w (l0p f n way c u w ⟨2, g, 2 ^ (wid f.g * f.g.digs.toNat) - 1, f.g.hi⟩) := by
 have hF : famB f = 66 := by unfold famB; rw [if_neg (by omega), if_pos h2]
 have HR := fun W u hU => hi0 (c0o f n way a 5 c u W hU hc)
 have HG := fun W u hU => hi0 (f0f f n way c g u W hU hd)
 generalize 2 ^ (wid f.g * f.g.digs.toNat) - 1 = m at *
 have I := Inv.startW w u 182 (uS f n way a) [] U True.intro True.intro
 refine a0e [.p 0 0, .v (.bool g)] I Tryz.func180 ?_
 refine zge I 0 182 (fun Al W I => (HR W _ (I.box 0 182 _)).out) fun Al V Iv _ _ kz => ?_
 rintro _ W ⟨rfl, hO, hB⟩
 refine ⟨_, rfl, kz _ (uS f n way c) _ hO hB fun I => ?_⟩
 refine zb I 13 ((famB f) == 66) (true) (beq_iff_eq.2 hF) fun Al W I => ?_
 refine zqo I (fun Al W I => (HG W _ (I.box 0 182 _)).out) fun Al W p16 c16 I => ?_
 exact zret I fun Al W I => ⟨p16, c16, rfl, I.fa.1.mono (by omega), I.bel, I.boxE 182 _⟩
theorem d0p {f : Fm} {n way c : Int} {u k : Nat} {g : Bool} {w w' : World} {en : Ending} (h : en = .returned (.agg #[.int .i64 (k : Int), .bool g, .slice none 0 0, .int .i64 0])) (hk : Kp [u] w w') (hb : Bt w' u 182 #[.int .i64 n, .int .i64 way, .int .i64 f.g.rad, .int .i64 f.g.digs, .int .i64 f.g.lo, .int .i64 f.g.hi, .bool f.g.grad, .int .u8 (famB f), .int .i64 c]) : l0p f n way c u w ⟨k, g, 0, 0⟩ en w' := by
 refine ⟨none, 0, ?_, ?_, hk, hb⟩
 · rw [h, a0f]; rfl
 · show Own _ _ _ _ _ _ (dig B32 0); rw [a0f]; exact Own.nil _ _ _ _
theorem f1l (f : Fm) (n way a c : Int) (g : Bool) (u : Nat) (w : World) (U : Bt w u 182 #[.int .i64 n, .int .i64 way, .int .i64 f.g.rad, .int .i64 f.g.digs, .int .i64 f.g.lo, .int .i64 f.g.hi, .bool f.g.grad, .int .u8 (famB f), .int .i64 a]) (hc : bits .or .i64 a 5 = c) (h1 : f.fam ≠ 1) (h2 : f.fam ≠ 2) :
 Calls Tryz.prog 180 #[.pointer (some ⟨u, 0, none⟩), .bool g] w (l0p f n way c u w ⟨f.nothM.cls, false, 0, 0⟩) := by
 have hF : famB f = 67 := by unfold famB; rw [if_neg h1, if_neg h2]
 have HR := fun W u hU => hi0 (c0o f n way a 5 c u W hU hc)
 have HG := fun W u hU => hi0 (i0a f n way c u W hU)
 generalize f.nothM.cls = k at *
 have I := Inv.startW w u 182 (uS f n way a) [] U True.intro True.intro
 refine a0e [.p 0 0, .v (.bool g)] I Tryz.func180 ?_
 refine zge I 0 182 (fun Al W I => (HR W _ (I.box 0 182 _)).out) fun Al V Iv _ _ kz => ?_
 rintro _ W ⟨rfl, hO, hB⟩
 refine ⟨_, rfl, kz _ (uS f n way c) _ hO hB fun I => ?_⟩
 refine zb I 13 ((famB f) == 66) (false) (bFn (by rw [hF]; decide)) fun Al W I => ?_
 refine zb I 18 ((famB f) == 67) (true) (beq_iff_eq.2 hF) fun Al W I => ?_
 refine zq I (fun Al W I => (HG W _ (I.box 0 182 _)).out) fun Al W I => ?_
 exact zret I fun Al W I => d0p rfl I.bel (I.boxE 182 _)
theorem g0e (g : Bool) (w : World) : Calls Tryz.prog 118 #[.bool g] w fun e w' => e = .returned (.agg #[.int .i64 3, .bool g, .slice none 0 0, .int .i64 0]) ∧ Below w.heap.size w w' := by
 have I := Inv.start w [] True.intro
 refine a0e [.v (.bool g)] I Tryz.func118 ?_
 exact zrb I
theorem o0g (k : Nat) (g : Bool) (p : Option Addr) (l c : Nat) (pw : Int) (w : World) : Calls Tryz.prog 147 #[.agg #[.int .i64 (k : Int), .bool g, .slice p l c, .int .i64 pw]] w fun e w' => e = .returned (.bool (decide (k = 4) || decide (k = 5))) ∧ Below w.heap.size w w' := by
 have e4 : ((k : Int) == 4) = decide (k = 4) := by rw [Bool.eq_iff_iff]; simp; omega
 have e5 : ((k : Int) == 5) = decide (k = 5) := by rw [Bool.eq_iff_iff]; simp; omega
 generalize decide (k = 5) = q at *
 by_cases h : k = 4
 · rw [decide_eq_true h] at e4 ⊢
   have I := Inv.start w [] True.intro
   refine a0e [.v (.agg #[.int .i64 (k : Int), .bool g, .slice p l c, .int .i64 pw])] I Tryz.func147 ?_
   refine zb I 5 ((k : Int) == 4) (true) (e4) fun Al W I => ?_
   exact zret I (v := fun Al => .bool true) fun Al W I => ⟨by rw [Bool.true_or], I.below⟩
 · rw [decide_eq_false h] at e4 ⊢
   have I := Inv.start w [] True.intro
   refine a0e [.v (.agg #[.int .i64 (k : Int), .bool g, .slice p l c, .int .i64 pw])] I Tryz.func147 ?_
   refine zb I 5 ((k : Int) == 4) (false) (e4) fun Al W I => ?_
   refine zb I 9 ((k : Int) == 5) (q) (e5) fun Al W I => ?_
   exact zret I (v := fun Al => .bool q) fun Al W I => ⟨by rw [Bool.false_or], I.below⟩
theorem a0a (k : Nat) (g : Bool) (p : Option Addr) (l c : Nat) (pw : Int) (w : World) : Calls Tryz.prog 115 #[.agg #[.int .i64 (k : Int), .bool g, .slice p l c, .int .i64 pw]] w fun e w' => e = .returned (.bool (decide (k = 3))) ∧ Below w.heap.size w w' := by
 have e : ((k : Int) == 3) = decide (k = 3) := by rw [Bool.eq_iff_iff]; simp; omega
 have I := Inv.start w [] True.intro
 refine a0e [.v (.agg #[.int .i64 (k : Int), .bool g, .slice p l c, .int .i64 pw])] I Tryz.func115 ?_
 exact zret I fun Al W I => ⟨congrArg (fun b => Ending.returned (.bool b)) e, I.below⟩
theorem a0y (k : Nat) (g : Bool) (p : Option Addr) (l c : Nat) (pw : Int) (w : World) : Calls Tryz.prog 116 #[.agg #[.int .i64 (k : Int), .bool g, .slice p l c, .int .i64 pw]] w fun e w' => e = .returned (.bool (decide (k = 1))) ∧ Below w.heap.size w w' := by
 have e : ((k : Int) == 1) = decide (k = 1) := by rw [Bool.eq_iff_iff]; simp; omega
 have I := Inv.start w [] True.intro
 refine a0e [.v (.agg #[.int .i64 (k : Int), .bool g, .slice p l c, .int .i64 pw])] I Tryz.func116 ?_
 exact zret I fun Al W I => ⟨congrArg (fun b => Ending.returned (.bool b)) e, I.below⟩
theorem f1m (f : Fm) (n way a c : Int) (g : Bool) (u : Nat) (w : World) (U : Bt w u 182 #[.int .i64 n, .int .i64 way, .int .i64 f.g.rad, .int .i64 f.g.digs, .int .i64 f.g.lo, .int .i64 f.g.hi, .bool f.g.grad, .int .u8 (famB f), .int .i64 a]) (hd : 0 ≤ f.g.digs ∧ f.g.digs ≤ 1000) (hc : bits .or .i64 a 5 = c) (h1 : f.fam = 1) (hw : 1 ≤ way ∧ way ≤ 5) :
 Calls Tryz.prog 180 #[.pointer (some ⟨u, 0, none⟩), .bool g] w (l0p f n way c u w (if way ≤ 2 ∨ (way = 4 ∧ g = false) ∨ (way = 5 ∧ g = true) then ⟨3, g, 0, 0⟩ else ⟨2, g, 2 ^ (wid f.g * f.g.digs.toNat) - 1, f.g.hi⟩)) := by
 have hF : famB f = 65 := by unfold famB; rw [if_pos h1]
 rcases (show way = 1 ∨ way = 2 ∨ way = 3 ∨ way = 4 ∨ way = 5 by omega) with rfl | rfl | rfl | rfl | rfl <;> cases g
 · rw [if_pos (by decide)]
   have HR := fun W u hU => hi0 (c0o f n 1 a 5 c u W hU hc)
   have I := Inv.startW w u 182 (uS f n 1 a) [] U True.intro True.intro
   refine a0e [.p 0 0, .v (.bool false)] I Tryz.func180 ?_
   refine zge I 0 182 (fun Al W I => (HR W _ (I.box 0 182 _)).out) fun Al V Iv _ _ kz => ?_
   rintro _ W ⟨rfl, hO, hB⟩
   refine ⟨_, rfl, kz _ (uS f n 1 c) _ hO hB fun I => ?_⟩
   refine zb I 13 ((famB f) == 66) (false) (bFn (by rw [hF]; decide)) fun Al W I => ?_
   refine zb I 18 ((famB f) == 67) (false) (bFn (by rw [hF]; decide)) fun Al W I => ?_
   refine zq I (fun Al W I => g0e false W) fun Al W I => ?_
   exact zret I fun Al W I => d0p (k := 3) rfl I.bel (I.boxE 182 _)
 · rw [if_pos (by decide)]
   have HR := fun W u hU => hi0 (c0o f n 1 a 5 c u W hU hc)
   have I := Inv.startW w u 182 (uS f n 1 a) [] U True.intro True.intro
   refine a0e [.p 0 0, .v (.bool true)] I Tryz.func180 ?_
   refine zge I 0 182 (fun Al W I => (HR W _ (I.box 0 182 _)).out) fun Al V Iv _ _ kz => ?_
   rintro _ W ⟨rfl, hO, hB⟩
   refine ⟨_, rfl, kz _ (uS f n 1 c) _ hO hB fun I => ?_⟩
   refine zb I 13 ((famB f) == 66) (false) (bFn (by rw [hF]; decide)) fun Al W I => ?_
   refine zb I 18 ((famB f) == 67) (false) (bFn (by rw [hF]; decide)) fun Al W I => ?_
   refine zq I (fun Al W I => g0e true W) fun Al W I => ?_
   exact zret I fun Al W I => d0p (k := 3) rfl I.bel (I.boxE 182 _)
 · rw [if_pos (by decide)]
   have HR := fun W u hU => hi0 (c0o f n 2 a 5 c u W hU hc)
   have I := Inv.startW w u 182 (uS f n 2 a) [] U True.intro True.intro
   refine a0e [.p 0 0, .v (.bool false)] I Tryz.func180 ?_
   refine zge I 0 182 (fun Al W I => (HR W _ (I.box 0 182 _)).out) fun Al V Iv _ _ kz => ?_
   rintro _ W ⟨rfl, hO, hB⟩
   refine ⟨_, rfl, kz _ (uS f n 2 c) _ hO hB fun I => ?_⟩
   refine zb I 13 ((famB f) == 66) (false) (bFn (by rw [hF]; decide)) fun Al W I => ?_
   refine zb I 18 ((famB f) == 67) (false) (bFn (by rw [hF]; decide)) fun Al W I => ?_
   refine zq I (fun Al W I => g0e false W) fun Al W I => ?_
   exact zret I fun Al W I => d0p (k := 3) rfl I.bel (I.boxE 182 _)
 · rw [if_pos (by decide)]
   have HR := fun W u hU => hi0 (c0o f n 2 a 5 c u W hU hc)
   have I := Inv.startW w u 182 (uS f n 2 a) [] U True.intro True.intro
   refine a0e [.p 0 0, .v (.bool true)] I Tryz.func180 ?_
   refine zge I 0 182 (fun Al W I => (HR W _ (I.box 0 182 _)).out) fun Al V Iv _ _ kz => ?_
   rintro _ W ⟨rfl, hO, hB⟩
   refine ⟨_, rfl, kz _ (uS f n 2 c) _ hO hB fun I => ?_⟩
   refine zb I 13 ((famB f) == 66) (false) (bFn (by rw [hF]; decide)) fun Al W I => ?_
   refine zb I 18 ((famB f) == 67) (false) (bFn (by rw [hF]; decide)) fun Al W I => ?_
   refine zq I (fun Al W I => g0e true W) fun Al W I => ?_
   exact zret I fun Al W I => d0p (k := 3) rfl I.bel (I.boxE 182 _)
 · rw [if_neg (by decide)]
   have HR := fun W u hU => hi0 (c0o f n 3 a 5 c u W hU hc)
   have HG := fun W u hU => hi0 (f0f f n 3 c false u W hU hd)
   generalize 2 ^ (wid f.g * f.g.digs.toNat) - 1 = m at *
   have I := Inv.startW w u 182 (uS f n 3 a) [] U True.intro True.intro
   refine a0e [.p 0 0, .v (.bool false)] I Tryz.func180 ?_
   refine zge I 0 182 (fun Al W I => (HR W _ (I.box 0 182 _)).out) fun Al V Iv _ _ kz => ?_
   rintro _ W ⟨rfl, hO, hB⟩
   refine ⟨_, rfl, kz _ (uS f n 3 c) _ hO hB fun I => ?_⟩
   refine zb I 13 ((famB f) == 66) (false) (bFn (by rw [hF]; decide)) fun Al W I => ?_
   refine zb I 18 ((famB f) == 67) (false) (bFn (by rw [hF]; decide)) fun Al W I => ?_
   refine zqo I (fun Al W I => (HG W _ (I.box 0 182 _)).out) fun Al W p59 c59 I => ?_
   exact zret I fun Al W I => ⟨p59, c59, rfl, I.fa.1.mono (by omega), I.bel, I.boxE 182 _⟩
 · rw [if_neg (by decide)]
   have HR := fun W u hU => hi0 (c0o f n 3 a 5 c u W hU hc)
   have HG := fun W u hU => hi0 (f0f f n 3 c true u W hU hd)
   generalize 2 ^ (wid f.g * f.g.digs.toNat) - 1 = m at *
   have I := Inv.startW w u 182 (uS f n 3 a) [] U True.intro True.intro
   refine a0e [.p 0 0, .v (.bool true)] I Tryz.func180 ?_
   refine zge I 0 182 (fun Al W I => (HR W _ (I.box 0 182 _)).out) fun Al V Iv _ _ kz => ?_
   rintro _ W ⟨rfl, hO, hB⟩
   refine ⟨_, rfl, kz _ (uS f n 3 c) _ hO hB fun I => ?_⟩
   refine zb I 13 ((famB f) == 66) (false) (bFn (by rw [hF]; decide)) fun Al W I => ?_
   refine zb I 18 ((famB f) == 67) (false) (bFn (by rw [hF]; decide)) fun Al W I => ?_
   refine zqo I (fun Al W I => (HG W _ (I.box 0 182 _)).out) fun Al W p59 c59 I => ?_
   exact zret I fun Al W I => ⟨p59, c59, rfl, I.fa.1.mono (by omega), I.bel, I.boxE 182 _⟩
 · rw [if_pos (by decide)]
   have HR := fun W u hU => hi0 (c0o f n 4 a 5 c u W hU hc)
   have I := Inv.startW w u 182 (uS f n 4 a) [] U True.intro True.intro
   refine a0e [.p 0 0, .v (.bool false)] I Tryz.func180 ?_
   refine zge I 0 182 (fun Al W I => (HR W _ (I.box 0 182 _)).out) fun Al V Iv _ _ kz => ?_
   rintro _ W ⟨rfl, hO, hB⟩
   refine ⟨_, rfl, kz _ (uS f n 4 c) _ hO hB fun I => ?_⟩
   refine zb I 13 ((famB f) == 66) (false) (bFn (by rw [hF]; decide)) fun Al W I => ?_
   refine zb I 18 ((famB f) == 67) (false) (bFn (by rw [hF]; decide)) fun Al W I => ?_
   refine zq I (fun Al W I => g0e false W) fun Al W I => ?_
   exact zret I fun Al W I => d0p (k := 3) rfl I.bel (I.boxE 182 _)
 · rw [if_neg (by decide)]
   have HR := fun W u hU => hi0 (c0o f n 4 a 5 c u W hU hc)
   have HG := fun W u hU => hi0 (f0f f n 4 c true u W hU hd)
   generalize 2 ^ (wid f.g * f.g.digs.toNat) - 1 = m at *
   have I := Inv.startW w u 182 (uS f n 4 a) [] U True.intro True.intro
   refine a0e [.p 0 0, .v (.bool true)] I Tryz.func180 ?_
   refine zge I 0 182 (fun Al W I => (HR W _ (I.box 0 182 _)).out) fun Al V Iv _ _ kz => ?_
   rintro _ W ⟨rfl, hO, hB⟩
   refine ⟨_, rfl, kz _ (uS f n 4 c) _ hO hB fun I => ?_⟩
   refine zb I 13 ((famB f) == 66) (false) (bFn (by rw [hF]; decide)) fun Al W I => ?_
   refine zb I 18 ((famB f) == 67) (false) (bFn (by rw [hF]; decide)) fun Al W I => ?_
   refine zqo I (fun Al W I => (HG W _ (I.box 0 182 _)).out) fun Al W p59 c59 I => ?_
   exact zret I fun Al W I => ⟨p59, c59, rfl, I.fa.1.mono (by omega), I.bel, I.boxE 182 _⟩
 · rw [if_neg (by decide)]
   have HR := fun W u hU => hi0 (c0o f n 5 a 5 c u W hU hc)
   have HG := fun W u hU => hi0 (f0f f n 5 c false u W hU hd)
   generalize 2 ^ (wid f.g * f.g.digs.toNat) - 1 = m at *
   have I := Inv.startW w u 182 (uS f n 5 a) [] U True.intro True.intro
   refine a0e [.p 0 0, .v (.bool false)] I Tryz.func180 ?_
   refine zge I 0 182 (fun Al W I => (HR W _ (I.box 0 182 _)).out) fun Al V Iv _ _ kz => ?_
   rintro _ W ⟨rfl, hO, hB⟩
   refine ⟨_, rfl, kz _ (uS f n 5 c) _ hO hB fun I => ?_⟩
   refine zb I 13 ((famB f) == 66) (false) (bFn (by rw [hF]; decide)) fun Al W I => ?_
   refine zb I 18 ((famB f) == 67) (false) (bFn (by rw [hF]; decide)) fun Al W I => ?_
   refine zqo I (fun Al W I => (HG W _ (I.box 0 182 _)).out) fun Al W p59 c59 I => ?_
   exact zret I fun Al W I => ⟨p59, c59, rfl, I.fa.1.mono (by omega), I.bel, I.boxE 182 _⟩
 · rw [if_pos (by decide)]
   have HR := fun W u hU => hi0 (c0o f n 5 a 5 c u W hU hc)
   have I := Inv.startW w u 182 (uS f n 5 a) [] U True.intro True.intro
   refine a0e [.p 0 0, .v (.bool true)] I Tryz.func180 ?_
   refine zge I 0 182 (fun Al W I => (HR W _ (I.box 0 182 _)).out) fun Al V Iv _ _ kz => ?_
   rintro _ W ⟨rfl, hO, hB⟩
   refine ⟨_, rfl, kz _ (uS f n 5 c) _ hO hB fun I => ?_⟩
   refine zb I 13 ((famB f) == 66) (false) (bFn (by rw [hF]; decide)) fun Al W I => ?_
   refine zb I 18 ((famB f) == 67) (false) (bFn (by rw [hF]; decide)) fun Al W I => ?_
   refine zq I (fun Al W I => g0e true W) fun Al W I => ?_
   exact zret I fun Al W I => d0p (k := 3) rfl I.bel (I.boxE 182 _)
theorem g1x (f : Fm) (n way a c : Int) (p : Pl) (u : Nat) (w : World) (U : Bt w u 182 #[.int .i64 n, .int .i64 way, .int .i64 f.g.rad, .int .i64 f.g.digs, .int .i64 f.g.lo, .int .i64 f.g.hi, .bool f.g.grad, .int .u8 (famB f), .int .i64 a]) (G : c0e f) (hc : bits .or .i64 a 5 = c) (hw : 1 ≤ way ∧ way ≤ 5) (ho : p.over = true) :
 Calls Tryz.prog 180 #[.pointer (some ⟨u, 0, none⟩), .bool p.neg] w (l0p f n way c u w (f.placedV p way)) := by
 have GG := b0s G.g
 have h1 := GG.d1
 have h2 := GG.d2
 have hf := G.fam
 unfold Fm.placedV
 rw [if_pos ho]
 by_cases f2 : f.fam = 2
 · rw [if_pos f2]; exact f1k f n way a c p.neg u w U (by omega) hc f2
 · rw [if_neg f2]
   by_cases f3 : f.fam = 3
   · rw [if_pos f3]; exact f1l f n way a c p.neg u w U hc (by omega) f2
   · rw [if_neg f3]; exact f1m f n way a c p.neg u w U (by omega) hc (by omega) hw
def j0g (f : Fm) (n way c : Int) (u : Nat) (w : World) (base : Nat) (v : Vl) (en : Ending) (w' : World) : Prop :=
 ∃ p k, en = .returned (.agg #[.int .i64 (v.cls : Int), .bool v.neg, .slice p (dig B32 v.d).length k, .int .i64 v.pow]) ∧ Own w' base .u32 141 p k (dig B32 v.d) ∧ Kp [u] w w' ∧ Bt w' u 182 #[.int .i64 n, .int .i64 way, .int .i64 f.g.rad, .int .i64 f.g.digs, .int .i64 f.g.lo, .int .i64 f.g.hi, .bool f.g.grad, .int .u8 (famB f), .int .i64 c]
theorem l0p.ub {f : Fm} {n way c : Int} {u base : Nat} {w w' : World} {v : Vl} {en : Ending} (h : l0p f n way c u w v en w') (hb : base ≤ w.heap.size) : j0g f n way c u w base v en w' := by
 obtain ⟨p, k, h1, h2, h3, h4⟩ := h
 exact ⟨p, k, h1, h2.mono hb, h3, h4⟩
theorem f0u {f : Fm} {n way c : Int} {u k base : Nat} {g : Bool} {w w' : World} {en : Ending} (h : en = .returned (.agg #[.int .i64 (k : Int), .bool g, .slice none 0 0, .int .i64 0])) (hk : Kp [u] w w') (hb : Bt w' u 182 #[.int .i64 n, .int .i64 way, .int .i64 f.g.rad, .int .i64 f.g.digs, .int .i64 f.g.lo, .int .i64 f.g.hi, .bool f.g.grad, .int .u8 (famB f), .int .i64 c]) : j0g f n way c u w base ⟨k, g, 0, 0⟩ en w' := by
 refine ⟨none, 0, ?_, ?_, hk, hb⟩
 · rw [h, a0f]; rfl
 · show Own _ _ _ _ _ _ (dig B32 0); rw [a0f]; exact Own.nil _ _ _ _
theorem pl_n (f : Fm) (n way : Int) (ng : Bool) (d : Nat) (pw : Int) (pp : Option Addr) (cc base u : Nat) (w : World) (U : Bt w u 182 #[.int .i64 n, .int .i64 way, .int .i64 f.g.rad, .int .i64 f.g.digs, .int .i64 f.g.lo, .int .i64 f.g.hi, .bool f.g.grad, .int .u8 (famB f), .int .i64 0]) (hp : Own w base .u32 141 pp cc (dig B32 d)) (ex un : Bool) :
 Calls Tryz.prog 166 #[.pointer (some ⟨u, 0, none⟩), .agg #[.bool ng, .slice pp (dig B32 d).length cc, .int .i64 pw, .bool ex, .bool false, .bool un]] w (j0g f n way (((f.placedM ⟨ng, d, pw, ex, false, un⟩ way).2 : Nat) : Int) u w base (f.placedV ⟨ng, d, pw, ex, false, un⟩ way)) := by
 have hV : f.placedV ⟨ng, d, pw, ex, false, un⟩ way = if un = true ∧ f.fam ≠ 1 ∧ pw < f.g.lo then ⟨1, false, 0, 0⟩ else if d = 0 then ⟨1, ng && decide (f.fam = 1), 0, 0⟩ else ⟨2, ng, d, pw⟩ := by unfold Fm.placedV; simp only [Bool.false_eq_true, if_false]
 have hM : (f.placedM ⟨ng, d, pw, ex, false, un⟩ way).2 = if un = true ∧ f.fam ≠ 1 ∧ pw < f.g.lo then 3 else f.flP ⟨ng, d, pw, ex, false, un⟩ := by
  unfold Fm.placedM; simp only [Bool.false_eq_true, if_false]
  split
  · rfl
  · split <;> rfl
 have hFL : f.flP ⟨ng, d, pw, ex, false, un⟩ = if un then (if f.fam = 1 then (if ex then 0 else 3) else 3) else if ex then 0 else 1 := rfl
 have hF1 : f.fam = 1 → (famB f != 65) = false := fun h => by unfold famB; rw [if_pos h]; rfl
 have hF2 : f.fam ≠ 1 → (famB f != 65) = true := fun h => by unfold famB; rw [if_neg h]; split <;> rfl
 have hB1 : (famB f != 65) = true → f.fam ≠ 1 := fun h k => by rw [hF1 k] at h; cases h
 have hB2 : (famB f != 65) = false → f.fam = 1 := fun h => Classical.byContradiction fun k => by rw [hF2 k] at h; cases h
 have hz := a0i a0c d
 have HR9 := fun W u hU => hi0 (c0o f n way 0 1 1 u W hU (by decide +kernel))
 have HR3 := fun k (hk : k = 0 ∨ k = 1) W u hU => hi0 (c0o f n way k 3 3 u W hU (by rcases hk with rfl | rfl <;> decide +kernel))
 have HR2 := fun k (hk : k = 1) W u hU => hi0 (c0o f n way k 2 3 u W hU (by subst hk; decide +kernel))
 have HZ := fun k W u hU => hi0 (w0l f n way k ng u W hU)
 rw [hFL] at hM
 generalize (f.placedM ⟨ng, d, pw, ex, false, un⟩ way).2 = FL at *
 generalize f.placedV ⟨ng, d, pw, ex, false, un⟩ way = v at *
 clear hFL
 generalize (ng && decide (f.fam = 1)) = q at *
 have I := Inv.startW w u 182 (uS f n way 0) [ownF base .u32 141 pp cc (dig B32 d)] U ⟨hp, True.intro⟩ ⟨fun hf => hp.far U (by kernel_rfl) hf.1 hf.2, True.intro⟩
 refine a0e [.p 0 0, .v (.agg #[.bool ng, .slice pp (dig B32 d).length cc, .int .i64 pw, .bool ex, .bool false, .bool un])] I Tryz.func166 ?_
 obtain ⟨ne, hne⟩ : ∃ ne, (!ex) = ne := ⟨_, rfl⟩
 refine zb I 7 (!ex) (ne) (hne) fun Al W I => ?_
 refine zcut I (some 2000007) (fun fr bx gs => ∃ (U1 : Nat → Value) (k1 : Int), fr = (.p 0 0 :: .v (.agg #[.bool ng, .slice pp (dig B32 d).length cc, .int .i64 pw, .bool ex, .bool false, .bool un]) :: .v undef :: .p 1 0 :: .p 2 0 :: sw U1 5 2 (.v (.bool ne) :: sw U1 8 2 (.v undef :: sw U1 11 6 (.v undef :: sw U1 18 18 (.v undef :: .v (U1 37) :: .v undef :: sw U1 39 12 (.v undef :: sw U1 52 11 []))))) : List SV) ∧ bx = [⟨182, (uS f n way k1), false⟩, ⟨87, [.v (.bool ng), .v (.slice pp (dig B32 d).length cc), .v (.int .i64 pw), .v (.bool ex), .v (.bool false), .v (.bool un)], false⟩, ⟨75, [.v (.int .i64 0), .v (.bool false), .v (.slice none 0 0), .v (.int .i64 0)], false⟩] ∧ gs = [ownF base .u32 141 pp cc (dig B32 d)] ∧ (k1 = if ex then 0 else 1)) ?_ ?_
 · intro J hJ Al W I
   rcases Bool.eq_false_or_eq_true ne with rfl | rfl
   · refine zge I 0 182 (fun Al W I => (HR9 W _ (I.box 0 182 _)).out) fun Al V Iv _ _ kz => ?_
     rintro _ W ⟨rfl, hO, hB⟩
     refine ⟨_, rfl, kz _ (uS f n way 1) _ hO hB fun I => ?_⟩
     exact a0o I J fun Al W U I => hJ _ _ _ _ _ ⟨U, 1, rfl, rfl, rfl, (by revert hne; cases ex <;> simp)⟩ (I.pick [0])
   exact a0o I J fun Al W U I => hJ _ _ _ _ _ ⟨U, 0, rfl, rfl, rfl, (by revert hne; cases ex <;> simp)⟩ (I.pick [0])
 rintro _ _ _ ⟨U1, k1, rfl, rfl, rfl, hk1⟩ Al W I
 refine zcut I (some 1000000) (fun fr bx gs => ∃ (U2 : Nat → Value) (k2 : Int), fr = (.p 0 0 :: .v (.agg #[.bool ng, .slice pp (dig B32 d).length cc, .int .i64 pw, .bool ex, .bool false, .bool un]) :: .v undef :: .p 1 0 :: .p 2 0 :: sw U2 5 2 (.v (.bool ne) :: sw U2 8 43 (.v undef :: sw U2 52 11 [])) : List SV) ∧ bx = [⟨182, (uS f n way k2), false⟩, ⟨87, [.v (.bool ng), .v (.slice pp (dig B32 d).length cc), .v (.int .i64 pw), .v (.bool ex), .v (.bool false), .v (.bool un)], false⟩, ⟨75, [.v (.int .i64 0), .v (.bool false), .v (.slice none 0 0), .v (.int .i64 0)], false⟩] ∧ gs = [ownF base .u32 141 pp cc (dig B32 d)] ∧ ((FL : Int) = k2) ∧ (¬ (un = true ∧ f.fam ≠ 1 ∧ pw < f.g.lo))) ?_ ?_
 · intro J hJ Al W I
   rcases Bool.eq_false_or_eq_true (un) with f19 | f19
   · refine zb I 19 (un) (true) (f19) fun Al W I => ?_
     rcases Bool.eq_false_or_eq_true ((famB f) != 65) with f25 | f25
     · refine zb I 25 ((famB f) != 65) (true) (f25) fun Al W I => ?_
       refine zge I 0 182 (fun Al W I => (HR3 k1 (by rw [hk1]; split <;> simp) W _ (I.box 0 182 _)).out) fun Al V Iv _ _ kz => ?_
       rintro _ W ⟨rfl, hO, hB⟩
       refine ⟨_, rfl, kz _ (uS f n way 3) _ hO hB fun I => ?_⟩
       by_cases f36 : pw < f.g.lo
       · refine zd [] I fun Al W I => ?_
         refine zk [0, 1, 2, 3, 4, 5, 6] I fun I => ?_
         refine zkb 7 I (decide (pw < f.g.lo)) (true) (dTr f36) fun I => ?_
         refine zret I (v := fun Al => .agg #[.int .i64 1, .bool false, .slice none 0 0, .int .i64 0]) fun Al W I => ?_
         first | (rw [hV, hM, if_pos ⟨f19, hB1 f25, f36⟩, if_pos ⟨f19, hB1 f25, f36⟩]; exact f0u (k := 1) rfl I.bel (I.boxE 182 _)) | (rw [hV, hk2, if_neg hlo, if_neg (fun h => by have := hz.2 h; have := bnF f51; omega)]; exact ⟨pp, cc, rfl, I.fa.1, I.bel, I.boxE 182 _⟩)
       refine zd [] I fun Al W I => ?_
       refine zk [0, 1, 2, 3, 4, 5, 6] I fun I => ?_
       refine zkb 7 I (decide (pw < f.g.lo)) (false) (dFa f36) fun I => ?_
       exact a0o I J fun Al W U I => hJ _ _ _ _ _ ⟨U, 3, rfl, rfl, rfl, (by have h1 := hB1 f25; rw [hM, if_neg (fun h => f36 h.2.2), if_pos f19, if_neg h1]; rfl), (fun h => f36 h.2.2)⟩ (I.pick [0])
     refine zb I 25 ((famB f) != 65) (false) (f25) fun Al W I => ?_
     refine zb I 40 (un) (true) (f19) fun Al W I => ?_
     rcases Bool.eq_false_or_eq_true (!ex) with f44 | f44
     · refine zb I 44 (!ex) (true) (f44) fun Al W I => ?_
       refine zge I 0 182 (fun Al W I => (HR2 k1 (by rw [hk1]; revert f44; cases ex <;> simp) W _ (I.box 0 182 _)).out) fun Al V Iv _ _ kz => ?_
       rintro _ W ⟨rfl, hO, hB⟩
       refine ⟨_, rfl, kz _ (uS f n way 3) _ hO hB fun I => ?_⟩
       exact a0o I J fun Al W U I => hJ _ _ _ _ _ ⟨U, 3, rfl, rfl, rfl, (by have h1 := hB2 f25; rw [hM, if_neg (fun h => h.2.1 h1), if_pos f19, if_pos h1]; revert f44; cases ex <;> simp), (fun h => by have h1 := hB2 f25; exact h.2.1 h1)⟩ (I.pick [0])
     refine zb I 44 (!ex) (false) (f44) fun Al W I => ?_
     exact a0o I J fun Al W U I => hJ _ _ _ _ _ ⟨U, k1, rfl, rfl, rfl, (by have h1 := hB2 f25; rw [hM, if_neg (fun h => h.2.1 h1), if_pos f19, if_pos h1, hk1]; revert f44; cases ex <;> simp), (fun h => by have h1 := hB2 f25; exact h.2.1 h1)⟩ (I.pick [0])
   refine zb I 19 (un) (false) (f19) fun Al W I => ?_
   refine zb I 40 (un) (false) (f19) fun Al W I => ?_
   exact a0o I J fun Al W U I => hJ _ _ _ _ _ ⟨U, k1, rfl, rfl, rfl, (by rw [hM, if_neg (fun h => by rw [f19] at h; cases h.1), if_neg (by rw [f19]; simp), hk1]; split <;> rfl), (fun h => by rw [f19] at h; cases h.1)⟩ (I.pick [0])
 rintro _ _ _ ⟨U2, k2, rfl, rfl, rfl, hk2, hlo⟩ Al W I
 rcases Bool.eq_false_or_eq_true ((((dig B32 d).length : Nat) : Int) == 0) with f51 | f51
 · refine zb I 51 ((((dig B32 d).length : Nat) : Int) == 0) (true) (f51) fun Al W I => ?_
   refine zq I (fun Al W I => (HZ k2 W _ (I.box 0 182 _)).out) fun Al W I => ?_
   rw [hV, hk2, if_neg hlo, if_pos (hz.1 (by have := beq_iff_eq.1 f51; omega))]
   exact zret I fun Al W I => f0u (k := 1) rfl I.bel (I.boxE 182 _)
 refine zb I 51 ((((dig B32 d).length : Nat) : Int) == 0) (false) (f51) fun Al W I => ?_
 refine zret I (v := fun Al => .agg #[.int .i64 2, .bool ng, .slice pp (dig B32 d).length cc, .int .i64 pw]) fun Al W I => ?_
 first | (rw [hV, hM, if_pos ⟨f19, hB1 f25, f36⟩, if_pos ⟨f19, hB1 f25, f36⟩]; exact f0u (k := 1) rfl I.bel (I.boxE 182 _)) | (rw [hV, hk2, if_neg hlo, if_neg (fun h => by have := hz.2 h; have := bnF f51; omega)]; exact ⟨pp, cc, rfl, I.fa.1, I.bel, I.boxE 182 _⟩)
theorem n1n (f : Fm) (n way : Int) (p : Pl) (pp : Option Addr) (cc base u : Nat) (w : World) (U : Bt w u 182 #[.int .i64 n, .int .i64 way, .int .i64 f.g.rad, .int .i64 f.g.digs, .int .i64 f.g.lo, .int .i64 f.g.hi, .bool f.g.grad, .int .u8 (famB f), .int .i64 0]) (hb : base ≤ w.heap.size) (G : c0e f) (hw : 1 ≤ way ∧ way ≤ 5) (ho : p.over = true) :
 Calls Tryz.prog 166 #[.pointer (some ⟨u, 0, none⟩), .agg #[.bool p.neg, .slice pp (dig B32 p.d).length cc, .int .i64 p.pow, .bool true, .bool true, .bool p.under]] w (j0g f n way 5 u w base (f.placedV p way)) := by
 have HO := fun W u hU => hi0 (g1x f n way 0 5 p u W hU G (by decide +kernel) hw ho)
 generalize f.placedV p way = v at *
 have I := Inv.startW w u 182 (uS f n way 0) [] U True.intro True.intro
 refine a0e [.p 0 0, .v (.agg #[.bool p.neg, .slice pp (dig B32 p.d).length cc, .int .i64 p.pow, .bool true, .bool true, .bool p.under])] I Tryz.func166 ?_
 refine zge I 0 182 (fun Al W I => (HO W _ (I.box 0 182 _)).out) fun Al V Iv _ _ kz => ?_
 rintro _ W ⟨p16, c16, rfl, o16, hO, hB⟩
 refine ⟨_, rfl, kz _ (uS f n way 5) _ hO hB fun I => ?_⟩
 have I := I.ownB base o16
 exact zret I fun Al W I => ⟨p16, c16, rfl, I.fa.1, I.bel, I.boxE 182 _⟩
theorem n1o (f : Fm) (n way : Int) (p : Pl) (pp : Option Addr) (cc base u : Nat) (w : World) (U : Bt w u 182 #[.int .i64 n, .int .i64 way, .int .i64 f.g.rad, .int .i64 f.g.digs, .int .i64 f.g.lo, .int .i64 f.g.hi, .bool f.g.grad, .int .u8 (famB f), .int .i64 0]) (hb : base ≤ w.heap.size) (G : c0e f) (hw : 1 ≤ way ∧ way ≤ 5) (ho : p.over = true) :
 Calls Tryz.prog 166 #[.pointer (some ⟨u, 0, none⟩), .agg #[.bool p.neg, .slice pp (dig B32 p.d).length cc, .int .i64 p.pow, .bool false, .bool true, .bool p.under]] w (j0g f n way 5 u w base (f.placedV p way)) := by
 have HO := fun W u hU => hi0 (g1x f n way 1 5 p u W hU G (by decide +kernel) hw ho)
 have HR := fun W u hU => hi0 (c0o f n way 0 1 1 u W hU (by decide +kernel))
 generalize f.placedV p way = v at *
 have I := Inv.startW w u 182 (uS f n way 0) [] U True.intro True.intro
 refine a0e [.p 0 0, .v (.agg #[.bool p.neg, .slice pp (dig B32 p.d).length cc, .int .i64 p.pow, .bool false, .bool true, .bool p.under])] I Tryz.func166 ?_
 refine zge I 0 182 (fun Al W I => (HR W _ (I.box 0 182 _)).out) fun Al V Iv _ _ kz => ?_
 rintro _ W ⟨rfl, hO, hB⟩
 refine ⟨_, rfl, kz _ (uS f n way 1) _ hO hB fun I => ?_⟩
 refine zge I 0 182 (fun Al W I => (HO W _ (I.box 0 182 _)).out) fun Al V Iv _ _ kz => ?_
 rintro _ W ⟨p16, c16, rfl, o16, hO, hB⟩
 refine ⟨_, rfl, kz _ (uS f n way 5) _ hO hB fun I => ?_⟩
 have I := I.ownB base o16
 exact zret I fun Al W I => ⟨p16, c16, rfl, I.fa.1, I.bel, I.boxE 182 _⟩
theorem j1i (f : Fm) (n way : Int) (p : Pl) (pp : Option Addr) (cc base u : Nat) (w : World) (U : Bt w u 182 #[.int .i64 n, .int .i64 way, .int .i64 f.g.rad, .int .i64 f.g.digs, .int .i64 f.g.lo, .int .i64 f.g.hi, .bool f.g.grad, .int .u8 (famB f), .int .i64 0]) (hp : Own w base .u32 141 pp cc (dig B32 p.d)) (hb : base ≤ w.heap.size) (G : c0e f) (hw : 1 ≤ way ∧ way ≤ 5) :
 Calls Tryz.prog 166 #[.pointer (some ⟨u, 0, none⟩), .agg #[.bool p.neg, .slice pp (dig B32 p.d).length cc, .int .i64 p.pow, .bool p.exact, .bool p.over, .bool p.under]] w (j0g f n way (((f.placedM p way).2 : Nat) : Int) u w base (f.placedV p way)) := by
 obtain ⟨ng, d, pw, ex, ov, un⟩ := p
 cases ov with
 | true =>
  have e : (f.placedM ⟨ng, d, pw, ex, true, un⟩ way).2 = 5 := by unfold Fm.placedM; rw [if_pos rfl]
  rw [e]
  cases ex
  · exact n1o f n way ⟨ng, d, pw, false, true, un⟩ pp cc base u w U hb G hw rfl
  · exact n1n f n way ⟨ng, d, pw, true, true, un⟩ pp cc base u w U hb G hw rfl
 | false =>
  exact pl_n f n way ng d pw pp cc base u w U hp ex un
theorem c1m (ng : Bool) (p q : Option Addr) (c d : Nat) (num den : Nat) (e : Int) (g : Gd) (way : Int) (w : World) (hp : Rd w .u32 p (dig B32 num)) (hq : Rd w .u32 q (dig B32 den))
 (hl : (dig B32 num).length ≤ 100000) (hl2 : (dig B32 den).length ≤ 100000) (hn : 0 < num) (hd : 0 < den) (he : -1000000 ≤ e ∧ e ≤ 1000000) (G : i0w g) (hw1 : 1 ≤ way) (hw2 : way ≤ 5) :
 Calls Tryz.prog 72 #[.agg #[.bool ng, .slice p (dig B32 num).length c, .slice q (dig B32 den).length d, .int .i64 e], .agg #[.int .i64 g.rad, .int .i64 g.digs, .int .i64 g.lo, .int .i64 g.hi, .bool g.grad], .int .i64 way] w (w0f w (a0q ng num den e g way)) := by
 have h := u0r ng p q c d num den e g way (theK num den e (wid g) g.digs.toNat) w hp hq hl hl2 hn hd he G hw1 hw2 (m0q hn hd e (b0n g).1 (by have := G.d1; omega))
 unfold a0q
 rw [if_neg (by omega)]
 exact h
theorem m1e (f : Fm) (n way : Int) (ng : Bool) (p q : Option Addr) (c d : Nat) (num den : Nat) (e : Int) (u : Nat) (w : World) (U : Bt w u 182 #[.int .i64 n, .int .i64 way, .int .i64 f.g.rad, .int .i64 f.g.digs, .int .i64 f.g.lo, .int .i64 f.g.hi, .bool f.g.grad, .int .u8 (famB f), .int .i64 0]) (hp : Rd w .u32 p (dig B32 num)) (hq : Rd w .u32 q (dig B32 den))
 (hl : (dig B32 num).length ≤ 100000) (hl2 : (dig B32 den).length ≤ 100000) (hn : 0 < num) (hd : 0 < den) (he : -1000000 ≤ e ∧ e ≤ 1000000) (G : c0e f) (hw : 1 ≤ way ∧ way ≤ 5) :
 Calls Tryz.prog 122 #[.pointer (some ⟨u, 0, none⟩), .agg #[.bool ng, .slice p (dig B32 num).length c, .slice q (dig B32 den).length d, .int .i64 e]] w
  (l0p f n way (((f.placedM (a0q ng num den e f.g way) way).2 : Nat) : Int) u w (f.placedV (a0q ng num den e f.g way) way)) := by
 have GG := b0s G.g
 have HF := fun W h1 h2 => hi0 (c1m ng p q c d num den e f.g way W h1 h2 hl hl2 hn hd he GG hw.1 hw.2)
 have HP := fun pp cc base u W U h1 h2 => hi0 (j1i f n way (a0q ng num den e f.g way) pp cc base u W U h1 h2 G hw)
 have hR := u0x (neg := ng) (num := num) (e := e) (way := way) hd GG
 generalize (f.placedM (a0q ng num den e f.g way) way).2 = fl at *
 generalize f.placedV (a0q ng num den e f.g way) way = v at *
 generalize a0q ng num den e f.g way = P at *
 have I := Inv.startW w u 182 (uS f n way 0) [rdF .u32 p (dig B32 num), rdF .u32 q (dig B32 den)] U ⟨hp, hq, True.intro⟩ ⟨fun hf => hp.far U (by kernel_rfl) hf.1 hf.2, fun hf => hq.far U (by kernel_rfl) hf.1 hf.2, True.intro⟩
 refine a0e [.p 0 0, .v (.agg #[.bool ng, .slice p (dig B32 num).length c, .slice q (dig B32 den).length d, .int .i64 e])] I Tryz.func122 ?_
 refine zcut I none (fun fr bx gs => ∃ (U1 : Nat → Value) (p16 : Option Addr) (c16 : Nat), fr = (.p 0 0 :: .v (.agg #[.bool ng, .slice p (dig B32 num).length c, .slice q (dig B32 den).length d, .int .i64 e]) :: .v undef :: .p 1 0 :: .p 2 0 :: sw U1 5 12 [] : List SV) ∧ bx = [⟨182, (uS f n way (fl : Int)), false⟩, ⟨122, [.v (.bool ng), .v (.slice p (dig B32 num).length c), .v (.slice q (dig B32 den).length d), .v (.int .i64 e)], false⟩, ⟨75, [.v (.int .i64 (v.cls : Int)), .v (.bool v.neg), .v (.slice p16 (dig B32 v.d).length c16), .v (.int .i64 v.pow)], false⟩] ∧ gs = [ownF w.heap.size .u32 141 p16 c16 (dig B32 v.d), rdF .u32 p (dig B32 num), rdF .u32 q (dig B32 den)]) ?_ ?_
 · intro J hJ Al W I
   refine zd [0, 2] I fun Al W I => ?_
   refine zk [0, 1, 2, 3, 4, 6, 7, 8] I fun I => ?_
   refine zo2 5 9 I (fun I => ?_) (fun I => ?_)
   · refine zn I fun Al W I => ?_
     refine zo 9 I fun I => ?_
     refine zn I fun Al W I => ?_
     refine zo 10 I fun I => ?_
     refine zqo I (fun Al W I => (HF W I.fa.1 I.fa.2.1).out) fun Al W p15 c15 I => ?_
     refine zo 11 I fun I => ?_
     refine zge I 0 182 (fun Al W I => have hzW := I.bel.size; (HP p15 c15 _ _ W (I.box 0 182 _) I.fa.1 (by omega)).out) fun Al V Iv _ _ kz => ?_
     rintro _ W ⟨p16, c16, rfl, o16, hO, hB⟩
     refine ⟨_, rfl, kz _ (uS f n way (fl : Int)) _ hO hB fun I => ?_⟩
     have I := I.own o16
     refine zo 12 I fun I => ?_
     refine zn I fun Al W I => ?_
     exact a0o I J fun Al W U I => hJ _ _ _ _ _ ⟨U, p16, c16, rfl, rfl, rfl⟩ (I.pick [0, 2, 3])
   refine zn I fun Al W I => ?_
   refine zo 5 I fun I => ?_
   refine zn I fun Al W I => ?_
   refine zo 10 I fun I => ?_
   refine zqo I (fun Al W I => (HF W I.fa.1 I.fa.2.1).out) fun Al W p15 c15 I => ?_
   refine zo 11 I fun I => ?_
   refine zge I 0 182 (fun Al W I => have hzW := I.bel.size; (HP p15 c15 _ _ W (I.box 0 182 _) I.fa.1 (by omega)).out) fun Al V Iv _ _ kz => ?_
   rintro _ W ⟨p16, c16, rfl, o16, hO, hB⟩
   refine ⟨_, rfl, kz _ (uS f n way (fl : Int)) _ hO hB fun I => ?_⟩
   have I := I.own o16
   refine zo 12 I fun I => ?_
   refine zn I fun Al W I => ?_
   exact a0o I J fun Al W U I => hJ _ _ _ _ _ ⟨U, p16, c16, rfl, rfl, rfl⟩ (I.pick [0, 2, 3])
 rintro _ _ _ ⟨U1, p16, c16, rfl, rfl, rfl⟩ Al W I
 exact zret I fun Al W I => ⟨p16, c16, rfl, I.fa.1, I.bel, I.boxE 182 _⟩
structure VrOk (r : Vr) : Prop where
 c : 1 ≤ r.cls ∧ r.cls ≤ 5
 x0 : r.cls ≠ 2 → r.x = vz
 x2 : r.cls = 2 → r.x.m ≠ 0 ∧ r.x.neg = r.neg
 bare : Bare r.x
 len : (dig B32 r.x.m).length ≤ 20
 lo : -18000 ≤ r.x.e
 hi : r.x.e ≤ 18000
def e0t (f : Fm) (n way : Int) (u : Nat) (w : World) (base : Nat) (r : Vr × Nat) (en : Ending) (w' : World) : Prop :=
 ∃ v, VRep f v r.1 ∧ j0g f n way ((r.2 : Nat) : Int) u w base v en w'
theorem a0k {f : Fm} {n way : Int} {u k fl base : Nat} {g : Bool} {x : Dv} {w w' : World} {en : Ending} (hk2 : k ≠ 2) (h : en = .returned (.agg #[.int .i64 (k : Int), .bool g, .slice none 0 0, .int .i64 0])) (hk : Kp [u] w w') (hb : Bt w' u 182 #[.int .i64 n, .int .i64 way, .int .i64 f.g.rad, .int .i64 f.g.digs, .int .i64 f.g.lo, .int .i64 f.g.hi, .bool f.g.grad, .int .u8 (famB f), .int .i64 (fl : Int)]) : e0t f n way u w base (⟨k, g, x⟩, fl) en w' :=
 ⟨⟨k, g, 0, 0⟩, g0r hk2, f0u h hk hb⟩
theorem e0t.mono {f : Fm} {n way : Int} {u base b' : Nat} {w w' : World} {r : Vr × Nat} {en : Ending} (h : e0t f n way u w base r en w') (hb : b' ≤ base) : e0t f n way u w b' r en w' := by
 obtain ⟨v, h1, p, k, h2, h3, h4, h5⟩ := h
 exact ⟨v, h1, p, k, h2, h3.mono hb, h4, h5⟩
theorem f1n (f : Fm) (n way fl : Int) (v : Vl) (r : Vr) (p : Option Addr) (c b0 u : Nat) (w : World) (U : Bt w u 182 #[.int .i64 n, .int .i64 way, .int .i64 f.g.rad, .int .i64 f.g.digs, .int .i64 f.g.lo, .int .i64 f.g.hi, .bool f.g.grad, .int .u8 (famB f), .int .i64 fl]) (hp : Own w b0 .u32 141 p c (dig B32 v.d)) (V : VRep f v r) (R : VrOk r) (hT : TabW w) :
 Calls Tryz.prog 121 #[.pointer (some ⟨u, 0, none⟩), .agg #[.int .i64 (v.cls : Int), .bool v.neg, .slice p (dig B32 v.d).length c, .int .i64 v.pow]] w (g0h w w.heap.size r.x) := by
 have hx : bare ⟨v.neg, v.d, wid f.g * v.pow⟩ = r.x := by
  by_cases h2 : r.cls = 2
  · exact V.num h2
  · rw [R.x0 h2, (V.oth h2).1]; rfl
 have hl := V.len
 have hlo := V.lo
 have hhi := V.hi
 have wp := b0n f.g
 have hmu := k0f (wd := wid f.g) (k := v.pow) (B := 20000) wp.2 ⟨hlo, hhi⟩
 rw [← hx, ← s0m]
 clear hx R V
 obtain ⟨cls, g, d0, pw⟩ := v
 simp only at *
 generalize hmw : (wid f.g : Int) * pw = mw at *
 have HMW := hi0 hmw
 have HW := fun W u hU => hi0 (c1l f n way fl u W hU)
 have HH := fun W (c : Nat) h1 h0 h2 => hi0 (s0s p _ c mw d0 W h1 rfl h0 (by omega) (by omega) h2)
 clear hmw
 generalize hd : bare ⟨false, d0, mw⟩ = d at *
 clear hd
 cases g with
 | false =>
  rw [if_neg (by simp)]
  have I := Inv.startR w [u] [⟨182, (uS f n way fl), true⟩] [ownF b0 .u32 141 p c (dig B32 d0), tabF] ⟨U, True.intro⟩ ⟨hp, hT, True.intro⟩
  refine a0e [.p 0 0, .v (.agg #[.int .i64 (cls : Int), .bool false, .slice p (dig B32 d0).length c, .int .i64 pw])] I Tryz.func121 ?_
  refine zcut I none (fun fr bx gs => ∃ (U1 : Nat → Value) (p13 : Option Addr) (c13 : Nat), fr = (.p 0 0 :: .v (.agg #[.int .i64 (cls : Int), .bool false, .slice p (dig B32 d0).length c, .int .i64 pw]) :: .v undef :: .p 1 0 :: .p 2 0 :: .p 3 0 :: sw U1 6 9 (.v undef :: sw U1 16 3 []) : List SV) ∧ bx = [⟨182, (uS f n way fl), true⟩, ⟨75, [.v (.int .i64 (cls : Int)), .v (.bool false), .v (.slice p (dig B32 d0).length c), .v (.int .i64 pw)], false⟩, ⟨112, [.v (.bool false), .v (.slice none 0 0), .v (.int .i64 0)], false⟩, ⟨112, [.v (.bool d.neg), .v (.slice p13 (dig B32 d.m).length c13), .v (.int .i64 d.e)], false⟩] ∧ gs = [ownF w.heap.size .u32 141 p13 c13 (dig B32 d.m), ownF b0 .u32 141 p c (dig B32 d0), tabF]) ?_ ?_
  · intro J hJ Al W I
    refine zd [] I fun Al W I => ?_
    refine zk [0, 1, 2, 4, 5] I fun I => ?_
    refine zo2 3 8 I (fun I => ?_) (fun I => ?_)
    · refine zq I (fun Al W I => (HW W _ (I.box 0 182 _)).out) fun Al W I => ?_
      refine zki 6 I .i64 (((wid f.g : Nat) : Int) * pw) (mw) ((by rw [HMW.out]; exact iwo)) fun I => ?_
      refine zo2 7 8 I (fun I => ?_) (fun I => ?_)
      · refine zqo I (fun Al W I => (HH W c I.fa.1.rd I.fa.1.le_cap I.fa.2.1).out) fun Al W p13 c13 I => ?_
        refine zo 8 I fun I => ?_
        refine zn I fun Al W I => ?_
        refine zo 9 I fun I => ?_
        refine zn I fun Al W I => ?_
        exact a0o I J fun Al W U I => hJ _ _ _ _ _ ⟨U, p13, c13, rfl, rfl, rfl⟩ (I.pick [0, 1, 2])
      refine zn I fun Al W I => ?_
      refine zo 7 I fun I => ?_
      refine zqo I (fun Al W I => (HH W c I.fa.1.rd I.fa.1.le_cap I.fa.2.1).out) fun Al W p13 c13 I => ?_
      refine zo 9 I fun I => ?_
      refine zn I fun Al W I => ?_
      exact a0o I J fun Al W U I => hJ _ _ _ _ _ ⟨U, p13, c13, rfl, rfl, rfl⟩ (I.pick [0, 1, 2])
    refine zn I fun Al W I => ?_
    refine zo 3 I fun I => ?_
    refine zq I (fun Al W I => (HW W _ (I.box 0 182 _)).out) fun Al W I => ?_
    refine zki 6 I .i64 (((wid f.g : Nat) : Int) * pw) (mw) ((by rw [HMW.out]; exact iwo)) fun I => ?_
    refine zo 7 I fun I => ?_
    refine zqo I (fun Al W I => (HH W c I.fa.1.rd I.fa.1.le_cap I.fa.2.1).out) fun Al W p13 c13 I => ?_
    refine zo 9 I fun I => ?_
    refine zn I fun Al W I => ?_
    exact a0o I J fun Al W U I => hJ _ _ _ _ _ ⟨U, p13, c13, rfl, rfl, rfl⟩ (I.pick [0, 1, 2])
  rintro _ _ _ ⟨U1, p13, c13, rfl, rfl, rfl⟩ Al W I
  exact zret I fun Al W I => ⟨p13, c13, rfl, I.fa.1.mono (by omega), I.below⟩
 | true =>
  rw [if_pos rfl]
  have I := Inv.startR w [u] [⟨182, (uS f n way fl), true⟩] [ownF b0 .u32 141 p c (dig B32 d0), tabF] ⟨U, True.intro⟩ ⟨hp, hT, True.intro⟩
  refine a0e [.p 0 0, .v (.agg #[.int .i64 (cls : Int), .bool true, .slice p (dig B32 d0).length c, .int .i64 pw])] I Tryz.func121 ?_
  refine zcut I none (fun fr bx gs => ∃ (U1 : Nat → Value) (p13 : Option Addr) (c13 : Nat), fr = (.p 0 0 :: .v (.agg #[.int .i64 (cls : Int), .bool true, .slice p (dig B32 d0).length c, .int .i64 pw]) :: .v undef :: .p 1 0 :: .p 2 0 :: .p 3 0 :: sw U1 6 9 (.v undef :: sw U1 16 3 []) : List SV) ∧ bx = [⟨182, (uS f n way fl), true⟩, ⟨75, [.v (.int .i64 (cls : Int)), .v (.bool true), .v (.slice p (dig B32 d0).length c), .v (.int .i64 pw)], false⟩, ⟨112, [.v (.bool false), .v (.slice none 0 0), .v (.int .i64 0)], false⟩, ⟨112, [.v (.bool d.neg), .v (.slice p13 (dig B32 d.m).length c13), .v (.int .i64 d.e)], false⟩] ∧ gs = [ownF w.heap.size .u32 141 p13 c13 (dig B32 d.m), ownF b0 .u32 141 p c (dig B32 d0), tabF]) ?_ ?_
  · intro J hJ Al W I
    refine zd [] I fun Al W I => ?_
    refine zk [0, 1, 2, 4, 5] I fun I => ?_
    refine zo2 3 8 I (fun I => ?_) (fun I => ?_)
    · refine zq I (fun Al W I => (HW W _ (I.box 0 182 _)).out) fun Al W I => ?_
      refine zki 6 I .i64 (((wid f.g : Nat) : Int) * pw) (mw) ((by rw [HMW.out]; exact iwo)) fun I => ?_
      refine zo2 7 8 I (fun I => ?_) (fun I => ?_)
      · refine zqo I (fun Al W I => (HH W c I.fa.1.rd I.fa.1.le_cap I.fa.2.1).out) fun Al W p13 c13 I => ?_
        refine zo 8 I fun I => ?_
        refine zn I fun Al W I => ?_
        refine zo 9 I fun I => ?_
        refine zn I fun Al W I => ?_
        exact a0o I J fun Al W U I => hJ _ _ _ _ _ ⟨U, p13, c13, rfl, rfl, rfl⟩ (I.pick [0, 1, 2])
      refine zn I fun Al W I => ?_
      refine zo 7 I fun I => ?_
      refine zqo I (fun Al W I => (HH W c I.fa.1.rd I.fa.1.le_cap I.fa.2.1).out) fun Al W p13 c13 I => ?_
      refine zo 9 I fun I => ?_
      refine zn I fun Al W I => ?_
      exact a0o I J fun Al W U I => hJ _ _ _ _ _ ⟨U, p13, c13, rfl, rfl, rfl⟩ (I.pick [0, 1, 2])
    refine zn I fun Al W I => ?_
    refine zo 3 I fun I => ?_
    refine zq I (fun Al W I => (HW W _ (I.box 0 182 _)).out) fun Al W I => ?_
    refine zki 6 I .i64 (((wid f.g : Nat) : Int) * pw) (mw) ((by rw [HMW.out]; exact iwo)) fun I => ?_
    refine zo 7 I fun I => ?_
    refine zqo I (fun Al W I => (HH W c I.fa.1.rd I.fa.1.le_cap I.fa.2.1).out) fun Al W p13 c13 I => ?_
    refine zo 9 I fun I => ?_
    refine zn I fun Al W I => ?_
    exact a0o I J fun Al W U I => hJ _ _ _ _ _ ⟨U, p13, c13, rfl, rfl, rfl⟩ (I.pick [0, 1, 2])
  rintro _ _ _ ⟨U1, p13, c13, rfl, rfl, rfl⟩ Al W I
  refine zq I (fun Al W I => b1j d.neg p13 _ c13 d.e d.m W rfl) fun Al W I => ?_
  exact zret I fun Al W I => ⟨p13, c13, rfl, I.fa.1.mono (by omega), I.below⟩
theorem m1f (f : Fm) (n way : Int) (u : Nat) (w : World) (U : Bt w u 182 #[.int .i64 n, .int .i64 way, .int .i64 f.g.rad, .int .i64 f.g.digs, .int .i64 f.g.lo, .int .i64 f.g.hi, .bool f.g.grad, .int .u8 (famB f), .int .i64 0]) (fl : Nat) (b : Int) (hc : bits .or .i64 0 b = (fl : Nat)) :
 Calls Tryz.prog 117 #[.pointer (some ⟨u, 0, none⟩), .int .i64 b] w (e0t f n way u w w.heap.size (f.nothM, fl)) := by
 have HR := fun W u hU => hi0 (c0o f n way 0 b (fl : Nat) u W hU hc)
 have HN := fun W u hU => hi0 (i0a f n way (fl : Nat) u W hU)
 have hk : f.nothM.cls ≠ 2 := by unfold Fm.nothM; simp only; split <;> (try split) <;> omega
 have e : f.nothM = ⟨f.nothM.cls, false, vz⟩ := rfl
 rw [e]
 generalize f.nothM.cls = k at *
 have I := Inv.startW w u 182 (uS f n way 0) [] U True.intro True.intro
 refine a0e [.p 0 0, .v (.int .i64 b)] I Tryz.func117 ?_
 refine zge I 0 182 (fun Al W I => (HR W _ (I.box 0 182 _)).out) fun Al V Iv _ _ kz => ?_
 rintro _ W ⟨rfl, hO, hB⟩
 refine ⟨_, rfl, kz _ (uS f n way (fl : Int)) _ hO hB fun I => ?_⟩
 refine zq I (fun Al W I => (HN W _ (I.box 0 182 _)).out) fun Al W I => ?_
 exact zret I fun Al W I => a0k hk rfl I.bel (I.boxE 182 _)
theorem f1o (f : Fm) (n way : Int) (x : Dv) (p : Option Addr) (c u : Nat) (w : World) (U : Bt w u 182 #[.int .i64 n, .int .i64 way, .int .i64 f.g.rad, .int .i64 f.g.digs, .int .i64 f.g.lo, .int .i64 f.g.hi, .bool f.g.grad, .int .u8 (famB f), .int .i64 0]) (hp : Rd w .u32 p (dig B32 x.m))
 (hl : (dig B32 x.m).length ≤ 100000) (he : -1000000 ≤ x.e ∧ x.e ≤ 1000000) (G : c0e f) (hw : 1 ≤ way ∧ way ≤ 5) :
 Calls Tryz.prog 69 #[.pointer (some ⟨u, 0, none⟩), .agg #[.bool x.neg, .slice p (dig B32 x.m).length c, .int .i64 x.e]] w (e0t f n way u w w.heap.size (f.numM x way)) := by
 have hs : f0o ⟨x.neg, x.m, x.e⟩ = f0o x := rfl
 have HS := fun W => hi0 (d0f x.neg p _ c x.e x.m W rfl)
 rw [hs] at HS
 have h0 := m0u x
 by_cases hx : x.m = 0
 · have hn : f.numM x way = (⟨1, false, vz⟩, 0) := by unfold Fm.numM Fm.zeroM; rw [if_pos hx]; simp
   rw [hn]
   have HZ := fun W u hU => hi0 (w0l f n way 0 false u W hU)
   rw [Bool.false_and] at HZ
   have hd := h0.2 hx
   generalize f0o x = sx at *
   have I := Inv.startW w u 182 (uS f n way 0) [rdF .u32 p (dig B32 x.m)] U ⟨hp, True.intro⟩ ⟨fun hf => hp.far U (by kernel_rfl) hf.1 hf.2, True.intro⟩
   refine a0e [.p 0 0, .v (.agg #[.bool x.neg, .slice p (dig B32 x.m).length c, .int .i64 x.e])] I Tryz.func69 ?_
   refine zq I (fun Al W I => (HS W).out) fun Al W I => ?_
   refine zb I 7 (sx == 0) (true) (beq_iff_eq.2 hd) fun Al W I => ?_
   refine zq I (fun Al W I => (HZ W _ (I.box 0 182 _)).out) fun Al W I => ?_
   exact zret I fun Al W I => a0k (k := 1) (by decide) rfl I.bel (I.boxE 182 _)
 · have hn : f.numM x way = f.placedM (a0q x.neg x.m 1 x.e f.g way) way := by unfold Fm.numM; rw [if_neg hx]
   rw [hn]
   have hd : f0o x ≠ 0 := fun h => hx (h0.1 h)
   have l1 : (dig B32 1).length ≤ 1 := by rw [a0j a0c]; unfold B32; omega
   have HF := fun p q c d u W U h1 h2 => hi0 (m1e f n way x.neg p q c d x.m 1 x.e u W U h1 h2 hl (by omega) (by omega) (by omega) he G hw)
   have HV := (g0s G (neg := x.neg) (num := x.m) (den := 1) (e := x.e) (way := way) (by omega)).2
   have hm : f.placedM (a0q x.neg x.m 1 x.e f.g way) way = ((f.placedM (a0q x.neg x.m 1 x.e f.g way) way).1, (f.placedM (a0q x.neg x.m 1 x.e f.g way) way).2) := rfl
   rw [hm]
   generalize (f.placedM (a0q x.neg x.m 1 x.e f.g way) way).1 = r at *
   generalize (f.placedM (a0q x.neg x.m 1 x.e f.g way) way).2 = fl at *
   generalize f.placedV (a0q x.neg x.m 1 x.e f.g way) way = v at *
   generalize f0o x = sx at *
   have I := Inv.startW w u 182 (uS f n way 0) [rdF .u32 p (dig B32 x.m)] U ⟨hp, True.intro⟩ ⟨fun hf => hp.far U (by kernel_rfl) hf.1 hf.2, True.intro⟩
   refine a0e [.p 0 0, .v (.agg #[.bool x.neg, .slice p (dig B32 x.m).length c, .int .i64 x.e])] I Tryz.func69 ?_
   refine zq I (fun Al W I => (HS W).out) fun Al W I => ?_
   refine zb I 7 (sx == 0) (false) (bFn hd) fun Al W I => ?_
   refine zd [0, 2] I fun Al W I => ?_
   refine zk [0, 1, 2, 3, 4, 5, 6, 8, 9, 10] I fun I => ?_
   refine zo 7 I fun I => ?_
   refine zqo I (fun Al W I => have hzW := I.bel.size; sof 1 1 rfl (by omega) W) fun Al W p17 c17 I => ?_
   refine zk [11] I fun I => ?_
   refine zo 12 I fun I => ?_
   refine zge I 0 182 (fun Al W I => (HF p p17 c c17 _ W (I.box 0 182 _) I.fa.2.1 I.fa.1.rd).out) fun Al V Iv _ _ kz => ?_
   rintro _ W ⟨p22, c22, rfl, o22, hO, hB⟩
   refine ⟨_, rfl, kz _ (uS f n way (fl : Int)) _ hO hB fun I => ?_⟩
   have I := I.own o22
   refine zo 13 I fun I => ?_
   refine zn I fun Al W I => ?_
   exact zret I fun Al W I => ⟨v, HV, p22, c22, rfl, I.fa.1.mono (by omega), I.bel, I.boxE 182 _⟩
structure Vp where
 v : Vl
 p : Option Addr
 c : Nat
def Vp.cells (x : Vp) : List Value := [.int .i64 (x.v.cls : Int), .bool x.v.neg, .slice x.p (dig B32 x.v.d).length x.c, .int .i64 x.v.pow]
theorem Vp.len (x : Vp) : x.cells.length = 4 := rfl
theorem t0f : y0f Tryz.prog 93 75 4 48 := w0k (z := .agg #[.int .i64 0, .bool false, .slice none 0 0, .int .i64 0]) (by kernel_rfl) (by kernel_rfl) (by kernel_rfl) (by kernel_rfl) (by kernel_rfl)
theorem o0r : d0m Tryz.prog 75 4 := c0h (by kernel_rfl) (by kernel_rfl)
theorem g1y (f : Fm) (n way fl : Int) (xs : List Vp) (b m u : Nat) (w : World) (U : Bt w u 182 #[.int .i64 n, .int .i64 way, .int .i64 f.g.rad, .int .i64 f.g.digs, .int .i64 f.g.lo, .int .i64 f.g.hi, .bool f.g.grad, .int .u8 (famB f), .int .i64 fl]) (hB : Bt w b 75 (xs.flatMap Vp.cells).toArray) (hm : m = xs.length) (hl : xs.length ≤ 1000) (hno : ∀ x ∈ xs, x.v.cls < 4) :
 Calls Tryz.prog 114 #[.pointer (some ⟨u, 0, none⟩), .slice (some ⟨b, 0, none⟩) m m] w fun en w' => en = .returned (.tuple #[.agg #[.int .i64 0, .bool false, .slice none 0 0, .int .i64 0], .bool false]) ∧ Below w.heap.size w w' := by
 subst hm
 have HX : ∀ i, i < xs.length → ∃ x : Vp, xs[i]? = some x ∧ x.v.cls < 4 := fun i h => ⟨xs[i], List.getElem?_eq_getElem h, hno _ (List.getElem_mem h)⟩
 have I := Inv.startR w [u] [⟨182, (uS f n way fl), true⟩] [btF b 75 (xs.flatMap Vp.cells).toArray] ⟨U, True.intro⟩ ⟨hB, True.intro⟩
 refine a0e [.p 0 0, .v (.slice (some ⟨b, 0, none⟩) xs.length xs.length)] I Tryz.func114 ?_
 refine o0l I (fun gk fr bx gs => ∃ (U900 : Nat → Value) (i : Nat), fr = (.p 0 0 :: .v (.slice (some ⟨b, 0, none⟩) xs.length xs.length) :: su 2 (.p 1 0 :: .v (U900 5) :: .v undef :: .v (U900 7) :: .v (.slice (some ⟨b, 0, none⟩) xs.length xs.length) :: .v (.int .i64 (xs.length : Int)) :: .v (.int .i64 (i : Int)) :: sw U900 11 16 []) : List SV) ∧ bx = [⟨182, (uS f n way fl), true⟩, ⟨75, [.v (.int .i64 0), .v (.bool false), .v (.slice none 0 0), .v (.int .i64 0)], false⟩] ∧ gs = [btF b 75 (xs.flatMap Vp.cells).toArray] ∧ (gk + i = xs.length)) xs.length (fun Al W U I => ⟨_, ⟨U, 0, rfl, rfl, rfl, (by omega)⟩, I.pick [0]⟩) ?_
 rintro J gk0 _ _ _ ⟨U900, i, rfl, rfl, rfl, hgk⟩ hJ Al W I
 rcases Bool.eq_false_or_eq_true (decide ((i : Int) < (xs.length : Int))) with f11 | f11
 · refine zb I 11 (decide ((i : Int) < (xs.length : Int))) (true) (f11) fun Al W I => ?_
   obtain ⟨x, hx, hx4⟩ := HX i (by have := oTr f11; omega)
   refine zx I 12 (fun _ => .pointer (some (at_ (some ⟨b, 0, none⟩) (i * 4)))) (fun Al W I => (i0s (m := i) (n := xs.length) (c := xs.length) t0f (fun _ => ⟨rfl, rfl⟩) (by have := oTr f11; omega))) fun Al W I => ?_
   refine zx I 13 (fun _ => .agg #[.int .i64 (x.v.cls : Int), .bool x.v.neg, .slice x.p (dig B32 x.v.d).length x.c, .int .i64 x.v.pow]) (fun Al W I => (g1w I.fa.1 o0r x.cells (r0k Vp.len hx) rfl)) fun Al W I => ?_
   refine zqd I (fun Al W I => o0g x.v.cls x.v.neg x.p (dig B32 x.v.d).length x.c x.v.pow W) (show (decide (x.v.cls = 4) || decide (x.v.cls = 5)) = false from (by rw [decide_eq_false (by omega), decide_eq_false (by omega)]; rfl)) fun Al W I => ?_
   refine zi I 25 .i64 ((i : Int) + 1) (((i + 1 : Nat) : Int)) ((by rw [show ((i : Int) + 1) = ((i + 1 : Nat) : Int) by omega]; exact IntWalk.i64_in _ (by have := oTr f11; omega))) fun Al W I => ?_
   exact p0o 2 I J fun Al W U I => hJ (gk0 - 1) _ _ _ _ _ ((by have := oTr f11; omega)) ⟨U, i + 1, rfl, rfl, rfl, (by have := oTr f11; omega)⟩ (I.pick [0])
 refine zb I 11 (decide ((i : Int) < (xs.length : Int))) (false) (f11) fun Al W I => ?_
 exact zrb I
theorem c1n (f : Fm) (n way : Int) (xs : List Vp) (b m u : Nat) (w : World) (U : Bt w u 182 #[.int .i64 n, .int .i64 way, .int .i64 f.g.rad, .int .i64 f.g.digs, .int .i64 f.g.lo, .int .i64 f.g.hi, .bool f.g.grad, .int .u8 (famB f), .int .i64 0]) (hB : Bt w b 75 (xs.flatMap Vp.cells).toArray) (hm : m = xs.length) (hl : xs.length ≤ 1000) (hc : ∀ x ∈ xs, x.v.cls ≤ 5) (G : c0e f) (hyes : ∃ x ∈ xs, 4 ≤ x.v.cls) :
 Calls Tryz.prog 114 #[.pointer (some ⟨u, 0, none⟩), .slice (some ⟨b, 0, none⟩) m m] w fun en w' => en = .returned (.tuple #[.agg #[.int .i64 (f.nothM.cls : Int), .bool false, .slice none 0 0, .int .i64 0], .bool true]) ∧ Kp [u] w w' ∧ Bt w' u 182 #[.int .i64 n, .int .i64 way, .int .i64 f.g.rad, .int .i64 f.g.digs, .int .i64 f.g.lo, .int .i64 f.g.hi, .bool f.g.grad, .int .u8 (famB f), .int .i64 ((f.offM.2 : Nat) : Int)] := by
 subst hm
 have HX : ∀ i, i < xs.length → ∃ x : Vp, xs[i]? = some x ∧ x.v.cls ≤ 5 := fun i h => ⟨xs[i], List.getElem?_eq_getElem h, hc _ (List.getElem_mem h)⟩
 obtain ⟨y, hy, hy4⟩ := hyes
 obtain ⟨j, hj, hjy⟩ := List.getElem_of_mem hy
 have hYJ : xs[j]? = some y := by rw [List.getElem?_eq_getElem hj, hjy]
 clear hjy hy hc
 have HN := fun fl W u hU => hi0 (i0a f n way fl u W hU)
 have HR := fun W u hU => hi0 (c0o f n way 0 16 16 u W hU (by decide +kernel))
 have e2 : f.fam = 3 → ((f.offM.2 : Nat) : Int) = 16 ∧ famB f = 67 := fun h => ⟨by unfold Fm.offM; rw [if_pos h]; rfl, by unfold famB; rw [if_neg (by omega), if_neg (by omega)]⟩
 have e3 : f.fam ≠ 3 → ((f.offM.2 : Nat) : Int) = 0 := fun h => by unfold Fm.offM; rw [if_neg h]; rfl
 have e4 : f.fam ≠ 3 → famB f ≠ 67 := fun h => by have := G.fam; unfold famB; split; decide; rw [if_pos (by omega)]; decide
 generalize ((f.offM.2 : Nat) : Int) = fl at *
 generalize f.nothM.cls = kN at *
 have I := Inv.startW w u 182 (uS f n way 0) [btF b 75 (xs.flatMap Vp.cells).toArray] U ⟨hB, True.intro⟩ ⟨fun hf => hB.far U (by kernel_rfl) hf, True.intro⟩
 refine a0e [.p 0 0, .v (.slice (some ⟨b, 0, none⟩) xs.length xs.length)] I Tryz.func114 ?_
 refine o0l I (fun gk fr bx gs => ∃ (U900 : Nat → Value) (i : Nat), fr = (.p 0 0 :: .v (.slice (some ⟨b, 0, none⟩) xs.length xs.length) :: su 2 (.p 1 0 :: .v (U900 5) :: .v undef :: .v (U900 7) :: .v (.slice (some ⟨b, 0, none⟩) xs.length xs.length) :: .v (.int .i64 (xs.length : Int)) :: .v (.int .i64 (i : Int)) :: sw U900 11 16 []) : List SV) ∧ bx = [⟨182, (uS f n way 0), false⟩, ⟨75, [.v (.int .i64 0), .v (.bool false), .v (.slice none 0 0), .v (.int .i64 0)], false⟩] ∧ gs = [btF b 75 (xs.flatMap Vp.cells).toArray] ∧ (gk + i = xs.length) ∧ (∀ (j : Nat) (x : Vp), j < i → xs[j]? = some x → x.v.cls < 4)) xs.length (fun Al W U I => ⟨_, ⟨U, 0, rfl, rfl, rfl, (by omega), (fun _ _ h => absurd h (by omega))⟩, I.pick [0]⟩) ?_
 rintro J gk0 _ _ _ ⟨U900, i, rfl, rfl, rfl, hgk, hlt⟩ hJ Al W I
 rcases Bool.eq_false_or_eq_true (decide ((i : Int) < (xs.length : Int))) with f11 | f11
 · refine zb I 11 (decide ((i : Int) < (xs.length : Int))) (true) (f11) fun Al W I => ?_
   obtain ⟨x, hx, hx5⟩ := HX i (by have := oTr f11; omega)
   refine zx I 12 (fun _ => .pointer (some (at_ (some ⟨b, 0, none⟩) (i * 4)))) (fun Al W I => (i0s (m := i) (n := xs.length) (c := xs.length) t0f (fun _ => ⟨rfl, rfl⟩) (by have := oTr f11; omega))) fun Al W I => ?_
   refine zx I 13 (fun _ => .agg #[.int .i64 (x.v.cls : Int), .bool x.v.neg, .slice x.p (dig B32 x.v.d).length x.c, .int .i64 x.v.pow]) (fun Al W I => (g1w I.fa.1 o0r x.cells (r0k Vp.len hx) rfl)) fun Al W I => ?_
   by_cases hof : 4 ≤ x.v.cls
   · refine zqd I (fun Al W I => o0g x.v.cls x.v.neg x.p (dig B32 x.v.d).length x.c x.v.pow W) (show (decide (x.v.cls = 4) || decide (x.v.cls = 5)) = true from (by rcases (show x.v.cls = 4 ∨ x.v.cls = 5 by omega) with h | h <;> rw [h] <;> rfl)) fun Al W I => ?_
     by_cases hf3 : f.fam = 3
     · refine zb I 20 ((famB f) == 67) (true) (beq_iff_eq.2 (e2 hf3).2) fun Al W I => ?_
       refine zge I 0 182 (fun Al W I => (HR W _ (I.box 0 182 _)).out) fun Al V Iv _ _ kz => ?_
       rintro _ W ⟨rfl, hO, hB⟩
       refine ⟨_, rfl, kz _ (uS f n way 16) _ hO hB fun I => ?_⟩
       refine zq I (fun Al W I => (HN 16 W _ (I.box 0 182 _)).out) fun Al W I => ?_
       refine zret I (v := fun Al => .tuple #[.agg #[.int .i64 (kN : Int), .bool false, .slice none 0 0, .int .i64 0], .bool true]) fun Al W I => ?_
       first | exact ⟨rfl, I.bel, by rw [(e2 hf3).1]; exact I.boxE 182 _⟩ | exact ⟨rfl, I.bel, by rw [e3 hf3]; exact I.boxE 182 _⟩
     refine zb I 20 ((famB f) == 67) (false) (bFn (e4 hf3)) fun Al W I => ?_
     refine zq I (fun Al W I => (HN 0 W _ (I.box 0 182 _)).out) fun Al W I => ?_
     refine zret I (v := fun Al => .tuple #[.agg #[.int .i64 (kN : Int), .bool false, .slice none 0 0, .int .i64 0], .bool true]) fun Al W I => ?_
     first | exact ⟨rfl, I.bel, by rw [(e2 hf3).1]; exact I.boxE 182 _⟩ | exact ⟨rfl, I.bel, by rw [e3 hf3]; exact I.boxE 182 _⟩
   refine zqd I (fun Al W I => o0g x.v.cls x.v.neg x.p (dig B32 x.v.d).length x.c x.v.pow W) (show (decide (x.v.cls = 4) || decide (x.v.cls = 5)) = false from (by rw [decide_eq_false (by omega), decide_eq_false (by omega)]; rfl)) fun Al W I => ?_
   refine zi I 25 .i64 ((i : Int) + 1) (((i + 1 : Nat) : Int)) ((by rw [show ((i : Int) + 1) = ((i + 1 : Nat) : Int) by omega]; exact IntWalk.i64_in _ (by have := oTr f11; omega))) fun Al W I => ?_
   exact p0o 2 I J fun Al W U I => hJ (gk0 - 1) _ _ _ _ _ ((by have := oTr f11; omega)) ⟨U, i + 1, rfl, rfl, rfl, (by have := oTr f11; omega), (fun j' x' h h' => by rcases (show j' < i ∨ j' = i by omega) with q | rfl; exact hlt j' x' q h'; rw [hx] at h'; cases h'; omega)⟩ (I.pick [0])
 refine zb I 11 (decide ((i : Int) < (xs.length : Int))) (false) (f11) fun Al W I => ?_
 exact zret I (v := fun Al => .tuple #[.agg #[.int .i64 0, .bool false, .slice none 0 0, .int .i64 0], .bool false]) fun Al W I => absurd (hlt j y (by have := oFa f11; omega) hYJ) (by rw [Nat.not_lt]; omega)
theorem c1o (x y : Dv) (p q : Option Addr) (c d base : Nat) (w : World) (hx : Bare x) (hy : Bare y) (sx : SmD x) (sy : SmD y) (hp : Own w base .u32 141 p c (dig B32 x.m)) (hq : Own w base .u32 141 q d (dig B32 y.m)) (hT : TabW w) (hb : base ≤ w.heap.size) :
 Calls Tryz.prog 66 #[.agg #[.bool x.neg, .slice p (dig B32 x.m).length c, .int .i64 x.e], .agg #[.bool y.neg, .slice q (dig B32 y.m).length d, .int .i64 y.e]] w (g0h w base (k0r x y)) := by
 have h1 := sx.len
 have h2 := sy.len
 have h3 := sx.lo
 have h4 := sx.hi
 have h5 := sy.lo
 have h6 := sy.hi
 have := z0l x.neg y.neg p q _ c _ d base x.e y.e x.m y.m w hp hq rfl rfl (by omega) (by omega) (by omega) (by omega) hT hb
 rw [show (⟨x.neg, x.m, x.e⟩ : Dv) = x from rfl, show (⟨y.neg, y.m, y.e⟩ : Dv) = y from rfl, v0l hx hy] at this
 exact this
theorem n1p (f : Fm) (n way : Int) (x y : Dv) (g h : Bool) (p q : Option Addr) (c d base u : Nat) (w : World) (U : Bt w u 182 #[.int .i64 n, .int .i64 way, .int .i64 f.g.rad, .int .i64 f.g.digs, .int .i64 f.g.lo, .int .i64 f.g.hi, .bool f.g.grad, .int .u8 (famB f), .int .i64 0]) (hp : Own w base .u32 141 p c (dig B32 x.m)) (hq : Own w base .u32 141 q d (dig B32 y.m)) (hb : base ≤ w.heap.size)
 (hx : Bare x) (hy : Bare y) (sx : SmD x) (sy : SmD y) (G : c0e f) (hw : 1 ≤ way ∧ way ≤ 5) (hT : TabW w) :
 Calls Tryz.prog 144 #[.pointer (some ⟨u, 0, none⟩), .agg #[.bool x.neg, .slice p (dig B32 x.m).length c, .int .i64 x.e], .agg #[.bool y.neg, .slice q (dig B32 y.m).length d, .int .i64 y.e], .bool g, .bool h] w (e0t f n way u w w.heap.size (f.sumM x y g h way)) := by
 have HP := fun W h1 h2 h3 h4 => hi0 (c1o x y p q c d base W hx hy sx sy h1 h2 h3 h4)
 have hbd := e1j sx.len sy.len sx.lo sx.hi sy.lo sy.hi
 rw [v0l hx hy] at hbd
 have hS1 : (k0r x y).m ≠ 0 → f.sumM x y g h way = f.numM (k0r x y) way := fun k => by unfold Fm.sumM; rw [if_pos k]
 have hS2 : (k0r x y).m = 0 → x.m = 0 ∧ g = h → f.sumM x y g h way = (f.zeroM g, 0) := fun k k' => by unfold Fm.sumM; rw [if_neg (fun h => h k), if_pos k']
 have hS3 : (k0r x y).m = 0 → ¬ (x.m = 0 ∧ g = h) → f.sumM x y g h way = (f.zeroM (decide (way = 5)), 0) := fun k k' => by unfold Fm.sumM; rw [if_neg (fun h => h k), if_neg k']
 generalize k0r x y = s at *
 generalize f.sumM x y g h way = R at *
 have HN := fun W u (p : Option Addr) (c : Nat) hU h1 => hi0 (f1o f n way s p c u W hU h1 (by omega) (by omega) G hw)
 have HS := fun (W : World) (p : Option Addr) (c : Nat) => hi0 (d0f s.neg p _ c s.e s.m W rfl)
 have HX := fun (W : World) => hi0 (d0f x.neg p _ c x.e x.m W rfl)
 have HZ := fun g W u hU => hi0 (w0l f n way 0 g u W hU)
 rw [show (⟨s.neg, s.m, s.e⟩ : Dv) = s from rfl] at HS
 rw [show (⟨x.neg, x.m, x.e⟩ : Dv) = x from rfl] at HX
 have hs0 := m0u s
 have hx0 := m0u x
 generalize f0o s = ss at *
 generalize f0o x = xs at *
 obtain ⟨rN, flN, hN⟩ : ∃ rN flN, f.numM s way = (rN, flN) := ⟨_, _, rfl⟩
 rw [hN] at HN hS1
 clear hN
 have I := Inv.startW w u 182 (uS f n way 0) [ownF base .u32 141 p c (dig B32 x.m), ownF base .u32 141 q d (dig B32 y.m), tabF] U ⟨hp, hq, hT, True.intro⟩ ⟨fun hf => hp.far U (by kernel_rfl) hf.1 hf.2, fun hf => hq.far U (by kernel_rfl) hf.1 hf.2, fun hf => hT.far U (by kernel_rfl) hf, True.intro⟩
 refine a0e [.p 0 0, .v (.agg #[.bool x.neg, .slice p (dig B32 x.m).length c, .int .i64 x.e]), .v (.agg #[.bool y.neg, .slice q (dig B32 y.m).length d, .int .i64 y.e]), .v (.bool g), .v (.bool h)] I Tryz.func144 ?_
 refine zg I (fun Al W I => have hzW := I.bel.size; (HP W I.fa.1 I.fa.2.1 I.fa.2.2.1 (by omega)).out) fun Al V Iv _ hB _ kz => ?_
 rintro _ W ⟨p14, c14, rfl, o14, hb⟩
 refine ⟨_, rfl, kz _ _ hb fun I => ?_⟩
 have I := I.ownB base o14
 by_cases hs : s.m = 0
 · refine zq I (fun Al W I => (HS W p14 c14).out) fun Al W I => ?_
   refine zb I 17 (ss != 0) (false) (bne_eq_false_iff_eq.2 (hs0.2 hs)) fun Al W I => ?_
   by_cases hx1 : x.m = 0
   · by_cases hgh : g = h
     · refine zq I (fun Al W I => (HX W).out) fun Al W I => ?_
       refine zb I 23 (xs == 0) (true) (beq_iff_eq.2 (hx0.2 hx1)) fun Al W I => ?_
       refine zb I 27 (g == h) (true) ((by rw [hgh]; exact beq_self_eq_true h)) fun Al W I => ?_
       refine zq I (fun Al W I => (HZ g W _ (I.box 0 182 _)).out) fun Al W I => ?_
       rw [hS2 hs ⟨hx1, hgh⟩]
       exact zret I fun Al W I => a0k (k := 1) (by decide) rfl I.bel (I.boxE 182 _)
     refine zq I (fun Al W I => (HX W).out) fun Al W I => ?_
     refine zb I 23 (xs == 0) (true) (beq_iff_eq.2 (hx0.2 hx1)) fun Al W I => ?_
     refine zb I 27 (g == h) (false) (bFn hgh) fun Al W I => ?_
     refine zb I 37 (way == 5) ((decide (way = 5))) (rfl) fun Al W I => ?_
     refine zq I (fun Al W I => (HZ (decide (way = 5)) W _ (I.box 0 182 _)).out) fun Al W I => ?_
     rw [hS3 hs (fun k => by first | exact hx1 k.1 | exact hgh k.2)]
     exact zret I fun Al W I => a0k (k := 1) (by decide) rfl I.bel (I.boxE 182 _)
   by_cases hgh : g = h
   · refine zq I (fun Al W I => (HX W).out) fun Al W I => ?_
     refine zb I 23 (xs == 0) (false) (bFn (fun k => hx1 (hx0.1 k))) fun Al W I => ?_
     refine zb I 37 (way == 5) ((decide (way = 5))) (rfl) fun Al W I => ?_
     refine zq I (fun Al W I => (HZ (decide (way = 5)) W _ (I.box 0 182 _)).out) fun Al W I => ?_
     rw [hS3 hs (fun k => by first | exact hx1 k.1 | exact hgh k.2)]
     exact zret I fun Al W I => a0k (k := 1) (by decide) rfl I.bel (I.boxE 182 _)
   refine zq I (fun Al W I => (HX W).out) fun Al W I => ?_
   refine zb I 23 (xs == 0) (false) (bFn (fun k => hx1 (hx0.1 k))) fun Al W I => ?_
   refine zb I 37 (way == 5) ((decide (way = 5))) (rfl) fun Al W I => ?_
   refine zq I (fun Al W I => (HZ (decide (way = 5)) W _ (I.box 0 182 _)).out) fun Al W I => ?_
   rw [hS3 hs (fun k => by first | exact hx1 k.1 | exact hgh k.2)]
   exact zret I fun Al W I => a0k (k := 1) (by decide) rfl I.bel (I.boxE 182 _)
 refine zq I (fun Al W I => (HS W p14 c14).out) fun Al W I => ?_
 refine zb I 17 (ss != 0) (true) (bne_iff_ne.2 (fun k => hs (hs0.1 k))) fun Al W I => ?_
 refine zge I 0 182 (fun Al W I => (HN W _ p14 c14 (I.box 0 182 _) I.fa.1.rd).out) fun Al V Iv _ _ kz => ?_
 rintro _ W ⟨v20, hR20, p20, c20, rfl, o20, hO, hB⟩
 refine ⟨_, rfl, kz _ (uS f n way (flN : Int)) _ hO hB fun I => ?_⟩
 have I := I.own o20
 rw [hS1 hs]
 exact zret I fun Al W I => ⟨v20, hR20, p20, c20, rfl, I.fa.1, I.bel, I.boxE 182 _⟩
structure AtV (f : Fm) (a : Vp) (r : Vr) : Prop where
 rep : VRep f a.v r
 ok : VrOk r
 inf : r.cls = 3 → f.fam = 1
theorem VrOk.sm {r : Vr} (R : VrOk r) : SmD r.x := ⟨by have := R.len; omega, by have := R.lo; omega, by have := R.hi; omega⟩
theorem j1j (f : Fm) (n way : Int) (u : Nat) (w : World) (U : Bt w u 182 #[.int .i64 n, .int .i64 way, .int .i64 f.g.rad, .int .i64 f.g.digs, .int .i64 f.g.lo, .int .i64 f.g.hi, .bool f.g.grad, .int .u8 (famB f), .int .i64 0]) :
 Calls Tryz.prog 117 #[.pointer (some ⟨u, 0, none⟩), .int .i64 16] w fun en w' => en = .returned (.agg #[.int .i64 (f.nothM.cls : Int), .bool false, .slice none 0 0, .int .i64 0]) ∧ Kp [u] w w' ∧ Bt w' u 182 #[.int .i64 n, .int .i64 way, .int .i64 f.g.rad, .int .i64 f.g.digs, .int .i64 f.g.lo, .int .i64 f.g.hi, .bool f.g.grad, .int .u8 (famB f), .int .i64 16] := by
 have HR := fun W u hU => hi0 (c0o f n way 0 16 16 u W hU (by decide +kernel))
 have HN := fun W u hU => hi0 (i0a f n way 16 u W hU)
 generalize f.nothM.cls = k at *
 have I := Inv.startW w u 182 (uS f n way 0) [] U True.intro True.intro
 refine a0e [.p 0 0, .v (.int .i64 16)] I Tryz.func117 ?_
 refine zge I 0 182 (fun Al W I => (HR W _ (I.box 0 182 _)).out) fun Al V Iv _ _ kz => ?_
 rintro _ W ⟨rfl, hO, hB⟩
 refine ⟨_, rfl, kz _ (uS f n way 16) _ hO hB fun I => ?_⟩
 refine zq I (fun Al W I => (HN W _ (I.box 0 182 _)).out) fun Al W I => ?_
 exact zret I fun Al W I => ⟨rfl, I.bel, I.boxE 182 _⟩
def two (a b : Vp) : List Vp := [a, b]
theorem n1q (f : Fm) (n way : Int) (a b : Vp) (ra rb : Vr) (base u : Nat) (w : World) (U : Bt w u 182 #[.int .i64 n, .int .i64 way, .int .i64 f.g.rad, .int .i64 f.g.digs, .int .i64 f.g.lo, .int .i64 f.g.hi, .bool f.g.grad, .int .u8 (famB f), .int .i64 0]) (oa : Own w base .u32 141 a.p a.c (dig B32 a.v.d)) (ob : Own w base .u32 141 b.p b.c (dig B32 b.v.d)) (hb : base ≤ w.heap.size)
 (A1 : AtV f a ra) (B1 : AtV f b rb) (G : c0e f) (hw : 1 ≤ way ∧ way ≤ 5) (hT : TabW w) :
 Calls Tryz.prog 90 #[.pointer (some ⟨u, 0, none⟩), .agg #[.int .i64 (a.v.cls : Int), .bool a.v.neg, .slice a.p (dig B32 a.v.d).length a.c, .int .i64 a.v.pow], .agg #[.int .i64 (b.v.cls : Int), .bool b.v.neg, .slice b.p (dig B32 b.v.d).length b.c, .int .i64 b.v.pow]] w (e0t f n way u w base (f.addM ra rb way)) := by
 have hM : f.addM ra rb way = if 4 ≤ a.v.cls ∨ 4 ≤ b.v.cls then f.offM else if a.v.cls = 3 ∨ b.v.cls = 3 then (if a.v.cls = b.v.cls ∧ a.v.neg ≠ b.v.neg then f.lostM else if a.v.cls = 3 then (ra, 0) else (rb, 0)) else f.sumM ra.x rb.x a.v.neg b.v.neg way := by
  unfold Fm.addM; rw [A1.rep.cls, B1.rep.cls, A1.rep.neg, B1.rep.neg]
 have hca : a.v.cls ≤ 5 := by rw [A1.rep.cls]; exact A1.ok.c.2
 have hcb : b.v.cls ≤ 5 := by rw [B1.rep.cls]; exact B1.ok.c.2
 have HY := fun W b0 u h1 h2 h3 => hi0 (c1n f n way [a, b] b0 2 u W h1 h2 rfl (by simp) (by simp [hca, hcb]) G h3)
 have HN := fun W b0 u h1 h2 h3 => hi0 (g1y f n way 0 [a, b] b0 2 u W h1 h2 rfl (by simp) h3)
 have HL := fun W u h1 => hi0 (m1f f n way u W h1 16 16 (by decide +kernel))
 have HA := fun W u h1 h2 h3 => hi0 (f1n f n way 0 a.v ra a.p a.c base u W h1 h2 A1.rep A1.ok h3)
 have HB := fun W u h1 h2 h3 => hi0 (f1n f n way 0 b.v rb b.p b.c base u W h1 h2 B1.rep B1.ok h3)
 have HS := fun W p q c d base u h1 h2 h3 h4 h5 => hi0 (n1p f n way ra.x rb.x a.v.neg b.v.neg p q c d base u W h1 h2 h3 h4 A1.ok.bare B1.ok.bare A1.ok.sm B1.ok.sm G hw h5)
 have hoffm : f.offM = (⟨f.nothM.cls, false, vz⟩, f.offM.2) := rfl
 have hk2 := k0k G
 have hlostm : f.lostM = (f.nothM, 16) := rfl
 have VA := A1.rep
 have VB := B1.rep
 obtain ⟨rS, flS, hS⟩ : ∃ rS flS, f.sumM ra.x rb.x a.v.neg b.v.neg way = (rS, flS) := ⟨_, _, rfl⟩
 rw [hS] at HS hM
 generalize f.addM ra rb way = R at *
 generalize f.offM.2 = flo at *
 generalize f.nothM.cls = kN at *
 generalize f.nothM = rN at *
 have I := Inv.startW w u 182 (uS f n way 0) [ownF base .u32 141 a.p a.c (dig B32 a.v.d), ownF base .u32 141 b.p b.c (dig B32 b.v.d), tabF] U ⟨oa, ob, hT, True.intro⟩ ⟨fun hf => oa.far U (by kernel_rfl) hf.1 hf.2, fun hf => ob.far U (by kernel_rfl) hf.1 hf.2, fun hf => hT.far U (by kernel_rfl) hf, True.intro⟩
 refine a0e [.p 0 0, .v (.agg #[.int .i64 (a.v.cls : Int), .bool a.v.neg, .slice a.p (dig B32 a.v.d).length a.c, .int .i64 a.v.pow]), .v (.agg #[.int .i64 (b.v.cls : Int), .bool b.v.neg, .slice b.p (dig B32 b.v.d).length b.c, .int .i64 b.v.pow])] I Tryz.func90 ?_
 by_cases hof : 4 ≤ a.v.cls ∨ 4 ≤ b.v.cls
 · refine zge I 0 182 (fun Al W I => (HY W _ _ (I.box 0 182 _) (I.box 4 75 _) (by simpa using hof)).out) fun Al V Iv _ _ kz => ?_
   rintro _ W ⟨rfl, hO, hB⟩
   refine ⟨_, rfl, kz _ (uS f n way (flo : Int)) _ hO hB fun I => ?_⟩
   rw [hM]
   refine zret I (v := fun Al => .agg #[.int .i64 (kN : Int), .bool false, .slice none 0 0, .int .i64 0]) fun Al W I => ?_
   first | (rw [if_pos hof, hoffm]; exact a0k hk2 rfl I.bel (I.boxE 182 _)) | (rw [if_neg hof, if_pos (.inl h3a), if_neg (fun h => by first | exact h.2 hng | (have := h.1; omega)), if_pos h3a]; exact ⟨a.v, VA, a.p, a.c, rfl, I.fa.1, I.bel, I.boxE 182 _⟩) | (rw [if_neg hof, if_pos (.inr h3b), if_neg (fun h => h3a (by omega)), if_neg h3a]; exact ⟨b.v, VB, b.p, b.c, rfl, I.fa.2.1, I.bel, I.boxE 182 _⟩)
 refine zq I (fun Al W I => have hzW := I.bel.size; (HN W _ _ (I.box 0 182 _) (I.box 4 75 _) (by simp only [List.mem_cons, List.mem_nil_iff, or_false]; rintro x (rfl | rfl) <;> omega)).out) fun Al W I => ?_
 by_cases h3a : a.v.cls = 3
 · by_cases h3b : b.v.cls = 3
   · by_cases hng : a.v.neg = b.v.neg
     · refine zqd I (fun Al W I => a0a a.v.cls a.v.neg a.p (dig B32 a.v.d).length a.c a.v.pow W) (dTr h3a) fun Al W I => ?_
       refine zqd I (fun Al W I => a0a b.v.cls b.v.neg b.p (dig B32 b.v.d).length b.c b.v.pow W) (dTr h3b) fun Al W I => ?_
       refine zb I 31 (a.v.neg != b.v.neg) (false) (bne_eq_false_iff_eq.2 hng) fun Al W I => ?_
       refine zqd I (fun Al W I => a0a a.v.cls a.v.neg a.p (dig B32 a.v.d).length a.c a.v.pow W) (dTr h3a) fun Al W I => ?_
       rw [hM]
       refine zret I (v := fun Al => .agg #[.int .i64 (a.v.cls : Int), .bool a.v.neg, .slice a.p (dig B32 a.v.d).length a.c, .int .i64 a.v.pow]) fun Al W I => ?_
       first | (rw [if_pos hof, hoffm]; exact a0k hk2 rfl I.bel (I.boxE 182 _)) | (rw [if_neg hof, if_pos (.inl h3a), if_neg (fun h => by first | exact h.2 hng | (have := h.1; omega)), if_pos h3a]; exact ⟨a.v, VA, a.p, a.c, rfl, I.fa.1, I.bel, I.boxE 182 _⟩) | (rw [if_neg hof, if_pos (.inr h3b), if_neg (fun h => h3a (by omega)), if_neg h3a]; exact ⟨b.v, VB, b.p, b.c, rfl, I.fa.2.1, I.bel, I.boxE 182 _⟩)
     refine zqd I (fun Al W I => a0a a.v.cls a.v.neg a.p (dig B32 a.v.d).length a.c a.v.pow W) (dTr h3a) fun Al W I => ?_
     refine zqd I (fun Al W I => a0a b.v.cls b.v.neg b.p (dig B32 b.v.d).length b.c b.v.pow W) (dTr h3b) fun Al W I => ?_
     refine zb I 31 (a.v.neg != b.v.neg) (true) (bne_iff_ne.2 hng) fun Al W I => ?_
     refine zge I 0 182 (fun Al W I => (HL W _ (I.box 0 182 _)).out) fun Al V Iv _ _ kz => ?_
     rintro _ W ⟨v34, hR34, p34, c34, rfl, o34, hO, hB⟩
     refine ⟨_, rfl, kz _ (uS f n way 16) _ hO hB fun I => ?_⟩
     have I := I.ownB base o34
     rw [hM, if_neg hof, if_pos (.inl h3a), if_pos ⟨by omega, hng⟩, hlostm]
     exact zret I fun Al W I => ⟨v34, hR34, p34, c34, rfl, I.fa.1, I.bel, I.boxE 182 _⟩
   by_cases hng : a.v.neg = b.v.neg
   · refine zqd I (fun Al W I => a0a a.v.cls a.v.neg a.p (dig B32 a.v.d).length a.c a.v.pow W) (dTr h3a) fun Al W I => ?_
     refine zqd I (fun Al W I => a0a b.v.cls b.v.neg b.p (dig B32 b.v.d).length b.c b.v.pow W) (dFa h3b) fun Al W I => ?_
     refine zqd I (fun Al W I => a0a a.v.cls a.v.neg a.p (dig B32 a.v.d).length a.c a.v.pow W) (dTr h3a) fun Al W I => ?_
     rw [hM]
     refine zret I (v := fun Al => .agg #[.int .i64 (a.v.cls : Int), .bool a.v.neg, .slice a.p (dig B32 a.v.d).length a.c, .int .i64 a.v.pow]) fun Al W I => ?_
     first | (rw [if_pos hof, hoffm]; exact a0k hk2 rfl I.bel (I.boxE 182 _)) | (rw [if_neg hof, if_pos (.inl h3a), if_neg (fun h => by first | exact h.2 hng | (have := h.1; omega)), if_pos h3a]; exact ⟨a.v, VA, a.p, a.c, rfl, I.fa.1, I.bel, I.boxE 182 _⟩) | (rw [if_neg hof, if_pos (.inr h3b), if_neg (fun h => h3a (by omega)), if_neg h3a]; exact ⟨b.v, VB, b.p, b.c, rfl, I.fa.2.1, I.bel, I.boxE 182 _⟩)
   refine zqd I (fun Al W I => a0a a.v.cls a.v.neg a.p (dig B32 a.v.d).length a.c a.v.pow W) (dTr h3a) fun Al W I => ?_
   refine zqd I (fun Al W I => a0a b.v.cls b.v.neg b.p (dig B32 b.v.d).length b.c b.v.pow W) (dFa h3b) fun Al W I => ?_
   refine zqd I (fun Al W I => a0a a.v.cls a.v.neg a.p (dig B32 a.v.d).length a.c a.v.pow W) (dTr h3a) fun Al W I => ?_
   rw [hM]
   refine zret I (v := fun Al => .agg #[.int .i64 (a.v.cls : Int), .bool a.v.neg, .slice a.p (dig B32 a.v.d).length a.c, .int .i64 a.v.pow]) fun Al W I => ?_
   first | (rw [if_pos hof, hoffm]; exact a0k hk2 rfl I.bel (I.boxE 182 _)) | (rw [if_neg hof, if_pos (.inl h3a), if_neg (fun h => by first | exact h.2 hng | (have := h.1; omega)), if_pos h3a]; exact ⟨a.v, VA, a.p, a.c, rfl, I.fa.1, I.bel, I.boxE 182 _⟩) | (rw [if_neg hof, if_pos (.inr h3b), if_neg (fun h => h3a (by omega)), if_neg h3a]; exact ⟨b.v, VB, b.p, b.c, rfl, I.fa.2.1, I.bel, I.boxE 182 _⟩)
 by_cases h3b : b.v.cls = 3
 · by_cases hng : a.v.neg = b.v.neg
   · refine zqd I (fun Al W I => a0a a.v.cls a.v.neg a.p (dig B32 a.v.d).length a.c a.v.pow W) (dFa h3a) fun Al W I => ?_
     refine zqd I (fun Al W I => a0a a.v.cls a.v.neg a.p (dig B32 a.v.d).length a.c a.v.pow W) (dFa h3a) fun Al W I => ?_
     refine zqd I (fun Al W I => a0a b.v.cls b.v.neg b.p (dig B32 b.v.d).length b.c b.v.pow W) (dTr h3b) fun Al W I => ?_
     rw [hM]
     refine zret I (v := fun Al => .agg #[.int .i64 (b.v.cls : Int), .bool b.v.neg, .slice b.p (dig B32 b.v.d).length b.c, .int .i64 b.v.pow]) fun Al W I => ?_
     first | (rw [if_pos hof, hoffm]; exact a0k hk2 rfl I.bel (I.boxE 182 _)) | (rw [if_neg hof, if_pos (.inl h3a), if_neg (fun h => by first | exact h.2 hng | (have := h.1; omega)), if_pos h3a]; exact ⟨a.v, VA, a.p, a.c, rfl, I.fa.1, I.bel, I.boxE 182 _⟩) | (rw [if_neg hof, if_pos (.inr h3b), if_neg (fun h => h3a (by omega)), if_neg h3a]; exact ⟨b.v, VB, b.p, b.c, rfl, I.fa.2.1, I.bel, I.boxE 182 _⟩)
   refine zqd I (fun Al W I => a0a a.v.cls a.v.neg a.p (dig B32 a.v.d).length a.c a.v.pow W) (dFa h3a) fun Al W I => ?_
   refine zqd I (fun Al W I => a0a a.v.cls a.v.neg a.p (dig B32 a.v.d).length a.c a.v.pow W) (dFa h3a) fun Al W I => ?_
   refine zqd I (fun Al W I => a0a b.v.cls b.v.neg b.p (dig B32 b.v.d).length b.c b.v.pow W) (dTr h3b) fun Al W I => ?_
   rw [hM]
   refine zret I (v := fun Al => .agg #[.int .i64 (b.v.cls : Int), .bool b.v.neg, .slice b.p (dig B32 b.v.d).length b.c, .int .i64 b.v.pow]) fun Al W I => ?_
   first | (rw [if_pos hof, hoffm]; exact a0k hk2 rfl I.bel (I.boxE 182 _)) | (rw [if_neg hof, if_pos (.inl h3a), if_neg (fun h => by first | exact h.2 hng | (have := h.1; omega)), if_pos h3a]; exact ⟨a.v, VA, a.p, a.c, rfl, I.fa.1, I.bel, I.boxE 182 _⟩) | (rw [if_neg hof, if_pos (.inr h3b), if_neg (fun h => h3a (by omega)), if_neg h3a]; exact ⟨b.v, VB, b.p, b.c, rfl, I.fa.2.1, I.bel, I.boxE 182 _⟩)
 by_cases hng : a.v.neg = b.v.neg
 · refine zqd I (fun Al W I => a0a a.v.cls a.v.neg a.p (dig B32 a.v.d).length a.c a.v.pow W) (dFa h3a) fun Al W I => ?_
   refine zqd I (fun Al W I => a0a a.v.cls a.v.neg a.p (dig B32 a.v.d).length a.c a.v.pow W) (dFa h3a) fun Al W I => ?_
   refine zqd I (fun Al W I => a0a b.v.cls b.v.neg b.p (dig B32 b.v.d).length b.c b.v.pow W) (dFa h3b) fun Al W I => ?_
   refine zd [0, 3] I fun Al W I => ?_
   refine zk [0, 1, 2, 4, 5, 7, 8, 9, 10] I fun I => ?_
   refine zo 3 I fun I => ?_
   refine zg I (fun Al W I => (HA W _ (I.box 0 182 _) I.fa.1 I.fa.2.2.1).out) fun Al V Iv _ hB _ kz => ?_
   rintro _ W ⟨p46, c46, rfl, o46, hb⟩
   refine ⟨_, rfl, kz _ _ hb fun I => ?_⟩
   have I := I.ownB base o46
   refine zo 6 I fun I => ?_
   refine zg I (fun Al W I => (HB W _ (I.box 0 182 _) I.fa.2.2.1 I.fa.2.2.2.1).out) fun Al V Iv _ hB _ kz => ?_
   rintro _ W ⟨p49, c49, rfl, o49, hb⟩
   refine ⟨_, rfl, kz _ _ hb fun I => ?_⟩
   have I := I.ownB base o49
   refine zo 11 I fun I => ?_
   refine zge I 0 182 (fun Al W I => have hzW := I.bel.size; (HS W p46 p49 c46 c49 _ _ (I.box 0 182 _) I.fa.2.1 I.fa.1 (by omega) I.fa.2.2.2.2.1).out) fun Al V Iv _ _ kz => ?_
   rintro _ W ⟨v54, hR54, p54, c54, rfl, o54, hO, hB⟩
   refine ⟨_, rfl, kz _ (uS f n way (flS : Int)) _ hO hB fun I => ?_⟩
   have I := I.ownB base o54
   refine zo 12 I fun I => ?_
   refine zn I fun Al W I => ?_
   rw [hM, if_neg hof, if_neg (by rintro (h | h); exact h3a h; exact h3b h)]
   exact zret I fun Al W I => ⟨v54, hR54, p54, c54, rfl, I.fa.1, I.bel, I.boxE 182 _⟩
 refine zqd I (fun Al W I => a0a a.v.cls a.v.neg a.p (dig B32 a.v.d).length a.c a.v.pow W) (dFa h3a) fun Al W I => ?_
 refine zqd I (fun Al W I => a0a a.v.cls a.v.neg a.p (dig B32 a.v.d).length a.c a.v.pow W) (dFa h3a) fun Al W I => ?_
 refine zqd I (fun Al W I => a0a b.v.cls b.v.neg b.p (dig B32 b.v.d).length b.c b.v.pow W) (dFa h3b) fun Al W I => ?_
 refine zd [0, 3] I fun Al W I => ?_
 refine zk [0, 1, 2, 4, 5, 7, 8, 9, 10] I fun I => ?_
 refine zo 3 I fun I => ?_
 refine zg I (fun Al W I => (HA W _ (I.box 0 182 _) I.fa.1 I.fa.2.2.1).out) fun Al V Iv _ hB _ kz => ?_
 rintro _ W ⟨p46, c46, rfl, o46, hb⟩
 refine ⟨_, rfl, kz _ _ hb fun I => ?_⟩
 have I := I.ownB base o46
 refine zo 6 I fun I => ?_
 refine zg I (fun Al W I => (HB W _ (I.box 0 182 _) I.fa.2.2.1 I.fa.2.2.2.1).out) fun Al V Iv _ hB _ kz => ?_
 rintro _ W ⟨p49, c49, rfl, o49, hb⟩
 refine ⟨_, rfl, kz _ _ hb fun I => ?_⟩
 have I := I.ownB base o49
 refine zo 11 I fun I => ?_
 refine zge I 0 182 (fun Al W I => have hzW := I.bel.size; (HS W p46 p49 c46 c49 _ _ (I.box 0 182 _) I.fa.2.1 I.fa.1 (by omega) I.fa.2.2.2.2.1).out) fun Al V Iv _ _ kz => ?_
 rintro _ W ⟨v54, hR54, p54, c54, rfl, o54, hO, hB⟩
 refine ⟨_, rfl, kz _ (uS f n way (flS : Int)) _ hO hB fun I => ?_⟩
 have I := I.ownB base o54
 refine zo 12 I fun I => ?_
 refine zn I fun Al W I => ?_
 rw [hM, if_neg hof, if_neg (by rintro (h | h); exact h3a h; exact h3b h)]
 exact zret I fun Al W I => ⟨v54, hR54, p54, c54, rfl, I.fa.1, I.bel, I.boxE 182 _⟩
end Go.Proofs.YtmacohmclpnphaaGreatDoor
namespace Go.Slip
open Go.RowKit Go.MapKept
def mapF (b : Nat) (es : Array MapEntry) (clock : Nat) : PF :=
 ⟨fun w => w.heap[b]? = some (.map es clock), fun a => b = a, fun _ _ h hb _ => (hb b (Array.getElem?_eq_some_iff.1 h).1 rfl).trans h, fun _ _ h hf => hf ▸ (Array.getElem?_eq_some_iff.1 h).1⟩
theorem a0g {w : World} {b base : Nat} {es : Array MapEntry} {clock : Nat} {k : IntKind} {e : TypeId} {q : Option Addr} {c : Nat} {xs : List Nat} (h : w.heap[b]? = some (.map es clock)) (o : Own w base k e q c xs) : ¬ (q.isSome = true ∧ blk q = b) := by
 rintro ⟨hq, he⟩
 rcases o.2 with ⟨h1, h2⟩ | ⟨g', cap', cur', hv', hb', hg', _⟩
 · simp only [Value.slice.injEq] at h1
   rw [h1.1] at hq; cases hq
 · simp only [Value.slice.injEq] at hv'
   rw [hv'.1] at he
   have hE : g' = b := he
   subst hE
   have := h.symm.trans hg'
   simp at this
section
variable {P : Program} {ops : Array Oper} {o : Oper} {a : Act} {Q : Exit → Act → World → Prop} {w w' : World} {K : Act → World → Prop}
theorem m1g (d : Option Tmp) (hd : o.dst = d) (v : Value) (hw : Region.wanted o (yielded ops a.tmps) = true) (hr : (execOp a.eval o).run P w = .ok (.value v) w') (h : K (a.put d v) w') : OpW P ops Q o K a w := by
 subst hd
 refine ⟨?_⟩
 rw [if_pos hw]
 unfold Oper.wp
 rw [hr]
 exact h
theorem c1p (d : Option Tmp) (hd : o.dst = d) (hw : Region.wanted o (yielded ops a.tmps) = true) (hr : (execOp a.eval o).run P w = .ok .skip w') (h : K (a.put d undef) w') : OpW P ops Q o K a w := by
 subst hd
 refine ⟨?_⟩
 rw [if_pos hw]
 unfold Oper.wp
 rw [hr]
 exact h
theorem r0l {ik : IntKind} {mt kt vt : TypeId} (hm : P.underlying mt = some (.map kt vt)) (hk : P.underlying kt = some (.int ik)) {b : Nat} {es : Array MapEntry} {clock : Nat} (hb : w.heap[b]? = some (.map es clock)) (k : Int) (v : Value)
 (hf : Instr.findNow (.int ik) (.int ik k) es.toList 0 = some none) :
 (Instr.mapUpdate mt (.map (some b)) (.int ik k) v).run P w = .ok () { w with heap := w.heap.setIfInBounds b (.map (es.push ⟨.int ik k, v, clock⟩) (clock + 1)) } := by
 simp [Instr.mapUpdate, run_underlying hm, MapKept.run_getObj_map hb, run_checkKey hk (n0j ik k), run_findKey hk hf, run_setObj_map _ hb, Result.andThen]
end
section
variable {P : Program} {Q : Exit → Act → World → Prop} {E : List Nat} {w0 : World} {A : List Nat} {fs : List PF} {W V : World} {c : Cfg}
def mkOf (c : Cfg) : Option TypeId :=
 match hdOp c with
 | some ⟨_, .makeMap t none, _, _, _, _⟩ => some t
 | _ => none
theorem zmkm (I : Inv E w0 A c.bx fs W) (t : TypeId) (h : ∀ A W b, w0.heap.size ≤ b → Inv E w0 A (putc (zr P none c) (.v (.map (some b)))).bx (mapF b #[] 0 :: fs) W → G P Q A (putc (zr P none c) (.v (.map (some b)))) W)
 (ho : mkOf (zr P none c) = some t := by kernel_rfl)
 (hr : ∀ A w, (zms P none 5000 c A w).map (·.1) = (zms P none 5000 c A w).map (·.2) := by intro _ _; kernel_rfl)
 (hm : ok1 (zr P none c).rg (zr P none c).bx = ok2 (zr P none c).rg := by kernel_rfl) : G P Q A c W :=
 b0y I hr fun A W I => by
  have h2 := h A
  clear hr h
  generalize zr P none c = c at *
  unfold mkOf hdOp at ho
  split at ho
  · rename_i hn'
    split at hn'
    · rename_i o' hn
      split at hn'
      · rename_i hw
        simp only [Option.some.injEq] at hn' ho
        subst hn' ho
        have hbl : Below W.heap.size W (W.alloc (.map #[] 0)) := (Below.refl _ _).alloc (Nat.le_refl _) _
        have hb : (W.alloc (.map #[] 0)).heap[W.heap.size]? = some (.map #[] 0) := by show (W.heap.push _)[_]? = _; simp
        have I2 := (I.past hbl).add (mapF W.heap.size #[] 0) hb (fun a ha hf => by have := I.lt a ha; have hf : W.heap.size = a := hf; omega)
        refine G_op (E := E) (w0 := w0) (fs := []) hn fun K hK => m1g _ rfl (.map (some W.heap.size)) (by rw [f0m]; exact hw) (w' := W.alloc (.map #[] 0)) ?_ ?_
        · unfold execOp
          simp only [Option.map_none, run_makeMap, Sem.run_bind, Result.andThen_ok, Sem.run_pure]
        · have h := h2 _ _ I.bel.size I2
          unfold putc at h
          rw [hn] at h
          have := hK A _ _ c.bx (List.prefix_refl _) (I2.pick []) hm h
          rw [show Value.map (some W.heap.size) = (SV.v (.map (some W.heap.size))).r A from rfl, d0e]
          exact this
      · cases hn'
    · cases hn'
  · cases ho
def m1h (c : Cfg) (A : List Nat) : Option (TypeId × Value × Value × Value) :=
 match hdOp c with
 | some ⟨_, .insert t m k x, _, _, _, _⟩ => some (t, evr A c.fr m, evr A c.fr k, evr A c.fr x)
 | _ => none
theorem zins {b : Nat} {es : Array MapEntry} {clock : Nat} (I : Inv E w0 A c.bx (mapF b es clock :: fs) W) {t : TypeId} {ik : IntKind} {kt vt : TypeId} (hmt : P.underlying t = some (.map kt vt)) (hk : P.underlying kt = some (.int ik)) (k : Int) (v : Value) (hge : w0.heap.size ≤ b)
 (hfar : ∀ A W, Inv E w0 A (zr P none c).bx (mapF b es clock :: fs) W → PF.far b fs)
 (h : ∀ A W, Inv E w0 A (putc (zr P none c) (.v undef)).bx (mapF b (es.push ⟨.int ik k, v, clock⟩) (clock + 1) :: fs) W → G P Q A (putc (zr P none c) (.v undef)) W)
 (hf : Instr.findNow (.int ik) (.int ik k) es.toList 0 = some none := by kernel_rfl)
 (ho : ∀ A, m1h (zr P none c) A = some (t, .map (some b), .int ik k, v) := by intro _; kernel_rfl)
 (hr : ∀ A w, (zms P none 5000 c A w).map (·.1) = (zms P none 5000 c A w).map (·.2) := by intro _ _; kernel_rfl)
 (hrw : y0g (zr P none c).bx = true := by kernel_rfl)
 (hm : ok1 (zr P none c).rg (zr P none c).bx = ok2 (zr P none c).rg := by kernel_rfl) : G P Q A c W :=
 b0y I hr fun A W I => by
  have ho2 := ho A
  have h2 := h A
  have hfar2 := hfar A W I
  clear hr h ho hfar
  generalize zr P none c = c at *
  unfold m1h hdOp at ho2
  split at ho2
  · rename_i hn'
    simp only [Option.some.injEq, Prod.mk.injEq] at ho2
    obtain ⟨rfl, o1, o2, o3⟩ := ho2
    split at hn'
    · rename_i o' hn
      split at hn'
      · rename_i hw
        simp only [Option.some.injEq] at hn'
        subst hn'
        have hb : W.heap[b]? = some (.map es clock) := I.fa.1
        have hbl := (Array.getElem?_eq_some_iff.1 hb).1
        have keep : ∀ j, j ≠ b → (W.heap.setIfInBounds b (.map (es.push ⟨.int ik k, v, clock⟩) (clock + 1)))[j]? = W.heap[j]? := fun j hj => Array.getElem?_setIfInBounds_ne (Ne.symm hj)
        have I2 : Inv E w0 A c.bx (mapF b (es.push ⟨.int ik k, v, clock⟩) (clock + 1) :: fs) { W with heap := W.heap.setIfInBounds b (.map (es.push ⟨.int ik k, v, clock⟩) (clock + 1)) } := by
         refine ⟨⟨I.bel.os, I.bel.tape, I.bel.output, by simp only [Array.size_setIfInBounds]; exact I.bel.size, fun j hj hjE => ?_⟩, I.ge, I.nd, I.len, I.pre, fun j hj => ?_, ⟨?_, ?_⟩, fun a ha => ⟨(I.far a ha).1, (I.far a ha).2⟩⟩
         · rw [keep j (by omega)]
           exact I.bel.block j hj hjE
         · have hF : Fa A c.bx (lk 0 A j) := ⟨j, hj, o0e hrw j hj, rfl⟩
           have h1 := I.bt j hj
           unfold Bt at h1 ⊢
           rw [keep _ (fun e => (I.far _ hF).1 e.symm)]
           exact h1
         · show (W.heap.setIfInBounds b _)[b]? = _
           simp [hbl]
         · refine PF.all_keep (by simp) I.fa.2 fun j hj ha => keep j fun e => ha _ hfar2 e.symm
        refine G_op (E := E) (w0 := w0) (fs := []) hn fun K hK => c1p _ rfl (by rw [f0m]; exact hw) (w' := { W with heap := W.heap.setIfInBounds b (.map (es.push ⟨.int ik k, v, clock⟩) (clock + 1)) }) ?_ ?_
        · rw [c0j]
          unfold execOp
          simp only [o1, o2, o3, Sem.run_bind, r0l hmt hk hb k v hf, Result.andThen_ok, Sem.run_pure]
        · have h := h2 _ I2
          unfold putc at h
          rw [hn] at h
          have := hK A _ _ c.bx (List.prefix_refl _) (I2.pick []) hm h
          rw [show undef = (SV.v undef).r A from rfl, d0e]
          exact this
      · cases hn'
    · cases hn'
  · cases ho2
theorem b0g {ik : IntKind} {t kt vt : TypeId} (hm : P.underlying t = some (.map kt vt)) (hk : P.underlying kt = some (.int ik)) {b : Nat} {es : Array MapEntry} {clock : Nat} (hb : W.heap[b]? = some (.map es clock)) (k : Int) {v : Value} (hf : ∃ i, Instr.findNow (.int ik) (.int ik k) es.toList 0 = some (some (i, v))) :
 (VO.lk t (.map (some b)) (.int ik k) false).sem.run P W = .ok v W := by
 obtain ⟨i, hf⟩ := hf
 exact g0c hm hk hb k hf
end
end Go.Slip
namespace Go.Proofs.YtmacohmclpnphaaGreatDoor
open Go.RowKit Go.Slip
def pkF (f : Fm) : Int := if f.fam = 1 then 3 else if f.fam = 2 then 2 else (f.nothM.cls : Nat)
def pgF (f : Fm) (g : Bool) : Bool := if f.fam = 1 then g else if f.fam = 2 then g else false
def ppF (f : Fm) (p : Option Addr) : Option Addr := if f.fam = 1 then none else if f.fam = 2 then p else none
def plF (f : Fm) (l : Nat) : Nat := if f.fam = 1 then 0 else if f.fam = 2 then l else 0
def peF (f : Fm) : Int := if f.fam = 1 then 0 else if f.fam = 2 then f.g.hi else 0
theorem c1q (f : Fm) (g : Bool) (p : Option Addr) (l c : Nat) (es : Array MapEntry) (h1 : ∃ i, Instr.findNow (.int .u8) (.int .u8 65) es.toList 0 = some (some (i, .agg #[.int .i64 3, .bool g, .slice none 0 0, .int .i64 0])))
 (h2 : ∃ i, Instr.findNow (.int .u8) (.int .u8 66) es.toList 0 = some (some (i, .agg #[.int .i64 2, .bool g, .slice p l c, .int .i64 f.g.hi])))
 (h3 : ∃ i, Instr.findNow (.int .u8) (.int .u8 67) es.toList 0 = some (some (i, .agg #[.int .i64 (f.nothM.cls : Int), .bool false, .slice none 0 0, .int .i64 0]))) :
 ∃ i, Instr.findNow (.int .u8) (.int .u8 (famB f)) es.toList 0 = some (some (i, .agg #[.int .i64 (pkF f), .bool (pgF f g), .slice (ppF f p) (plF f l) (plF f c), .int .i64 (peF f)])) := by
 unfold famB pkF pgF ppF plF peF
 by_cases f1 : f.fam = 1
 · simp only [if_pos f1]; exact h1
 · by_cases f2 : f.fam = 2
   · simp only [if_neg f1, if_pos f2]; exact h2
   · simp only [if_neg f1, if_neg f2]; exact h3
theorem f1p {f : Fm} {n way : Int} {u : Nat} {w w' : World} {g : Bool} {p : Option Addr} {c : Nat} (G : c0e f) (ho : Own w' w.heap.size .u32 141 p c (dig B32 (2 ^ (wid f.g * f.g.digs.toNat) - 1))) (hk : Kp [u] w w') (hb : Bt w' u 182 #[.int .i64 n, .int .i64 way, .int .i64 f.g.rad, .int .i64 f.g.digs, .int .i64 f.g.lo, .int .i64 f.g.hi, .bool f.g.grad, .int .u8 (famB f), .int .i64 8]) :
 e0t f n way u w w.heap.size (f.poleM g) (.returned (.agg #[.int .i64 (pkF f), .bool (pgF f g), .slice (ppF f p) (plF f (dig B32 (2 ^ (wid f.g * f.g.digs.toNat) - 1)).length) (plF f c), .int .i64 (peF f)])) w' := by
 unfold pkF pgF ppF plF peF Fm.poleM
 by_cases f1 : f.fam = 1
 · simp only [if_pos f1]
   exact a0k (k := 3) (by decide) rfl hk hb
 · by_cases f2 : f.fam = 2
   · simp only [if_neg f1, if_pos f2]
     exact ⟨_, o0d G g, p, c, rfl, ho, hk, hb⟩
   · simp only [if_neg f1, if_neg f2]
     exact a0k (k := f.nothM.cls) (k0k G) rfl hk hb
theorem a0d : Tryz.prog.underlying 209 = some (.map 5 75) := by kernel_rfl
theorem m1i (f : Fm) (n way : Int) (g : Bool) (u : Nat) (w : World) (U : Bt w u 182 #[.int .i64 n, .int .i64 way, .int .i64 f.g.rad, .int .i64 f.g.digs, .int .i64 f.g.lo, .int .i64 f.g.hi, .bool f.g.grad, .int .u8 (famB f), .int .i64 0]) (G : c0e f) :
 Calls Tryz.prog 120 #[.pointer (some ⟨u, 0, none⟩), .bool g] w (e0t f n way u w w.heap.size (f.poleM g)) := by
 have GG := b0s G.g
 have d1 := GG.d1
 have d2 := GG.d2
 have HR := fun W u hU => hi0 (c0o f n way 0 8 8 u W hU (by decide +kernel))
 have HG := fun W u hU => hi0 (f0f f n way 8 g u W hU (by omega))
 have HN := fun W u hU => hi0 (i0a f n way 8 u W hU)
 have HI := fun W => hi0 (g0e g W)
 have HF := c1q f g
 have HE := fun (w' : World) p c => f1p (n := n) (way := way) (u := u) (w := w) (w' := w') (g := g) (p := p) (c := c) G
 generalize 2 ^ (wid f.g * f.g.digs.toNat) - 1 = m at *
 generalize f.nothM.cls = kN at *
 have I := Inv.startW w u 182 (uS f n way 0) [] U True.intro True.intro
 refine a0e [.p 0 0, .v (.bool g)] I Tryz.func120 ?_
 refine zge I 0 182 (fun Al W I => (HR W _ (I.box 0 182 _)).out) fun Al V Iv _ _ kz => ?_
 rintro _ W ⟨rfl, hO, hB⟩
 refine ⟨_, rfl, kz _ (uS f n way 8) _ hO hB fun I => ?_⟩
 refine zcut I none (fun fr bx gs => ∃ (U1 : Nat → Value) (p12 : Option Addr) (c12 : Nat), fr = (.p 0 0 :: .v (.bool g) :: su 2 (.p 1 0 :: sw U1 5 16 []) : List SV) ∧ bx = [⟨182, (uS f n way 8), false⟩, ⟨75, [.v (.int .i64 (pkF f)), .v (.bool (pgF f g)), .v (.slice (ppF f p12) (plF f (dig B32 m).length) (plF f c12)), .v (.int .i64 (peF f))], false⟩] ∧ gs = [ownF w.heap.size .u32 141 p12 c12 (dig B32 m)]) ?_ ?_
 · intro J hJ Al W I
   refine zd [1] I fun Al W I => ?_
   refine zk [1, 4, 5, 8, 12, 13, 14, 15] I fun I => ?_
   refine zo2 0 2 I (fun I => ?_) (fun I => ?_)
   · refine zmkm I 209 fun Al W m7_b m7_ge I => ?_
     refine zo 2 I fun I => ?_
     refine zq I (fun Al W I => (HI W).out) fun Al W I => ?_
     refine zo2 3 6 I (fun I => ?_) (fun I => ?_)
     · refine zins I a0d Tryz.underlying5 65 (.agg #[.int .i64 3, .bool g, .slice none 0 0, .int .i64 0]) m7_ge (fun Al W I => True.intro) fun Al W I => ?_
       refine zo 6 I fun I => ?_
       refine zqo I (fun Al W I => (HG W _ (I.box 0 182 _)).out) fun Al W p12 c12 I => ?_
       refine zo2 7 9 I (fun I => ?_) (fun I => ?_)
       · have I := I.pick [1, 0]
         refine zins I a0d Tryz.underlying5 66 (.agg #[.int .i64 2, .bool g, .slice p12 (dig B32 m).length c12, .int .i64 f.g.hi]) m7_ge (fun Al W I => ⟨a0g I.fa.1 I.fa.2.1, True.intro⟩) fun Al W I => ?_
         refine zo 9 I fun I => ?_
         refine zq I (fun Al W I => (HN W _ (I.box 0 182 _)).out) fun Al W I => ?_
         refine zo 10 I fun I => ?_
         refine zins I a0d Tryz.underlying5 67 (.agg #[.int .i64 (kN : Int), .bool false, .slice none 0 0, .int .i64 0]) m7_ge (fun Al W I => ⟨a0g I.fa.1 I.fa.2.1, True.intro⟩) fun Al W I => ?_
         refine zk [11] I fun I => ?_
         refine zo 16 I fun I => ?_
         refine zx I 20 (fun _ => .agg #[.int .i64 (pkF f), .bool (pgF f g), .slice (ppF f p12) (plF f (dig B32 m).length) (plF f c12), .int .i64 (peF f)]) (fun Al W I => (b0g a0d Tryz.underlying5 I.fa.1 _ (HF p12 _ c12 _ ⟨_, rfl⟩ ⟨_, rfl⟩ ⟨_, rfl⟩))) fun Al W I => ?_
         refine zo 17 I fun I => ?_
         refine zn I fun Al W I => ?_
         exact a0o I J fun Al W U I => hJ _ _ _ _ _ ⟨U, p12, c12, rfl, rfl, rfl⟩ (I.pick [1])
       refine zq I (fun Al W I => (HN W _ (I.box 0 182 _)).out) fun Al W I => ?_
       refine zo2 7 10 I (fun I => ?_) (fun I => ?_)
       · have I := I.pick [1, 0]
         refine zins I a0d Tryz.underlying5 66 (.agg #[.int .i64 2, .bool g, .slice p12 (dig B32 m).length c12, .int .i64 f.g.hi]) m7_ge (fun Al W I => ⟨a0g I.fa.1 I.fa.2.1, True.intro⟩) fun Al W I => ?_
         refine zo 10 I fun I => ?_
         refine zins I a0d Tryz.underlying5 67 (.agg #[.int .i64 (kN : Int), .bool false, .slice none 0 0, .int .i64 0]) m7_ge (fun Al W I => ⟨a0g I.fa.1 I.fa.2.1, True.intro⟩) fun Al W I => ?_
         refine zk [11] I fun I => ?_
         refine zo 16 I fun I => ?_
         refine zx I 20 (fun _ => .agg #[.int .i64 (pkF f), .bool (pgF f g), .slice (ppF f p12) (plF f (dig B32 m).length) (plF f c12), .int .i64 (peF f)]) (fun Al W I => (b0g a0d Tryz.underlying5 I.fa.1 _ (HF p12 _ c12 _ ⟨_, rfl⟩ ⟨_, rfl⟩ ⟨_, rfl⟩))) fun Al W I => ?_
         refine zo 17 I fun I => ?_
         refine zn I fun Al W I => ?_
         exact a0o I J fun Al W U I => hJ _ _ _ _ _ ⟨U, p12, c12, rfl, rfl, rfl⟩ (I.pick [1])
       have I := I.pick [1, 0]
       refine zins I a0d Tryz.underlying5 67 (.agg #[.int .i64 (kN : Int), .bool false, .slice none 0 0, .int .i64 0]) m7_ge (fun Al W I => ⟨a0g I.fa.1 I.fa.2.1, True.intro⟩) fun Al W I => ?_
       refine zo 7 I fun I => ?_
       refine zins I a0d Tryz.underlying5 66 (.agg #[.int .i64 2, .bool g, .slice p12 (dig B32 m).length c12, .int .i64 f.g.hi]) m7_ge (fun Al W I => ⟨a0g I.fa.1 I.fa.2.1, True.intro⟩) fun Al W I => ?_
       refine zk [11] I fun I => ?_
       refine zo 16 I fun I => ?_
       refine zx I 20 (fun _ => .agg #[.int .i64 (pkF f), .bool (pgF f g), .slice (ppF f p12) (plF f (dig B32 m).length) (plF f c12), .int .i64 (peF f)]) (fun Al W I => (b0g a0d Tryz.underlying5 I.fa.1 _ (HF p12 _ c12 _ ⟨_, rfl⟩ ⟨_, rfl⟩ ⟨_, rfl⟩))) fun Al W I => ?_
       refine zo 17 I fun I => ?_
       refine zn I fun Al W I => ?_
       exact a0o I J fun Al W U I => hJ _ _ _ _ _ ⟨U, p12, c12, rfl, rfl, rfl⟩ (I.pick [1])
     refine zqo I (fun Al W I => (HG W _ (I.box 0 182 _)).out) fun Al W p12 c12 I => ?_
     refine zo3 3 7 9 I (fun I => ?_) (fun I => ?_) (fun I => ?_)
     · have I := I.pick [1, 0]
       refine zins I a0d Tryz.underlying5 65 (.agg #[.int .i64 3, .bool g, .slice none 0 0, .int .i64 0]) m7_ge (fun Al W I => ⟨a0g I.fa.1 I.fa.2.1, True.intro⟩) fun Al W I => ?_
       refine zo2 7 9 I (fun I => ?_) (fun I => ?_)
       · refine zins I a0d Tryz.underlying5 66 (.agg #[.int .i64 2, .bool g, .slice p12 (dig B32 m).length c12, .int .i64 f.g.hi]) m7_ge (fun Al W I => ⟨a0g I.fa.1 I.fa.2.1, True.intro⟩) fun Al W I => ?_
         refine zo 9 I fun I => ?_
         refine zq I (fun Al W I => (HN W _ (I.box 0 182 _)).out) fun Al W I => ?_
         refine zo 10 I fun I => ?_
         refine zins I a0d Tryz.underlying5 67 (.agg #[.int .i64 (kN : Int), .bool false, .slice none 0 0, .int .i64 0]) m7_ge (fun Al W I => ⟨a0g I.fa.1 I.fa.2.1, True.intro⟩) fun Al W I => ?_
         refine zk [11] I fun I => ?_
         refine zo 16 I fun I => ?_
         refine zx I 20 (fun _ => .agg #[.int .i64 (pkF f), .bool (pgF f g), .slice (ppF f p12) (plF f (dig B32 m).length) (plF f c12), .int .i64 (peF f)]) (fun Al W I => (b0g a0d Tryz.underlying5 I.fa.1 _ (HF p12 _ c12 _ ⟨_, rfl⟩ ⟨_, rfl⟩ ⟨_, rfl⟩))) fun Al W I => ?_
         refine zo 17 I fun I => ?_
         refine zn I fun Al W I => ?_
         exact a0o I J fun Al W U I => hJ _ _ _ _ _ ⟨U, p12, c12, rfl, rfl, rfl⟩ (I.pick [1])
       refine zq I (fun Al W I => (HN W _ (I.box 0 182 _)).out) fun Al W I => ?_
       refine zo2 7 10 I (fun I => ?_) (fun I => ?_)
       · refine zins I a0d Tryz.underlying5 66 (.agg #[.int .i64 2, .bool g, .slice p12 (dig B32 m).length c12, .int .i64 f.g.hi]) m7_ge (fun Al W I => ⟨a0g I.fa.1 I.fa.2.1, True.intro⟩) fun Al W I => ?_
         refine zo 10 I fun I => ?_
         refine zins I a0d Tryz.underlying5 67 (.agg #[.int .i64 (kN : Int), .bool false, .slice none 0 0, .int .i64 0]) m7_ge (fun Al W I => ⟨a0g I.fa.1 I.fa.2.1, True.intro⟩) fun Al W I => ?_
         refine zk [11] I fun I => ?_
         refine zo 16 I fun I => ?_
         refine zx I 20 (fun _ => .agg #[.int .i64 (pkF f), .bool (pgF f g), .slice (ppF f p12) (plF f (dig B32 m).length) (plF f c12), .int .i64 (peF f)]) (fun Al W I => (b0g a0d Tryz.underlying5 I.fa.1 _ (HF p12 _ c12 _ ⟨_, rfl⟩ ⟨_, rfl⟩ ⟨_, rfl⟩))) fun Al W I => ?_
         refine zo 17 I fun I => ?_
         refine zn I fun Al W I => ?_
         exact a0o I J fun Al W U I => hJ _ _ _ _ _ ⟨U, p12, c12, rfl, rfl, rfl⟩ (I.pick [1])
       refine zins I a0d Tryz.underlying5 67 (.agg #[.int .i64 (kN : Int), .bool false, .slice none 0 0, .int .i64 0]) m7_ge (fun Al W I => ⟨a0g I.fa.1 I.fa.2.1, True.intro⟩) fun Al W I => ?_
       refine zo 7 I fun I => ?_
       refine zins I a0d Tryz.underlying5 66 (.agg #[.int .i64 2, .bool g, .slice p12 (dig B32 m).length c12, .int .i64 f.g.hi]) m7_ge (fun Al W I => ⟨a0g I.fa.1 I.fa.2.1, True.intro⟩) fun Al W I => ?_
       refine zk [11] I fun I => ?_
       refine zo 16 I fun I => ?_
       refine zx I 20 (fun _ => .agg #[.int .i64 (pkF f), .bool (pgF f g), .slice (ppF f p12) (plF f (dig B32 m).length) (plF f c12), .int .i64 (peF f)]) (fun Al W I => (b0g a0d Tryz.underlying5 I.fa.1 _ (HF p12 _ c12 _ ⟨_, rfl⟩ ⟨_, rfl⟩ ⟨_, rfl⟩))) fun Al W I => ?_
       refine zo 17 I fun I => ?_
       refine zn I fun Al W I => ?_
       exact a0o I J fun Al W U I => hJ _ _ _ _ _ ⟨U, p12, c12, rfl, rfl, rfl⟩ (I.pick [1])
     · have I := I.pick [1, 0]
       refine zins I a0d Tryz.underlying5 66 (.agg #[.int .i64 2, .bool g, .slice p12 (dig B32 m).length c12, .int .i64 f.g.hi]) m7_ge (fun Al W I => ⟨a0g I.fa.1 I.fa.2.1, True.intro⟩) fun Al W I => ?_
       refine zo2 3 9 I (fun I => ?_) (fun I => ?_)
       · refine zins I a0d Tryz.underlying5 65 (.agg #[.int .i64 3, .bool g, .slice none 0 0, .int .i64 0]) m7_ge (fun Al W I => ⟨a0g I.fa.1 I.fa.2.1, True.intro⟩) fun Al W I => ?_
         refine zo 9 I fun I => ?_
         refine zq I (fun Al W I => (HN W _ (I.box 0 182 _)).out) fun Al W I => ?_
         refine zo 10 I fun I => ?_
         refine zins I a0d Tryz.underlying5 67 (.agg #[.int .i64 (kN : Int), .bool false, .slice none 0 0, .int .i64 0]) m7_ge (fun Al W I => ⟨a0g I.fa.1 I.fa.2.1, True.intro⟩) fun Al W I => ?_
         refine zk [11] I fun I => ?_
         refine zo 16 I fun I => ?_
         refine zx I 20 (fun _ => .agg #[.int .i64 (pkF f), .bool (pgF f g), .slice (ppF f p12) (plF f (dig B32 m).length) (plF f c12), .int .i64 (peF f)]) (fun Al W I => (b0g a0d Tryz.underlying5 I.fa.1 _ (HF p12 _ c12 _ ⟨_, rfl⟩ ⟨_, rfl⟩ ⟨_, rfl⟩))) fun Al W I => ?_
         refine zo 17 I fun I => ?_
         refine zn I fun Al W I => ?_
         exact a0o I J fun Al W U I => hJ _ _ _ _ _ ⟨U, p12, c12, rfl, rfl, rfl⟩ (I.pick [1])
       refine zq I (fun Al W I => (HN W _ (I.box 0 182 _)).out) fun Al W I => ?_
       refine zo2 3 10 I (fun I => ?_) (fun I => ?_)
       · refine zins I a0d Tryz.underlying5 65 (.agg #[.int .i64 3, .bool g, .slice none 0 0, .int .i64 0]) m7_ge (fun Al W I => ⟨a0g I.fa.1 I.fa.2.1, True.intro⟩) fun Al W I => ?_
         refine zo 10 I fun I => ?_
         refine zins I a0d Tryz.underlying5 67 (.agg #[.int .i64 (kN : Int), .bool false, .slice none 0 0, .int .i64 0]) m7_ge (fun Al W I => ⟨a0g I.fa.1 I.fa.2.1, True.intro⟩) fun Al W I => ?_
         refine zk [11] I fun I => ?_
         refine zo 16 I fun I => ?_
         refine zx I 20 (fun _ => .agg #[.int .i64 (pkF f), .bool (pgF f g), .slice (ppF f p12) (plF f (dig B32 m).length) (plF f c12), .int .i64 (peF f)]) (fun Al W I => (b0g a0d Tryz.underlying5 I.fa.1 _ (HF p12 _ c12 _ ⟨_, rfl⟩ ⟨_, rfl⟩ ⟨_, rfl⟩))) fun Al W I => ?_
         refine zo 17 I fun I => ?_
         refine zn I fun Al W I => ?_
         exact a0o I J fun Al W U I => hJ _ _ _ _ _ ⟨U, p12, c12, rfl, rfl, rfl⟩ (I.pick [1])
       refine zins I a0d Tryz.underlying5 67 (.agg #[.int .i64 (kN : Int), .bool false, .slice none 0 0, .int .i64 0]) m7_ge (fun Al W I => ⟨a0g I.fa.1 I.fa.2.1, True.intro⟩) fun Al W I => ?_
       refine zo 3 I fun I => ?_
       refine zins I a0d Tryz.underlying5 65 (.agg #[.int .i64 3, .bool g, .slice none 0 0, .int .i64 0]) m7_ge (fun Al W I => ⟨a0g I.fa.1 I.fa.2.1, True.intro⟩) fun Al W I => ?_
       refine zk [11] I fun I => ?_
       refine zo 16 I fun I => ?_
       refine zx I 20 (fun _ => .agg #[.int .i64 (pkF f), .bool (pgF f g), .slice (ppF f p12) (plF f (dig B32 m).length) (plF f c12), .int .i64 (peF f)]) (fun Al W I => (b0g a0d Tryz.underlying5 I.fa.1 _ (HF p12 _ c12 _ ⟨_, rfl⟩ ⟨_, rfl⟩ ⟨_, rfl⟩))) fun Al W I => ?_
       refine zo 17 I fun I => ?_
       refine zn I fun Al W I => ?_
       exact a0o I J fun Al W U I => hJ _ _ _ _ _ ⟨U, p12, c12, rfl, rfl, rfl⟩ (I.pick [1])
     refine zq I (fun Al W I => (HN W _ (I.box 0 182 _)).out) fun Al W I => ?_
     refine zo3 3 7 10 I (fun I => ?_) (fun I => ?_) (fun I => ?_)
     · have I := I.pick [1, 0]
       refine zins I a0d Tryz.underlying5 65 (.agg #[.int .i64 3, .bool g, .slice none 0 0, .int .i64 0]) m7_ge (fun Al W I => ⟨a0g I.fa.1 I.fa.2.1, True.intro⟩) fun Al W I => ?_
       refine zo2 7 10 I (fun I => ?_) (fun I => ?_)
       · refine zins I a0d Tryz.underlying5 66 (.agg #[.int .i64 2, .bool g, .slice p12 (dig B32 m).length c12, .int .i64 f.g.hi]) m7_ge (fun Al W I => ⟨a0g I.fa.1 I.fa.2.1, True.intro⟩) fun Al W I => ?_
         refine zo 10 I fun I => ?_
         refine zins I a0d Tryz.underlying5 67 (.agg #[.int .i64 (kN : Int), .bool false, .slice none 0 0, .int .i64 0]) m7_ge (fun Al W I => ⟨a0g I.fa.1 I.fa.2.1, True.intro⟩) fun Al W I => ?_
         refine zk [11] I fun I => ?_
         refine zo 16 I fun I => ?_
         refine zx I 20 (fun _ => .agg #[.int .i64 (pkF f), .bool (pgF f g), .slice (ppF f p12) (plF f (dig B32 m).length) (plF f c12), .int .i64 (peF f)]) (fun Al W I => (b0g a0d Tryz.underlying5 I.fa.1 _ (HF p12 _ c12 _ ⟨_, rfl⟩ ⟨_, rfl⟩ ⟨_, rfl⟩))) fun Al W I => ?_
         refine zo 17 I fun I => ?_
         refine zn I fun Al W I => ?_
         exact a0o I J fun Al W U I => hJ _ _ _ _ _ ⟨U, p12, c12, rfl, rfl, rfl⟩ (I.pick [1])
       refine zins I a0d Tryz.underlying5 67 (.agg #[.int .i64 (kN : Int), .bool false, .slice none 0 0, .int .i64 0]) m7_ge (fun Al W I => ⟨a0g I.fa.1 I.fa.2.1, True.intro⟩) fun Al W I => ?_
       refine zo 7 I fun I => ?_
       refine zins I a0d Tryz.underlying5 66 (.agg #[.int .i64 2, .bool g, .slice p12 (dig B32 m).length c12, .int .i64 f.g.hi]) m7_ge (fun Al W I => ⟨a0g I.fa.1 I.fa.2.1, True.intro⟩) fun Al W I => ?_
       refine zk [11] I fun I => ?_
       refine zo 16 I fun I => ?_
       refine zx I 20 (fun _ => .agg #[.int .i64 (pkF f), .bool (pgF f g), .slice (ppF f p12) (plF f (dig B32 m).length) (plF f c12), .int .i64 (peF f)]) (fun Al W I => (b0g a0d Tryz.underlying5 I.fa.1 _ (HF p12 _ c12 _ ⟨_, rfl⟩ ⟨_, rfl⟩ ⟨_, rfl⟩))) fun Al W I => ?_
       refine zo 17 I fun I => ?_
       refine zn I fun Al W I => ?_
       exact a0o I J fun Al W U I => hJ _ _ _ _ _ ⟨U, p12, c12, rfl, rfl, rfl⟩ (I.pick [1])
     · have I := I.pick [1, 0]
       refine zins I a0d Tryz.underlying5 66 (.agg #[.int .i64 2, .bool g, .slice p12 (dig B32 m).length c12, .int .i64 f.g.hi]) m7_ge (fun Al W I => ⟨a0g I.fa.1 I.fa.2.1, True.intro⟩) fun Al W I => ?_
       refine zo2 3 10 I (fun I => ?_) (fun I => ?_)
       · refine zins I a0d Tryz.underlying5 65 (.agg #[.int .i64 3, .bool g, .slice none 0 0, .int .i64 0]) m7_ge (fun Al W I => ⟨a0g I.fa.1 I.fa.2.1, True.intro⟩) fun Al W I => ?_
         refine zo 10 I fun I => ?_
         refine zins I a0d Tryz.underlying5 67 (.agg #[.int .i64 (kN : Int), .bool false, .slice none 0 0, .int .i64 0]) m7_ge (fun Al W I => ⟨a0g I.fa.1 I.fa.2.1, True.intro⟩) fun Al W I => ?_
         refine zk [11] I fun I => ?_
         refine zo 16 I fun I => ?_
         refine zx I 20 (fun _ => .agg #[.int .i64 (pkF f), .bool (pgF f g), .slice (ppF f p12) (plF f (dig B32 m).length) (plF f c12), .int .i64 (peF f)]) (fun Al W I => (b0g a0d Tryz.underlying5 I.fa.1 _ (HF p12 _ c12 _ ⟨_, rfl⟩ ⟨_, rfl⟩ ⟨_, rfl⟩))) fun Al W I => ?_
         refine zo 17 I fun I => ?_
         refine zn I fun Al W I => ?_
         exact a0o I J fun Al W U I => hJ _ _ _ _ _ ⟨U, p12, c12, rfl, rfl, rfl⟩ (I.pick [1])
       refine zins I a0d Tryz.underlying5 67 (.agg #[.int .i64 (kN : Int), .bool false, .slice none 0 0, .int .i64 0]) m7_ge (fun Al W I => ⟨a0g I.fa.1 I.fa.2.1, True.intro⟩) fun Al W I => ?_
       refine zo 3 I fun I => ?_
       refine zins I a0d Tryz.underlying5 65 (.agg #[.int .i64 3, .bool g, .slice none 0 0, .int .i64 0]) m7_ge (fun Al W I => ⟨a0g I.fa.1 I.fa.2.1, True.intro⟩) fun Al W I => ?_
       refine zk [11] I fun I => ?_
       refine zo 16 I fun I => ?_
       refine zx I 20 (fun _ => .agg #[.int .i64 (pkF f), .bool (pgF f g), .slice (ppF f p12) (plF f (dig B32 m).length) (plF f c12), .int .i64 (peF f)]) (fun Al W I => (b0g a0d Tryz.underlying5 I.fa.1 _ (HF p12 _ c12 _ ⟨_, rfl⟩ ⟨_, rfl⟩ ⟨_, rfl⟩))) fun Al W I => ?_
       refine zo 17 I fun I => ?_
       refine zn I fun Al W I => ?_
       exact a0o I J fun Al W U I => hJ _ _ _ _ _ ⟨U, p12, c12, rfl, rfl, rfl⟩ (I.pick [1])
     have I := I.pick [1, 0]
     refine zins I a0d Tryz.underlying5 67 (.agg #[.int .i64 (kN : Int), .bool false, .slice none 0 0, .int .i64 0]) m7_ge (fun Al W I => ⟨a0g I.fa.1 I.fa.2.1, True.intro⟩) fun Al W I => ?_
     refine zo2 3 7 I (fun I => ?_) (fun I => ?_)
     · refine zins I a0d Tryz.underlying5 65 (.agg #[.int .i64 3, .bool g, .slice none 0 0, .int .i64 0]) m7_ge (fun Al W I => ⟨a0g I.fa.1 I.fa.2.1, True.intro⟩) fun Al W I => ?_
       refine zo 7 I fun I => ?_
       refine zins I a0d Tryz.underlying5 66 (.agg #[.int .i64 2, .bool g, .slice p12 (dig B32 m).length c12, .int .i64 f.g.hi]) m7_ge (fun Al W I => ⟨a0g I.fa.1 I.fa.2.1, True.intro⟩) fun Al W I => ?_
       refine zk [11] I fun I => ?_
       refine zo 16 I fun I => ?_
       refine zx I 20 (fun _ => .agg #[.int .i64 (pkF f), .bool (pgF f g), .slice (ppF f p12) (plF f (dig B32 m).length) (plF f c12), .int .i64 (peF f)]) (fun Al W I => (b0g a0d Tryz.underlying5 I.fa.1 _ (HF p12 _ c12 _ ⟨_, rfl⟩ ⟨_, rfl⟩ ⟨_, rfl⟩))) fun Al W I => ?_
       refine zo 17 I fun I => ?_
       refine zn I fun Al W I => ?_
       exact a0o I J fun Al W U I => hJ _ _ _ _ _ ⟨U, p12, c12, rfl, rfl, rfl⟩ (I.pick [1])
     refine zins I a0d Tryz.underlying5 66 (.agg #[.int .i64 2, .bool g, .slice p12 (dig B32 m).length c12, .int .i64 f.g.hi]) m7_ge (fun Al W I => ⟨a0g I.fa.1 I.fa.2.1, True.intro⟩) fun Al W I => ?_
     refine zo 3 I fun I => ?_
     refine zins I a0d Tryz.underlying5 65 (.agg #[.int .i64 3, .bool g, .slice none 0 0, .int .i64 0]) m7_ge (fun Al W I => ⟨a0g I.fa.1 I.fa.2.1, True.intro⟩) fun Al W I => ?_
     refine zk [11] I fun I => ?_
     refine zo 16 I fun I => ?_
     refine zx I 20 (fun _ => .agg #[.int .i64 (pkF f), .bool (pgF f g), .slice (ppF f p12) (plF f (dig B32 m).length) (plF f c12), .int .i64 (peF f)]) (fun Al W I => (b0g a0d Tryz.underlying5 I.fa.1 _ (HF p12 _ c12 _ ⟨_, rfl⟩ ⟨_, rfl⟩ ⟨_, rfl⟩))) fun Al W I => ?_
     refine zo 17 I fun I => ?_
     refine zn I fun Al W I => ?_
     exact a0o I J fun Al W U I => hJ _ _ _ _ _ ⟨U, p12, c12, rfl, rfl, rfl⟩ (I.pick [1])
   refine zq I (fun Al W I => (HI W).out) fun Al W I => ?_
   refine zo2 0 6 I (fun I => ?_) (fun I => ?_)
   · refine zmkm I 209 fun Al W m7_b m7_ge I => ?_
     refine zo2 3 6 I (fun I => ?_) (fun I => ?_)
     · refine zins I a0d Tryz.underlying5 65 (.agg #[.int .i64 3, .bool g, .slice none 0 0, .int .i64 0]) m7_ge (fun Al W I => True.intro) fun Al W I => ?_
       refine zo 6 I fun I => ?_
       refine zqo I (fun Al W I => (HG W _ (I.box 0 182 _)).out) fun Al W p12 c12 I => ?_
       refine zo2 7 9 I (fun I => ?_) (fun I => ?_)
       · have I := I.pick [1, 0]
         refine zins I a0d Tryz.underlying5 66 (.agg #[.int .i64 2, .bool g, .slice p12 (dig B32 m).length c12, .int .i64 f.g.hi]) m7_ge (fun Al W I => ⟨a0g I.fa.1 I.fa.2.1, True.intro⟩) fun Al W I => ?_
         refine zo 9 I fun I => ?_
         refine zq I (fun Al W I => (HN W _ (I.box 0 182 _)).out) fun Al W I => ?_
         refine zo 10 I fun I => ?_
         refine zins I a0d Tryz.underlying5 67 (.agg #[.int .i64 (kN : Int), .bool false, .slice none 0 0, .int .i64 0]) m7_ge (fun Al W I => ⟨a0g I.fa.1 I.fa.2.1, True.intro⟩) fun Al W I => ?_
         refine zk [11] I fun I => ?_
         refine zo 16 I fun I => ?_
         refine zx I 20 (fun _ => .agg #[.int .i64 (pkF f), .bool (pgF f g), .slice (ppF f p12) (plF f (dig B32 m).length) (plF f c12), .int .i64 (peF f)]) (fun Al W I => (b0g a0d Tryz.underlying5 I.fa.1 _ (HF p12 _ c12 _ ⟨_, rfl⟩ ⟨_, rfl⟩ ⟨_, rfl⟩))) fun Al W I => ?_
         refine zo 17 I fun I => ?_
         refine zn I fun Al W I => ?_
         exact a0o I J fun Al W U I => hJ _ _ _ _ _ ⟨U, p12, c12, rfl, rfl, rfl⟩ (I.pick [1])
       refine zq I (fun Al W I => (HN W _ (I.box 0 182 _)).out) fun Al W I => ?_
       refine zo2 7 10 I (fun I => ?_) (fun I => ?_)
       · have I := I.pick [1, 0]
         refine zins I a0d Tryz.underlying5 66 (.agg #[.int .i64 2, .bool g, .slice p12 (dig B32 m).length c12, .int .i64 f.g.hi]) m7_ge (fun Al W I => ⟨a0g I.fa.1 I.fa.2.1, True.intro⟩) fun Al W I => ?_
         refine zo 10 I fun I => ?_
         refine zins I a0d Tryz.underlying5 67 (.agg #[.int .i64 (kN : Int), .bool false, .slice none 0 0, .int .i64 0]) m7_ge (fun Al W I => ⟨a0g I.fa.1 I.fa.2.1, True.intro⟩) fun Al W I => ?_
         refine zk [11] I fun I => ?_
         refine zo 16 I fun I => ?_
         refine zx I 20 (fun _ => .agg #[.int .i64 (pkF f), .bool (pgF f g), .slice (ppF f p12) (plF f (dig B32 m).length) (plF f c12), .int .i64 (peF f)]) (fun Al W I => (b0g a0d Tryz.underlying5 I.fa.1 _ (HF p12 _ c12 _ ⟨_, rfl⟩ ⟨_, rfl⟩ ⟨_, rfl⟩))) fun Al W I => ?_
         refine zo 17 I fun I => ?_
         refine zn I fun Al W I => ?_
         exact a0o I J fun Al W U I => hJ _ _ _ _ _ ⟨U, p12, c12, rfl, rfl, rfl⟩ (I.pick [1])
       have I := I.pick [1, 0]
       refine zins I a0d Tryz.underlying5 67 (.agg #[.int .i64 (kN : Int), .bool false, .slice none 0 0, .int .i64 0]) m7_ge (fun Al W I => ⟨a0g I.fa.1 I.fa.2.1, True.intro⟩) fun Al W I => ?_
       refine zo 7 I fun I => ?_
       refine zins I a0d Tryz.underlying5 66 (.agg #[.int .i64 2, .bool g, .slice p12 (dig B32 m).length c12, .int .i64 f.g.hi]) m7_ge (fun Al W I => ⟨a0g I.fa.1 I.fa.2.1, True.intro⟩) fun Al W I => ?_
       refine zk [11] I fun I => ?_
       refine zo 16 I fun I => ?_
       refine zx I 20 (fun _ => .agg #[.int .i64 (pkF f), .bool (pgF f g), .slice (ppF f p12) (plF f (dig B32 m).length) (plF f c12), .int .i64 (peF f)]) (fun Al W I => (b0g a0d Tryz.underlying5 I.fa.1 _ (HF p12 _ c12 _ ⟨_, rfl⟩ ⟨_, rfl⟩ ⟨_, rfl⟩))) fun Al W I => ?_
       refine zo 17 I fun I => ?_
       refine zn I fun Al W I => ?_
       exact a0o I J fun Al W U I => hJ _ _ _ _ _ ⟨U, p12, c12, rfl, rfl, rfl⟩ (I.pick [1])
     refine zqo I (fun Al W I => (HG W _ (I.box 0 182 _)).out) fun Al W p12 c12 I => ?_
     refine zo3 3 7 9 I (fun I => ?_) (fun I => ?_) (fun I => ?_)
     · have I := I.pick [1, 0]
       refine zins I a0d Tryz.underlying5 65 (.agg #[.int .i64 3, .bool g, .slice none 0 0, .int .i64 0]) m7_ge (fun Al W I => ⟨a0g I.fa.1 I.fa.2.1, True.intro⟩) fun Al W I => ?_
       refine zo2 7 9 I (fun I => ?_) (fun I => ?_)
       · refine zins I a0d Tryz.underlying5 66 (.agg #[.int .i64 2, .bool g, .slice p12 (dig B32 m).length c12, .int .i64 f.g.hi]) m7_ge (fun Al W I => ⟨a0g I.fa.1 I.fa.2.1, True.intro⟩) fun Al W I => ?_
         refine zo 9 I fun I => ?_
         refine zq I (fun Al W I => (HN W _ (I.box 0 182 _)).out) fun Al W I => ?_
         refine zo 10 I fun I => ?_
         refine zins I a0d Tryz.underlying5 67 (.agg #[.int .i64 (kN : Int), .bool false, .slice none 0 0, .int .i64 0]) m7_ge (fun Al W I => ⟨a0g I.fa.1 I.fa.2.1, True.intro⟩) fun Al W I => ?_
         refine zk [11] I fun I => ?_
         refine zo 16 I fun I => ?_
         refine zx I 20 (fun _ => .agg #[.int .i64 (pkF f), .bool (pgF f g), .slice (ppF f p12) (plF f (dig B32 m).length) (plF f c12), .int .i64 (peF f)]) (fun Al W I => (b0g a0d Tryz.underlying5 I.fa.1 _ (HF p12 _ c12 _ ⟨_, rfl⟩ ⟨_, rfl⟩ ⟨_, rfl⟩))) fun Al W I => ?_
         refine zo 17 I fun I => ?_
         refine zn I fun Al W I => ?_
         exact a0o I J fun Al W U I => hJ _ _ _ _ _ ⟨U, p12, c12, rfl, rfl, rfl⟩ (I.pick [1])
       refine zq I (fun Al W I => (HN W _ (I.box 0 182 _)).out) fun Al W I => ?_
       refine zo2 7 10 I (fun I => ?_) (fun I => ?_)
       · refine zins I a0d Tryz.underlying5 66 (.agg #[.int .i64 2, .bool g, .slice p12 (dig B32 m).length c12, .int .i64 f.g.hi]) m7_ge (fun Al W I => ⟨a0g I.fa.1 I.fa.2.1, True.intro⟩) fun Al W I => ?_
         refine zo 10 I fun I => ?_
         refine zins I a0d Tryz.underlying5 67 (.agg #[.int .i64 (kN : Int), .bool false, .slice none 0 0, .int .i64 0]) m7_ge (fun Al W I => ⟨a0g I.fa.1 I.fa.2.1, True.intro⟩) fun Al W I => ?_
         refine zk [11] I fun I => ?_
         refine zo 16 I fun I => ?_
         refine zx I 20 (fun _ => .agg #[.int .i64 (pkF f), .bool (pgF f g), .slice (ppF f p12) (plF f (dig B32 m).length) (plF f c12), .int .i64 (peF f)]) (fun Al W I => (b0g a0d Tryz.underlying5 I.fa.1 _ (HF p12 _ c12 _ ⟨_, rfl⟩ ⟨_, rfl⟩ ⟨_, rfl⟩))) fun Al W I => ?_
         refine zo 17 I fun I => ?_
         refine zn I fun Al W I => ?_
         exact a0o I J fun Al W U I => hJ _ _ _ _ _ ⟨U, p12, c12, rfl, rfl, rfl⟩ (I.pick [1])
       refine zins I a0d Tryz.underlying5 67 (.agg #[.int .i64 (kN : Int), .bool false, .slice none 0 0, .int .i64 0]) m7_ge (fun Al W I => ⟨a0g I.fa.1 I.fa.2.1, True.intro⟩) fun Al W I => ?_
       refine zo 7 I fun I => ?_
       refine zins I a0d Tryz.underlying5 66 (.agg #[.int .i64 2, .bool g, .slice p12 (dig B32 m).length c12, .int .i64 f.g.hi]) m7_ge (fun Al W I => ⟨a0g I.fa.1 I.fa.2.1, True.intro⟩) fun Al W I => ?_
       refine zk [11] I fun I => ?_
       refine zo 16 I fun I => ?_
       refine zx I 20 (fun _ => .agg #[.int .i64 (pkF f), .bool (pgF f g), .slice (ppF f p12) (plF f (dig B32 m).length) (plF f c12), .int .i64 (peF f)]) (fun Al W I => (b0g a0d Tryz.underlying5 I.fa.1 _ (HF p12 _ c12 _ ⟨_, rfl⟩ ⟨_, rfl⟩ ⟨_, rfl⟩))) fun Al W I => ?_
       refine zo 17 I fun I => ?_
       refine zn I fun Al W I => ?_
       exact a0o I J fun Al W U I => hJ _ _ _ _ _ ⟨U, p12, c12, rfl, rfl, rfl⟩ (I.pick [1])
     · have I := I.pick [1, 0]
       refine zins I a0d Tryz.underlying5 66 (.agg #[.int .i64 2, .bool g, .slice p12 (dig B32 m).length c12, .int .i64 f.g.hi]) m7_ge (fun Al W I => ⟨a0g I.fa.1 I.fa.2.1, True.intro⟩) fun Al W I => ?_
       refine zo2 3 9 I (fun I => ?_) (fun I => ?_)
       · refine zins I a0d Tryz.underlying5 65 (.agg #[.int .i64 3, .bool g, .slice none 0 0, .int .i64 0]) m7_ge (fun Al W I => ⟨a0g I.fa.1 I.fa.2.1, True.intro⟩) fun Al W I => ?_
         refine zo 9 I fun I => ?_
         refine zq I (fun Al W I => (HN W _ (I.box 0 182 _)).out) fun Al W I => ?_
         refine zo 10 I fun I => ?_
         refine zins I a0d Tryz.underlying5 67 (.agg #[.int .i64 (kN : Int), .bool false, .slice none 0 0, .int .i64 0]) m7_ge (fun Al W I => ⟨a0g I.fa.1 I.fa.2.1, True.intro⟩) fun Al W I => ?_
         refine zk [11] I fun I => ?_
         refine zo 16 I fun I => ?_
         refine zx I 20 (fun _ => .agg #[.int .i64 (pkF f), .bool (pgF f g), .slice (ppF f p12) (plF f (dig B32 m).length) (plF f c12), .int .i64 (peF f)]) (fun Al W I => (b0g a0d Tryz.underlying5 I.fa.1 _ (HF p12 _ c12 _ ⟨_, rfl⟩ ⟨_, rfl⟩ ⟨_, rfl⟩))) fun Al W I => ?_
         refine zo 17 I fun I => ?_
         refine zn I fun Al W I => ?_
         exact a0o I J fun Al W U I => hJ _ _ _ _ _ ⟨U, p12, c12, rfl, rfl, rfl⟩ (I.pick [1])
       refine zq I (fun Al W I => (HN W _ (I.box 0 182 _)).out) fun Al W I => ?_
       refine zo2 3 10 I (fun I => ?_) (fun I => ?_)
       · refine zins I a0d Tryz.underlying5 65 (.agg #[.int .i64 3, .bool g, .slice none 0 0, .int .i64 0]) m7_ge (fun Al W I => ⟨a0g I.fa.1 I.fa.2.1, True.intro⟩) fun Al W I => ?_
         refine zo 10 I fun I => ?_
         refine zins I a0d Tryz.underlying5 67 (.agg #[.int .i64 (kN : Int), .bool false, .slice none 0 0, .int .i64 0]) m7_ge (fun Al W I => ⟨a0g I.fa.1 I.fa.2.1, True.intro⟩) fun Al W I => ?_
         refine zk [11] I fun I => ?_
         refine zo 16 I fun I => ?_
         refine zx I 20 (fun _ => .agg #[.int .i64 (pkF f), .bool (pgF f g), .slice (ppF f p12) (plF f (dig B32 m).length) (plF f c12), .int .i64 (peF f)]) (fun Al W I => (b0g a0d Tryz.underlying5 I.fa.1 _ (HF p12 _ c12 _ ⟨_, rfl⟩ ⟨_, rfl⟩ ⟨_, rfl⟩))) fun Al W I => ?_
         refine zo 17 I fun I => ?_
         refine zn I fun Al W I => ?_
         exact a0o I J fun Al W U I => hJ _ _ _ _ _ ⟨U, p12, c12, rfl, rfl, rfl⟩ (I.pick [1])
       refine zins I a0d Tryz.underlying5 67 (.agg #[.int .i64 (kN : Int), .bool false, .slice none 0 0, .int .i64 0]) m7_ge (fun Al W I => ⟨a0g I.fa.1 I.fa.2.1, True.intro⟩) fun Al W I => ?_
       refine zo 3 I fun I => ?_
       refine zins I a0d Tryz.underlying5 65 (.agg #[.int .i64 3, .bool g, .slice none 0 0, .int .i64 0]) m7_ge (fun Al W I => ⟨a0g I.fa.1 I.fa.2.1, True.intro⟩) fun Al W I => ?_
       refine zk [11] I fun I => ?_
       refine zo 16 I fun I => ?_
       refine zx I 20 (fun _ => .agg #[.int .i64 (pkF f), .bool (pgF f g), .slice (ppF f p12) (plF f (dig B32 m).length) (plF f c12), .int .i64 (peF f)]) (fun Al W I => (b0g a0d Tryz.underlying5 I.fa.1 _ (HF p12 _ c12 _ ⟨_, rfl⟩ ⟨_, rfl⟩ ⟨_, rfl⟩))) fun Al W I => ?_
       refine zo 17 I fun I => ?_
       refine zn I fun Al W I => ?_
       exact a0o I J fun Al W U I => hJ _ _ _ _ _ ⟨U, p12, c12, rfl, rfl, rfl⟩ (I.pick [1])
     refine zq I (fun Al W I => (HN W _ (I.box 0 182 _)).out) fun Al W I => ?_
     refine zo3 3 7 10 I (fun I => ?_) (fun I => ?_) (fun I => ?_)
     · have I := I.pick [1, 0]
       refine zins I a0d Tryz.underlying5 65 (.agg #[.int .i64 3, .bool g, .slice none 0 0, .int .i64 0]) m7_ge (fun Al W I => ⟨a0g I.fa.1 I.fa.2.1, True.intro⟩) fun Al W I => ?_
       refine zo2 7 10 I (fun I => ?_) (fun I => ?_)
       · refine zins I a0d Tryz.underlying5 66 (.agg #[.int .i64 2, .bool g, .slice p12 (dig B32 m).length c12, .int .i64 f.g.hi]) m7_ge (fun Al W I => ⟨a0g I.fa.1 I.fa.2.1, True.intro⟩) fun Al W I => ?_
         refine zo 10 I fun I => ?_
         refine zins I a0d Tryz.underlying5 67 (.agg #[.int .i64 (kN : Int), .bool false, .slice none 0 0, .int .i64 0]) m7_ge (fun Al W I => ⟨a0g I.fa.1 I.fa.2.1, True.intro⟩) fun Al W I => ?_
         refine zk [11] I fun I => ?_
         refine zo 16 I fun I => ?_
         refine zx I 20 (fun _ => .agg #[.int .i64 (pkF f), .bool (pgF f g), .slice (ppF f p12) (plF f (dig B32 m).length) (plF f c12), .int .i64 (peF f)]) (fun Al W I => (b0g a0d Tryz.underlying5 I.fa.1 _ (HF p12 _ c12 _ ⟨_, rfl⟩ ⟨_, rfl⟩ ⟨_, rfl⟩))) fun Al W I => ?_
         refine zo 17 I fun I => ?_
         refine zn I fun Al W I => ?_
         exact a0o I J fun Al W U I => hJ _ _ _ _ _ ⟨U, p12, c12, rfl, rfl, rfl⟩ (I.pick [1])
       refine zins I a0d Tryz.underlying5 67 (.agg #[.int .i64 (kN : Int), .bool false, .slice none 0 0, .int .i64 0]) m7_ge (fun Al W I => ⟨a0g I.fa.1 I.fa.2.1, True.intro⟩) fun Al W I => ?_
       refine zo 7 I fun I => ?_
       refine zins I a0d Tryz.underlying5 66 (.agg #[.int .i64 2, .bool g, .slice p12 (dig B32 m).length c12, .int .i64 f.g.hi]) m7_ge (fun Al W I => ⟨a0g I.fa.1 I.fa.2.1, True.intro⟩) fun Al W I => ?_
       refine zk [11] I fun I => ?_
       refine zo 16 I fun I => ?_
       refine zx I 20 (fun _ => .agg #[.int .i64 (pkF f), .bool (pgF f g), .slice (ppF f p12) (plF f (dig B32 m).length) (plF f c12), .int .i64 (peF f)]) (fun Al W I => (b0g a0d Tryz.underlying5 I.fa.1 _ (HF p12 _ c12 _ ⟨_, rfl⟩ ⟨_, rfl⟩ ⟨_, rfl⟩))) fun Al W I => ?_
       refine zo 17 I fun I => ?_
       refine zn I fun Al W I => ?_
       exact a0o I J fun Al W U I => hJ _ _ _ _ _ ⟨U, p12, c12, rfl, rfl, rfl⟩ (I.pick [1])
     · have I := I.pick [1, 0]
       refine zins I a0d Tryz.underlying5 66 (.agg #[.int .i64 2, .bool g, .slice p12 (dig B32 m).length c12, .int .i64 f.g.hi]) m7_ge (fun Al W I => ⟨a0g I.fa.1 I.fa.2.1, True.intro⟩) fun Al W I => ?_
       refine zo2 3 10 I (fun I => ?_) (fun I => ?_)
       · refine zins I a0d Tryz.underlying5 65 (.agg #[.int .i64 3, .bool g, .slice none 0 0, .int .i64 0]) m7_ge (fun Al W I => ⟨a0g I.fa.1 I.fa.2.1, True.intro⟩) fun Al W I => ?_
         refine zo 10 I fun I => ?_
         refine zins I a0d Tryz.underlying5 67 (.agg #[.int .i64 (kN : Int), .bool false, .slice none 0 0, .int .i64 0]) m7_ge (fun Al W I => ⟨a0g I.fa.1 I.fa.2.1, True.intro⟩) fun Al W I => ?_
         refine zk [11] I fun I => ?_
         refine zo 16 I fun I => ?_
         refine zx I 20 (fun _ => .agg #[.int .i64 (pkF f), .bool (pgF f g), .slice (ppF f p12) (plF f (dig B32 m).length) (plF f c12), .int .i64 (peF f)]) (fun Al W I => (b0g a0d Tryz.underlying5 I.fa.1 _ (HF p12 _ c12 _ ⟨_, rfl⟩ ⟨_, rfl⟩ ⟨_, rfl⟩))) fun Al W I => ?_
         refine zo 17 I fun I => ?_
         refine zn I fun Al W I => ?_
         exact a0o I J fun Al W U I => hJ _ _ _ _ _ ⟨U, p12, c12, rfl, rfl, rfl⟩ (I.pick [1])
       refine zins I a0d Tryz.underlying5 67 (.agg #[.int .i64 (kN : Int), .bool false, .slice none 0 0, .int .i64 0]) m7_ge (fun Al W I => ⟨a0g I.fa.1 I.fa.2.1, True.intro⟩) fun Al W I => ?_
       refine zo 3 I fun I => ?_
       refine zins I a0d Tryz.underlying5 65 (.agg #[.int .i64 3, .bool g, .slice none 0 0, .int .i64 0]) m7_ge (fun Al W I => ⟨a0g I.fa.1 I.fa.2.1, True.intro⟩) fun Al W I => ?_
       refine zk [11] I fun I => ?_
       refine zo 16 I fun I => ?_
       refine zx I 20 (fun _ => .agg #[.int .i64 (pkF f), .bool (pgF f g), .slice (ppF f p12) (plF f (dig B32 m).length) (plF f c12), .int .i64 (peF f)]) (fun Al W I => (b0g a0d Tryz.underlying5 I.fa.1 _ (HF p12 _ c12 _ ⟨_, rfl⟩ ⟨_, rfl⟩ ⟨_, rfl⟩))) fun Al W I => ?_
       refine zo 17 I fun I => ?_
       refine zn I fun Al W I => ?_
       exact a0o I J fun Al W U I => hJ _ _ _ _ _ ⟨U, p12, c12, rfl, rfl, rfl⟩ (I.pick [1])
     have I := I.pick [1, 0]
     refine zins I a0d Tryz.underlying5 67 (.agg #[.int .i64 (kN : Int), .bool false, .slice none 0 0, .int .i64 0]) m7_ge (fun Al W I => ⟨a0g I.fa.1 I.fa.2.1, True.intro⟩) fun Al W I => ?_
     refine zo2 3 7 I (fun I => ?_) (fun I => ?_)
     · refine zins I a0d Tryz.underlying5 65 (.agg #[.int .i64 3, .bool g, .slice none 0 0, .int .i64 0]) m7_ge (fun Al W I => ⟨a0g I.fa.1 I.fa.2.1, True.intro⟩) fun Al W I => ?_
       refine zo 7 I fun I => ?_
       refine zins I a0d Tryz.underlying5 66 (.agg #[.int .i64 2, .bool g, .slice p12 (dig B32 m).length c12, .int .i64 f.g.hi]) m7_ge (fun Al W I => ⟨a0g I.fa.1 I.fa.2.1, True.intro⟩) fun Al W I => ?_
       refine zk [11] I fun I => ?_
       refine zo 16 I fun I => ?_
       refine zx I 20 (fun _ => .agg #[.int .i64 (pkF f), .bool (pgF f g), .slice (ppF f p12) (plF f (dig B32 m).length) (plF f c12), .int .i64 (peF f)]) (fun Al W I => (b0g a0d Tryz.underlying5 I.fa.1 _ (HF p12 _ c12 _ ⟨_, rfl⟩ ⟨_, rfl⟩ ⟨_, rfl⟩))) fun Al W I => ?_
       refine zo 17 I fun I => ?_
       refine zn I fun Al W I => ?_
       exact a0o I J fun Al W U I => hJ _ _ _ _ _ ⟨U, p12, c12, rfl, rfl, rfl⟩ (I.pick [1])
     refine zins I a0d Tryz.underlying5 66 (.agg #[.int .i64 2, .bool g, .slice p12 (dig B32 m).length c12, .int .i64 f.g.hi]) m7_ge (fun Al W I => ⟨a0g I.fa.1 I.fa.2.1, True.intro⟩) fun Al W I => ?_
     refine zo 3 I fun I => ?_
     refine zins I a0d Tryz.underlying5 65 (.agg #[.int .i64 3, .bool g, .slice none 0 0, .int .i64 0]) m7_ge (fun Al W I => ⟨a0g I.fa.1 I.fa.2.1, True.intro⟩) fun Al W I => ?_
     refine zk [11] I fun I => ?_
     refine zo 16 I fun I => ?_
     refine zx I 20 (fun _ => .agg #[.int .i64 (pkF f), .bool (pgF f g), .slice (ppF f p12) (plF f (dig B32 m).length) (plF f c12), .int .i64 (peF f)]) (fun Al W I => (b0g a0d Tryz.underlying5 I.fa.1 _ (HF p12 _ c12 _ ⟨_, rfl⟩ ⟨_, rfl⟩ ⟨_, rfl⟩))) fun Al W I => ?_
     refine zo 17 I fun I => ?_
     refine zn I fun Al W I => ?_
     exact a0o I J fun Al W U I => hJ _ _ _ _ _ ⟨U, p12, c12, rfl, rfl, rfl⟩ (I.pick [1])
   refine zqo I (fun Al W I => (HG W _ (I.box 0 182 _)).out) fun Al W p12 c12 I => ?_
   refine zo2 0 9 I (fun I => ?_) (fun I => ?_)
   · refine zmkm I 209 fun Al W m7_b m7_ge I => ?_
     refine zo3 3 7 9 I (fun I => ?_) (fun I => ?_) (fun I => ?_)
     · refine zins I a0d Tryz.underlying5 65 (.agg #[.int .i64 3, .bool g, .slice none 0 0, .int .i64 0]) m7_ge (fun Al W I => ⟨a0g I.fa.1 I.fa.2.1, True.intro⟩) fun Al W I => ?_
       refine zo2 7 9 I (fun I => ?_) (fun I => ?_)
       · refine zins I a0d Tryz.underlying5 66 (.agg #[.int .i64 2, .bool g, .slice p12 (dig B32 m).length c12, .int .i64 f.g.hi]) m7_ge (fun Al W I => ⟨a0g I.fa.1 I.fa.2.1, True.intro⟩) fun Al W I => ?_
         refine zo 9 I fun I => ?_
         refine zq I (fun Al W I => (HN W _ (I.box 0 182 _)).out) fun Al W I => ?_
         refine zo 10 I fun I => ?_
         refine zins I a0d Tryz.underlying5 67 (.agg #[.int .i64 (kN : Int), .bool false, .slice none 0 0, .int .i64 0]) m7_ge (fun Al W I => ⟨a0g I.fa.1 I.fa.2.1, True.intro⟩) fun Al W I => ?_
         refine zk [11] I fun I => ?_
         refine zo 16 I fun I => ?_
         refine zx I 20 (fun _ => .agg #[.int .i64 (pkF f), .bool (pgF f g), .slice (ppF f p12) (plF f (dig B32 m).length) (plF f c12), .int .i64 (peF f)]) (fun Al W I => (b0g a0d Tryz.underlying5 I.fa.1 _ (HF p12 _ c12 _ ⟨_, rfl⟩ ⟨_, rfl⟩ ⟨_, rfl⟩))) fun Al W I => ?_
         refine zo 17 I fun I => ?_
         refine zn I fun Al W I => ?_
         exact a0o I J fun Al W U I => hJ _ _ _ _ _ ⟨U, p12, c12, rfl, rfl, rfl⟩ (I.pick [1])
       refine zq I (fun Al W I => (HN W _ (I.box 0 182 _)).out) fun Al W I => ?_
       refine zo2 7 10 I (fun I => ?_) (fun I => ?_)
       · refine zins I a0d Tryz.underlying5 66 (.agg #[.int .i64 2, .bool g, .slice p12 (dig B32 m).length c12, .int .i64 f.g.hi]) m7_ge (fun Al W I => ⟨a0g I.fa.1 I.fa.2.1, True.intro⟩) fun Al W I => ?_
         refine zo 10 I fun I => ?_
         refine zins I a0d Tryz.underlying5 67 (.agg #[.int .i64 (kN : Int), .bool false, .slice none 0 0, .int .i64 0]) m7_ge (fun Al W I => ⟨a0g I.fa.1 I.fa.2.1, True.intro⟩) fun Al W I => ?_
         refine zk [11] I fun I => ?_
         refine zo 16 I fun I => ?_
         refine zx I 20 (fun _ => .agg #[.int .i64 (pkF f), .bool (pgF f g), .slice (ppF f p12) (plF f (dig B32 m).length) (plF f c12), .int .i64 (peF f)]) (fun Al W I => (b0g a0d Tryz.underlying5 I.fa.1 _ (HF p12 _ c12 _ ⟨_, rfl⟩ ⟨_, rfl⟩ ⟨_, rfl⟩))) fun Al W I => ?_
         refine zo 17 I fun I => ?_
         refine zn I fun Al W I => ?_
         exact a0o I J fun Al W U I => hJ _ _ _ _ _ ⟨U, p12, c12, rfl, rfl, rfl⟩ (I.pick [1])
       refine zins I a0d Tryz.underlying5 67 (.agg #[.int .i64 (kN : Int), .bool false, .slice none 0 0, .int .i64 0]) m7_ge (fun Al W I => ⟨a0g I.fa.1 I.fa.2.1, True.intro⟩) fun Al W I => ?_
       refine zo 7 I fun I => ?_
       refine zins I a0d Tryz.underlying5 66 (.agg #[.int .i64 2, .bool g, .slice p12 (dig B32 m).length c12, .int .i64 f.g.hi]) m7_ge (fun Al W I => ⟨a0g I.fa.1 I.fa.2.1, True.intro⟩) fun Al W I => ?_
       refine zk [11] I fun I => ?_
       refine zo 16 I fun I => ?_
       refine zx I 20 (fun _ => .agg #[.int .i64 (pkF f), .bool (pgF f g), .slice (ppF f p12) (plF f (dig B32 m).length) (plF f c12), .int .i64 (peF f)]) (fun Al W I => (b0g a0d Tryz.underlying5 I.fa.1 _ (HF p12 _ c12 _ ⟨_, rfl⟩ ⟨_, rfl⟩ ⟨_, rfl⟩))) fun Al W I => ?_
       refine zo 17 I fun I => ?_
       refine zn I fun Al W I => ?_
       exact a0o I J fun Al W U I => hJ _ _ _ _ _ ⟨U, p12, c12, rfl, rfl, rfl⟩ (I.pick [1])
     · refine zins I a0d Tryz.underlying5 66 (.agg #[.int .i64 2, .bool g, .slice p12 (dig B32 m).length c12, .int .i64 f.g.hi]) m7_ge (fun Al W I => ⟨a0g I.fa.1 I.fa.2.1, True.intro⟩) fun Al W I => ?_
       refine zo2 3 9 I (fun I => ?_) (fun I => ?_)
       · refine zins I a0d Tryz.underlying5 65 (.agg #[.int .i64 3, .bool g, .slice none 0 0, .int .i64 0]) m7_ge (fun Al W I => ⟨a0g I.fa.1 I.fa.2.1, True.intro⟩) fun Al W I => ?_
         refine zo 9 I fun I => ?_
         refine zq I (fun Al W I => (HN W _ (I.box 0 182 _)).out) fun Al W I => ?_
         refine zo 10 I fun I => ?_
         refine zins I a0d Tryz.underlying5 67 (.agg #[.int .i64 (kN : Int), .bool false, .slice none 0 0, .int .i64 0]) m7_ge (fun Al W I => ⟨a0g I.fa.1 I.fa.2.1, True.intro⟩) fun Al W I => ?_
         refine zk [11] I fun I => ?_
         refine zo 16 I fun I => ?_
         refine zx I 20 (fun _ => .agg #[.int .i64 (pkF f), .bool (pgF f g), .slice (ppF f p12) (plF f (dig B32 m).length) (plF f c12), .int .i64 (peF f)]) (fun Al W I => (b0g a0d Tryz.underlying5 I.fa.1 _ (HF p12 _ c12 _ ⟨_, rfl⟩ ⟨_, rfl⟩ ⟨_, rfl⟩))) fun Al W I => ?_
         refine zo 17 I fun I => ?_
         refine zn I fun Al W I => ?_
         exact a0o I J fun Al W U I => hJ _ _ _ _ _ ⟨U, p12, c12, rfl, rfl, rfl⟩ (I.pick [1])
       refine zq I (fun Al W I => (HN W _ (I.box 0 182 _)).out) fun Al W I => ?_
       refine zo2 3 10 I (fun I => ?_) (fun I => ?_)
       · refine zins I a0d Tryz.underlying5 65 (.agg #[.int .i64 3, .bool g, .slice none 0 0, .int .i64 0]) m7_ge (fun Al W I => ⟨a0g I.fa.1 I.fa.2.1, True.intro⟩) fun Al W I => ?_
         refine zo 10 I fun I => ?_
         refine zins I a0d Tryz.underlying5 67 (.agg #[.int .i64 (kN : Int), .bool false, .slice none 0 0, .int .i64 0]) m7_ge (fun Al W I => ⟨a0g I.fa.1 I.fa.2.1, True.intro⟩) fun Al W I => ?_
         refine zk [11] I fun I => ?_
         refine zo 16 I fun I => ?_
         refine zx I 20 (fun _ => .agg #[.int .i64 (pkF f), .bool (pgF f g), .slice (ppF f p12) (plF f (dig B32 m).length) (plF f c12), .int .i64 (peF f)]) (fun Al W I => (b0g a0d Tryz.underlying5 I.fa.1 _ (HF p12 _ c12 _ ⟨_, rfl⟩ ⟨_, rfl⟩ ⟨_, rfl⟩))) fun Al W I => ?_
         refine zo 17 I fun I => ?_
         refine zn I fun Al W I => ?_
         exact a0o I J fun Al W U I => hJ _ _ _ _ _ ⟨U, p12, c12, rfl, rfl, rfl⟩ (I.pick [1])
       refine zins I a0d Tryz.underlying5 67 (.agg #[.int .i64 (kN : Int), .bool false, .slice none 0 0, .int .i64 0]) m7_ge (fun Al W I => ⟨a0g I.fa.1 I.fa.2.1, True.intro⟩) fun Al W I => ?_
       refine zo 3 I fun I => ?_
       refine zins I a0d Tryz.underlying5 65 (.agg #[.int .i64 3, .bool g, .slice none 0 0, .int .i64 0]) m7_ge (fun Al W I => ⟨a0g I.fa.1 I.fa.2.1, True.intro⟩) fun Al W I => ?_
       refine zk [11] I fun I => ?_
       refine zo 16 I fun I => ?_
       refine zx I 20 (fun _ => .agg #[.int .i64 (pkF f), .bool (pgF f g), .slice (ppF f p12) (plF f (dig B32 m).length) (plF f c12), .int .i64 (peF f)]) (fun Al W I => (b0g a0d Tryz.underlying5 I.fa.1 _ (HF p12 _ c12 _ ⟨_, rfl⟩ ⟨_, rfl⟩ ⟨_, rfl⟩))) fun Al W I => ?_
       refine zo 17 I fun I => ?_
       refine zn I fun Al W I => ?_
       exact a0o I J fun Al W U I => hJ _ _ _ _ _ ⟨U, p12, c12, rfl, rfl, rfl⟩ (I.pick [1])
     refine zq I (fun Al W I => (HN W _ (I.box 0 182 _)).out) fun Al W I => ?_
     refine zo3 3 7 10 I (fun I => ?_) (fun I => ?_) (fun I => ?_)
     · refine zins I a0d Tryz.underlying5 65 (.agg #[.int .i64 3, .bool g, .slice none 0 0, .int .i64 0]) m7_ge (fun Al W I => ⟨a0g I.fa.1 I.fa.2.1, True.intro⟩) fun Al W I => ?_
       refine zo2 7 10 I (fun I => ?_) (fun I => ?_)
       · refine zins I a0d Tryz.underlying5 66 (.agg #[.int .i64 2, .bool g, .slice p12 (dig B32 m).length c12, .int .i64 f.g.hi]) m7_ge (fun Al W I => ⟨a0g I.fa.1 I.fa.2.1, True.intro⟩) fun Al W I => ?_
         refine zo 10 I fun I => ?_
         refine zins I a0d Tryz.underlying5 67 (.agg #[.int .i64 (kN : Int), .bool false, .slice none 0 0, .int .i64 0]) m7_ge (fun Al W I => ⟨a0g I.fa.1 I.fa.2.1, True.intro⟩) fun Al W I => ?_
         refine zk [11] I fun I => ?_
         refine zo 16 I fun I => ?_
         refine zx I 20 (fun _ => .agg #[.int .i64 (pkF f), .bool (pgF f g), .slice (ppF f p12) (plF f (dig B32 m).length) (plF f c12), .int .i64 (peF f)]) (fun Al W I => (b0g a0d Tryz.underlying5 I.fa.1 _ (HF p12 _ c12 _ ⟨_, rfl⟩ ⟨_, rfl⟩ ⟨_, rfl⟩))) fun Al W I => ?_
         refine zo 17 I fun I => ?_
         refine zn I fun Al W I => ?_
         exact a0o I J fun Al W U I => hJ _ _ _ _ _ ⟨U, p12, c12, rfl, rfl, rfl⟩ (I.pick [1])
       refine zins I a0d Tryz.underlying5 67 (.agg #[.int .i64 (kN : Int), .bool false, .slice none 0 0, .int .i64 0]) m7_ge (fun Al W I => ⟨a0g I.fa.1 I.fa.2.1, True.intro⟩) fun Al W I => ?_
       refine zo 7 I fun I => ?_
       refine zins I a0d Tryz.underlying5 66 (.agg #[.int .i64 2, .bool g, .slice p12 (dig B32 m).length c12, .int .i64 f.g.hi]) m7_ge (fun Al W I => ⟨a0g I.fa.1 I.fa.2.1, True.intro⟩) fun Al W I => ?_
       refine zk [11] I fun I => ?_
       refine zo 16 I fun I => ?_
       refine zx I 20 (fun _ => .agg #[.int .i64 (pkF f), .bool (pgF f g), .slice (ppF f p12) (plF f (dig B32 m).length) (plF f c12), .int .i64 (peF f)]) (fun Al W I => (b0g a0d Tryz.underlying5 I.fa.1 _ (HF p12 _ c12 _ ⟨_, rfl⟩ ⟨_, rfl⟩ ⟨_, rfl⟩))) fun Al W I => ?_
       refine zo 17 I fun I => ?_
       refine zn I fun Al W I => ?_
       exact a0o I J fun Al W U I => hJ _ _ _ _ _ ⟨U, p12, c12, rfl, rfl, rfl⟩ (I.pick [1])
     · refine zins I a0d Tryz.underlying5 66 (.agg #[.int .i64 2, .bool g, .slice p12 (dig B32 m).length c12, .int .i64 f.g.hi]) m7_ge (fun Al W I => ⟨a0g I.fa.1 I.fa.2.1, True.intro⟩) fun Al W I => ?_
       refine zo2 3 10 I (fun I => ?_) (fun I => ?_)
       · refine zins I a0d Tryz.underlying5 65 (.agg #[.int .i64 3, .bool g, .slice none 0 0, .int .i64 0]) m7_ge (fun Al W I => ⟨a0g I.fa.1 I.fa.2.1, True.intro⟩) fun Al W I => ?_
         refine zo 10 I fun I => ?_
         refine zins I a0d Tryz.underlying5 67 (.agg #[.int .i64 (kN : Int), .bool false, .slice none 0 0, .int .i64 0]) m7_ge (fun Al W I => ⟨a0g I.fa.1 I.fa.2.1, True.intro⟩) fun Al W I => ?_
         refine zk [11] I fun I => ?_
         refine zo 16 I fun I => ?_
         refine zx I 20 (fun _ => .agg #[.int .i64 (pkF f), .bool (pgF f g), .slice (ppF f p12) (plF f (dig B32 m).length) (plF f c12), .int .i64 (peF f)]) (fun Al W I => (b0g a0d Tryz.underlying5 I.fa.1 _ (HF p12 _ c12 _ ⟨_, rfl⟩ ⟨_, rfl⟩ ⟨_, rfl⟩))) fun Al W I => ?_
         refine zo 17 I fun I => ?_
         refine zn I fun Al W I => ?_
         exact a0o I J fun Al W U I => hJ _ _ _ _ _ ⟨U, p12, c12, rfl, rfl, rfl⟩ (I.pick [1])
       refine zins I a0d Tryz.underlying5 67 (.agg #[.int .i64 (kN : Int), .bool false, .slice none 0 0, .int .i64 0]) m7_ge (fun Al W I => ⟨a0g I.fa.1 I.fa.2.1, True.intro⟩) fun Al W I => ?_
       refine zo 3 I fun I => ?_
       refine zins I a0d Tryz.underlying5 65 (.agg #[.int .i64 3, .bool g, .slice none 0 0, .int .i64 0]) m7_ge (fun Al W I => ⟨a0g I.fa.1 I.fa.2.1, True.intro⟩) fun Al W I => ?_
       refine zk [11] I fun I => ?_
       refine zo 16 I fun I => ?_
       refine zx I 20 (fun _ => .agg #[.int .i64 (pkF f), .bool (pgF f g), .slice (ppF f p12) (plF f (dig B32 m).length) (plF f c12), .int .i64 (peF f)]) (fun Al W I => (b0g a0d Tryz.underlying5 I.fa.1 _ (HF p12 _ c12 _ ⟨_, rfl⟩ ⟨_, rfl⟩ ⟨_, rfl⟩))) fun Al W I => ?_
       refine zo 17 I fun I => ?_
       refine zn I fun Al W I => ?_
       exact a0o I J fun Al W U I => hJ _ _ _ _ _ ⟨U, p12, c12, rfl, rfl, rfl⟩ (I.pick [1])
     refine zins I a0d Tryz.underlying5 67 (.agg #[.int .i64 (kN : Int), .bool false, .slice none 0 0, .int .i64 0]) m7_ge (fun Al W I => ⟨a0g I.fa.1 I.fa.2.1, True.intro⟩) fun Al W I => ?_
     refine zo2 3 7 I (fun I => ?_) (fun I => ?_)
     · refine zins I a0d Tryz.underlying5 65 (.agg #[.int .i64 3, .bool g, .slice none 0 0, .int .i64 0]) m7_ge (fun Al W I => ⟨a0g I.fa.1 I.fa.2.1, True.intro⟩) fun Al W I => ?_
       refine zo 7 I fun I => ?_
       refine zins I a0d Tryz.underlying5 66 (.agg #[.int .i64 2, .bool g, .slice p12 (dig B32 m).length c12, .int .i64 f.g.hi]) m7_ge (fun Al W I => ⟨a0g I.fa.1 I.fa.2.1, True.intro⟩) fun Al W I => ?_
       refine zk [11] I fun I => ?_
       refine zo 16 I fun I => ?_
       refine zx I 20 (fun _ => .agg #[.int .i64 (pkF f), .bool (pgF f g), .slice (ppF f p12) (plF f (dig B32 m).length) (plF f c12), .int .i64 (peF f)]) (fun Al W I => (b0g a0d Tryz.underlying5 I.fa.1 _ (HF p12 _ c12 _ ⟨_, rfl⟩ ⟨_, rfl⟩ ⟨_, rfl⟩))) fun Al W I => ?_
       refine zo 17 I fun I => ?_
       refine zn I fun Al W I => ?_
       exact a0o I J fun Al W U I => hJ _ _ _ _ _ ⟨U, p12, c12, rfl, rfl, rfl⟩ (I.pick [1])
     refine zins I a0d Tryz.underlying5 66 (.agg #[.int .i64 2, .bool g, .slice p12 (dig B32 m).length c12, .int .i64 f.g.hi]) m7_ge (fun Al W I => ⟨a0g I.fa.1 I.fa.2.1, True.intro⟩) fun Al W I => ?_
     refine zo 3 I fun I => ?_
     refine zins I a0d Tryz.underlying5 65 (.agg #[.int .i64 3, .bool g, .slice none 0 0, .int .i64 0]) m7_ge (fun Al W I => ⟨a0g I.fa.1 I.fa.2.1, True.intro⟩) fun Al W I => ?_
     refine zk [11] I fun I => ?_
     refine zo 16 I fun I => ?_
     refine zx I 20 (fun _ => .agg #[.int .i64 (pkF f), .bool (pgF f g), .slice (ppF f p12) (plF f (dig B32 m).length) (plF f c12), .int .i64 (peF f)]) (fun Al W I => (b0g a0d Tryz.underlying5 I.fa.1 _ (HF p12 _ c12 _ ⟨_, rfl⟩ ⟨_, rfl⟩ ⟨_, rfl⟩))) fun Al W I => ?_
     refine zo 17 I fun I => ?_
     refine zn I fun Al W I => ?_
     exact a0o I J fun Al W U I => hJ _ _ _ _ _ ⟨U, p12, c12, rfl, rfl, rfl⟩ (I.pick [1])
   refine zq I (fun Al W I => (HN W _ (I.box 0 182 _)).out) fun Al W I => ?_
   refine zo 0 I fun I => ?_
   refine zmkm I 209 fun Al W m7_b m7_ge I => ?_
   refine zo3 3 7 10 I (fun I => ?_) (fun I => ?_) (fun I => ?_)
   · refine zins I a0d Tryz.underlying5 65 (.agg #[.int .i64 3, .bool g, .slice none 0 0, .int .i64 0]) m7_ge (fun Al W I => ⟨a0g I.fa.1 I.fa.2.1, True.intro⟩) fun Al W I => ?_
     refine zo2 7 10 I (fun I => ?_) (fun I => ?_)
     · refine zins I a0d Tryz.underlying5 66 (.agg #[.int .i64 2, .bool g, .slice p12 (dig B32 m).length c12, .int .i64 f.g.hi]) m7_ge (fun Al W I => ⟨a0g I.fa.1 I.fa.2.1, True.intro⟩) fun Al W I => ?_
       refine zo 10 I fun I => ?_
       refine zins I a0d Tryz.underlying5 67 (.agg #[.int .i64 (kN : Int), .bool false, .slice none 0 0, .int .i64 0]) m7_ge (fun Al W I => ⟨a0g I.fa.1 I.fa.2.1, True.intro⟩) fun Al W I => ?_
       refine zk [11] I fun I => ?_
       refine zo 16 I fun I => ?_
       refine zx I 20 (fun _ => .agg #[.int .i64 (pkF f), .bool (pgF f g), .slice (ppF f p12) (plF f (dig B32 m).length) (plF f c12), .int .i64 (peF f)]) (fun Al W I => (b0g a0d Tryz.underlying5 I.fa.1 _ (HF p12 _ c12 _ ⟨_, rfl⟩ ⟨_, rfl⟩ ⟨_, rfl⟩))) fun Al W I => ?_
       refine zo 17 I fun I => ?_
       refine zn I fun Al W I => ?_
       exact a0o I J fun Al W U I => hJ _ _ _ _ _ ⟨U, p12, c12, rfl, rfl, rfl⟩ (I.pick [1])
     refine zins I a0d Tryz.underlying5 67 (.agg #[.int .i64 (kN : Int), .bool false, .slice none 0 0, .int .i64 0]) m7_ge (fun Al W I => ⟨a0g I.fa.1 I.fa.2.1, True.intro⟩) fun Al W I => ?_
     refine zo 7 I fun I => ?_
     refine zins I a0d Tryz.underlying5 66 (.agg #[.int .i64 2, .bool g, .slice p12 (dig B32 m).length c12, .int .i64 f.g.hi]) m7_ge (fun Al W I => ⟨a0g I.fa.1 I.fa.2.1, True.intro⟩) fun Al W I => ?_
     refine zk [11] I fun I => ?_
     refine zo 16 I fun I => ?_
     refine zx I 20 (fun _ => .agg #[.int .i64 (pkF f), .bool (pgF f g), .slice (ppF f p12) (plF f (dig B32 m).length) (plF f c12), .int .i64 (peF f)]) (fun Al W I => (b0g a0d Tryz.underlying5 I.fa.1 _ (HF p12 _ c12 _ ⟨_, rfl⟩ ⟨_, rfl⟩ ⟨_, rfl⟩))) fun Al W I => ?_
     refine zo 17 I fun I => ?_
     refine zn I fun Al W I => ?_
     exact a0o I J fun Al W U I => hJ _ _ _ _ _ ⟨U, p12, c12, rfl, rfl, rfl⟩ (I.pick [1])
   · refine zins I a0d Tryz.underlying5 66 (.agg #[.int .i64 2, .bool g, .slice p12 (dig B32 m).length c12, .int .i64 f.g.hi]) m7_ge (fun Al W I => ⟨a0g I.fa.1 I.fa.2.1, True.intro⟩) fun Al W I => ?_
     refine zo2 3 10 I (fun I => ?_) (fun I => ?_)
     · refine zins I a0d Tryz.underlying5 65 (.agg #[.int .i64 3, .bool g, .slice none 0 0, .int .i64 0]) m7_ge (fun Al W I => ⟨a0g I.fa.1 I.fa.2.1, True.intro⟩) fun Al W I => ?_
       refine zo 10 I fun I => ?_
       refine zins I a0d Tryz.underlying5 67 (.agg #[.int .i64 (kN : Int), .bool false, .slice none 0 0, .int .i64 0]) m7_ge (fun Al W I => ⟨a0g I.fa.1 I.fa.2.1, True.intro⟩) fun Al W I => ?_
       refine zk [11] I fun I => ?_
       refine zo 16 I fun I => ?_
       refine zx I 20 (fun _ => .agg #[.int .i64 (pkF f), .bool (pgF f g), .slice (ppF f p12) (plF f (dig B32 m).length) (plF f c12), .int .i64 (peF f)]) (fun Al W I => (b0g a0d Tryz.underlying5 I.fa.1 _ (HF p12 _ c12 _ ⟨_, rfl⟩ ⟨_, rfl⟩ ⟨_, rfl⟩))) fun Al W I => ?_
       refine zo 17 I fun I => ?_
       refine zn I fun Al W I => ?_
       exact a0o I J fun Al W U I => hJ _ _ _ _ _ ⟨U, p12, c12, rfl, rfl, rfl⟩ (I.pick [1])
     refine zins I a0d Tryz.underlying5 67 (.agg #[.int .i64 (kN : Int), .bool false, .slice none 0 0, .int .i64 0]) m7_ge (fun Al W I => ⟨a0g I.fa.1 I.fa.2.1, True.intro⟩) fun Al W I => ?_
     refine zo 3 I fun I => ?_
     refine zins I a0d Tryz.underlying5 65 (.agg #[.int .i64 3, .bool g, .slice none 0 0, .int .i64 0]) m7_ge (fun Al W I => ⟨a0g I.fa.1 I.fa.2.1, True.intro⟩) fun Al W I => ?_
     refine zk [11] I fun I => ?_
     refine zo 16 I fun I => ?_
     refine zx I 20 (fun _ => .agg #[.int .i64 (pkF f), .bool (pgF f g), .slice (ppF f p12) (plF f (dig B32 m).length) (plF f c12), .int .i64 (peF f)]) (fun Al W I => (b0g a0d Tryz.underlying5 I.fa.1 _ (HF p12 _ c12 _ ⟨_, rfl⟩ ⟨_, rfl⟩ ⟨_, rfl⟩))) fun Al W I => ?_
     refine zo 17 I fun I => ?_
     refine zn I fun Al W I => ?_
     exact a0o I J fun Al W U I => hJ _ _ _ _ _ ⟨U, p12, c12, rfl, rfl, rfl⟩ (I.pick [1])
   refine zins I a0d Tryz.underlying5 67 (.agg #[.int .i64 (kN : Int), .bool false, .slice none 0 0, .int .i64 0]) m7_ge (fun Al W I => ⟨a0g I.fa.1 I.fa.2.1, True.intro⟩) fun Al W I => ?_
   refine zo2 3 7 I (fun I => ?_) (fun I => ?_)
   · refine zins I a0d Tryz.underlying5 65 (.agg #[.int .i64 3, .bool g, .slice none 0 0, .int .i64 0]) m7_ge (fun Al W I => ⟨a0g I.fa.1 I.fa.2.1, True.intro⟩) fun Al W I => ?_
     refine zo 7 I fun I => ?_
     refine zins I a0d Tryz.underlying5 66 (.agg #[.int .i64 2, .bool g, .slice p12 (dig B32 m).length c12, .int .i64 f.g.hi]) m7_ge (fun Al W I => ⟨a0g I.fa.1 I.fa.2.1, True.intro⟩) fun Al W I => ?_
     refine zk [11] I fun I => ?_
     refine zo 16 I fun I => ?_
     refine zx I 20 (fun _ => .agg #[.int .i64 (pkF f), .bool (pgF f g), .slice (ppF f p12) (plF f (dig B32 m).length) (plF f c12), .int .i64 (peF f)]) (fun Al W I => (b0g a0d Tryz.underlying5 I.fa.1 _ (HF p12 _ c12 _ ⟨_, rfl⟩ ⟨_, rfl⟩ ⟨_, rfl⟩))) fun Al W I => ?_
     refine zo 17 I fun I => ?_
     refine zn I fun Al W I => ?_
     exact a0o I J fun Al W U I => hJ _ _ _ _ _ ⟨U, p12, c12, rfl, rfl, rfl⟩ (I.pick [1])
   refine zins I a0d Tryz.underlying5 66 (.agg #[.int .i64 2, .bool g, .slice p12 (dig B32 m).length c12, .int .i64 f.g.hi]) m7_ge (fun Al W I => ⟨a0g I.fa.1 I.fa.2.1, True.intro⟩) fun Al W I => ?_
   refine zo 3 I fun I => ?_
   refine zins I a0d Tryz.underlying5 65 (.agg #[.int .i64 3, .bool g, .slice none 0 0, .int .i64 0]) m7_ge (fun Al W I => ⟨a0g I.fa.1 I.fa.2.1, True.intro⟩) fun Al W I => ?_
   refine zk [11] I fun I => ?_
   refine zo 16 I fun I => ?_
   refine zx I 20 (fun _ => .agg #[.int .i64 (pkF f), .bool (pgF f g), .slice (ppF f p12) (plF f (dig B32 m).length) (plF f c12), .int .i64 (peF f)]) (fun Al W I => (b0g a0d Tryz.underlying5 I.fa.1 _ (HF p12 _ c12 _ ⟨_, rfl⟩ ⟨_, rfl⟩ ⟨_, rfl⟩))) fun Al W I => ?_
   refine zo 17 I fun I => ?_
   refine zn I fun Al W I => ?_
   exact a0o I J fun Al W U I => hJ _ _ _ _ _ ⟨U, p12, c12, rfl, rfl, rfl⟩ (I.pick [1])
 rintro _ _ _ ⟨U1, p12, c12, rfl, rfl, rfl⟩ Al W I
 exact zret I fun Al W I => HE _ p12 c12 I.fa.1 I.bel (I.boxE 182 _)
theorem n1r (f : Fm) (n way : Int) (a b : Vp) (ra rb : Vr) (base u : Nat) (w : World) (U : Bt w u 182 #[.int .i64 n, .int .i64 way, .int .i64 f.g.rad, .int .i64 f.g.digs, .int .i64 f.g.lo, .int .i64 f.g.hi, .bool f.g.grad, .int .u8 (famB f), .int .i64 0]) (oa : Own w base .u32 141 a.p a.c (dig B32 a.v.d)) (ob : Own w base .u32 141 b.p b.c (dig B32 b.v.d)) (hb : base ≤ w.heap.size)
 (A1 : AtV f a ra) (B1 : AtV f b rb) (G : c0e f) (hw : 1 ≤ way ∧ way ≤ 5) (hT : TabW w) :
 Calls Tryz.prog 48 #[.pointer (some ⟨u, 0, none⟩), .agg #[.int .i64 (a.v.cls : Int), .bool a.v.neg, .slice a.p (dig B32 a.v.d).length a.c, .int .i64 a.v.pow], .agg #[.int .i64 (b.v.cls : Int), .bool b.v.neg, .slice b.p (dig B32 b.v.d).length b.c, .int .i64 b.v.pow]] w (e0t f n way u w base (f.divM ra rb way)) := by
 have hM : f.divM ra rb way = if 4 ≤ a.v.cls ∨ 4 ≤ b.v.cls then f.offM else if (a.v.cls = 3 ∧ b.v.cls = 3) ∨ (a.v.cls = 1 ∧ b.v.cls = 1) then f.lostM else if a.v.cls = 3 then (infM (a.v.neg != b.v.neg), 0) else if b.v.cls = 3 ∨ a.v.cls = 1 then (f.zeroM (a.v.neg != b.v.neg), 0) else if b.v.cls = 1 then f.poleM (a.v.neg != b.v.neg) else f.placedM (a0q (a.v.neg != b.v.neg) ra.x.m rb.x.m (ra.x.e - rb.x.e) f.g way) way := by
  unfold Fm.divM; rw [A1.rep.cls, B1.rep.cls, A1.rep.neg, B1.rep.neg]
 have hca : a.v.cls ≤ 5 := by rw [A1.rep.cls]; exact A1.ok.c.2
 have hcb : b.v.cls ≤ 5 := by rw [B1.rep.cls]; exact B1.ok.c.2
 have hca1 : 1 ≤ a.v.cls := by rw [A1.rep.cls]; exact A1.ok.c.1
 have hcb1 : 1 ≤ b.v.cls := by rw [B1.rep.cls]; exact B1.ok.c.1
 have hpa : a.v.cls = 2 → 0 < ra.x.m := fun h => by have := (A1.ok.x2 (by rw [← A1.rep.cls]; exact h)).1; omega
 have hpb : b.v.cls = 2 → 0 < rb.x.m := fun h => by have := (B1.ok.x2 (by rw [← B1.rep.cls]; exact h)).1; omega
 have HY := fun W b0 u h1 h2 h3 => hi0 (c1n f n way [a, b] b0 2 u W h1 h2 rfl (by simp) (by simp [hca, hcb]) G h3)
 have HN := fun W b0 u h1 h2 h3 => hi0 (g1y f n way 0 [a, b] b0 2 u W h1 h2 rfl (by simp) h3)
 have HL := fun W u h1 => hi0 (j1j f n way u W h1)
 have HZ := fun W u h1 => hi0 (w0l f n way 0 (a.v.neg != b.v.neg) u W h1)
 have HPo := fun W u h1 => hi0 (m1i f n way (a.v.neg != b.v.neg) u W h1 G)
 have HA := fun W u h1 h2 h3 => hi0 (f1n f n way 0 a.v ra a.p a.c base u W h1 h2 A1.rep A1.ok h3)
 have HB := fun W u h1 h2 h3 => hi0 (f1n f n way 0 b.v rb b.p b.c base u W h1 h2 B1.rep B1.ok h3)
 have l1 := A1.ok.len
 have l2 := B1.ok.len
 have l3 := A1.ok.lo
 have l4 := A1.ok.hi
 have l5 := B1.ok.lo
 have l6 := B1.ok.hi
 have HF := fun W p q c d u h1 h2 h3 h4 h5 => hi0 (m1e f n way (a.v.neg != b.v.neg) p q c d ra.x.m rb.x.m (ra.x.e - rb.x.e) u W h1 h2 h3 (by omega) (by omega) h4 h5 (by omega) G hw)
 have HV := fun h => (g0s G (neg := a.v.neg != b.v.neg) (num := ra.x.m) (den := rb.x.m) (e := ra.x.e - rb.x.e) (way := way) h).2
 have hoffm : f.offM = (⟨f.nothM.cls, false, vz⟩, f.offM.2) := rfl
 have hk2 := k0k G
 have hlostm : f.lostM = (⟨f.nothM.cls, false, vz⟩, 16) := rfl
 obtain ⟨rS, flS, hS⟩ : ∃ rS flS, f.placedM (a0q (a.v.neg != b.v.neg) ra.x.m rb.x.m (ra.x.e - rb.x.e) f.g way) way = (rS, flS) := ⟨_, _, rfl⟩
 rw [hS] at HF HV hM
 simp only at HF HV
 generalize f.placedV (a0q (a.v.neg != b.v.neg) ra.x.m rb.x.m (ra.x.e - rb.x.e) f.g way) way = vS at *
 obtain ⟨rP, flP, hP⟩ : ∃ rP flP, f.poleM (a.v.neg != b.v.neg) = (rP, flP) := ⟨_, _, rfl⟩
 rw [hP] at HPo hM
 generalize f.divM ra rb way = R at *
 generalize f.offM.2 = flo at *
 generalize f.nothM.cls = kN at *
 generalize hng : (a.v.neg != b.v.neg) = ng at *
 have HNG := hi0 hng
 clear hng hS hP
 have I := Inv.startW w u 182 (uS f n way 0) [ownF base .u32 141 a.p a.c (dig B32 a.v.d), ownF base .u32 141 b.p b.c (dig B32 b.v.d), tabF] U ⟨oa, ob, hT, True.intro⟩ ⟨fun hf => oa.far U (by kernel_rfl) hf.1 hf.2, fun hf => ob.far U (by kernel_rfl) hf.1 hf.2, fun hf => hT.far U (by kernel_rfl) hf, True.intro⟩
 refine a0e [.p 0 0, .v (.agg #[.int .i64 (a.v.cls : Int), .bool a.v.neg, .slice a.p (dig B32 a.v.d).length a.c, .int .i64 a.v.pow]), .v (.agg #[.int .i64 (b.v.cls : Int), .bool b.v.neg, .slice b.p (dig B32 b.v.d).length b.c, .int .i64 b.v.pow])] I Tryz.func48 ?_
 by_cases hof : 4 ≤ a.v.cls ∨ 4 ≤ b.v.cls
 · refine zge I 0 182 (fun Al W I => (HY W _ _ (I.box 0 182 _) (I.box 4 75 _) (by simpa using hof)).out) fun Al V Iv _ _ kz => ?_
   rintro _ W ⟨rfl, hO, hB⟩
   refine ⟨_, rfl, kz _ (uS f n way (flo : Int)) _ hO hB fun I => ?_⟩
   rw [hM, if_pos hof, hoffm]
   exact zret I fun Al W I => a0k hk2 rfl I.bel (I.boxE 182 _)
 refine zq I (fun Al W I => have hzW := I.bel.size; (HN W _ _ (I.box 0 182 _) (I.box 4 75 _) (by simp only [List.mem_cons, List.mem_nil_iff, or_false]; rintro x (rfl | rfl) <;> omega)).out) fun Al W I => ?_
 refine zb I 26 (a.v.neg != b.v.neg) (ng) (HNG.out) fun Al W I => ?_
 by_cases ia : a.v.cls = 3
 · by_cases ib : b.v.cls = 3
   · by_cases za : a.v.cls = 1
     · by_cases zb : b.v.cls = 1
       · refine zqd I (fun Al W I => a0a a.v.cls a.v.neg a.p (dig B32 a.v.d).length a.c a.v.pow W) (dTr ia) fun Al W I => ?_
         refine zqd I (fun Al W I => a0a b.v.cls b.v.neg b.p (dig B32 b.v.d).length b.c b.v.pow W) (dTr ib) fun Al W I => ?_
         refine zge I 0 182 (fun Al W I => (HL W _ (I.box 0 182 _)).out) fun Al V Iv _ _ kz => ?_
         rintro _ W ⟨rfl, hO, hB⟩
         refine ⟨_, rfl, kz _ (uS f n way 16) _ hO hB fun I => ?_⟩
         rw [hM, if_neg hof, if_pos (by omega), hlostm]
         exact zret I fun Al W I => a0k hk2 rfl I.bel (I.boxE 182 _)
       refine zqd I (fun Al W I => a0a a.v.cls a.v.neg a.p (dig B32 a.v.d).length a.c a.v.pow W) (dTr ia) fun Al W I => ?_
       refine zqd I (fun Al W I => a0a b.v.cls b.v.neg b.p (dig B32 b.v.d).length b.c b.v.pow W) (dTr ib) fun Al W I => ?_
       refine zge I 0 182 (fun Al W I => (HL W _ (I.box 0 182 _)).out) fun Al V Iv _ _ kz => ?_
       rintro _ W ⟨rfl, hO, hB⟩
       refine ⟨_, rfl, kz _ (uS f n way 16) _ hO hB fun I => ?_⟩
       rw [hM, if_neg hof, if_pos (by omega), hlostm]
       exact zret I fun Al W I => a0k hk2 rfl I.bel (I.boxE 182 _)
     by_cases zb : b.v.cls = 1
     · refine zqd I (fun Al W I => a0a a.v.cls a.v.neg a.p (dig B32 a.v.d).length a.c a.v.pow W) (dTr ia) fun Al W I => ?_
       refine zqd I (fun Al W I => a0a b.v.cls b.v.neg b.p (dig B32 b.v.d).length b.c b.v.pow W) (dTr ib) fun Al W I => ?_
       refine zge I 0 182 (fun Al W I => (HL W _ (I.box 0 182 _)).out) fun Al V Iv _ _ kz => ?_
       rintro _ W ⟨rfl, hO, hB⟩
       refine ⟨_, rfl, kz _ (uS f n way 16) _ hO hB fun I => ?_⟩
       rw [hM, if_neg hof, if_pos (by omega), hlostm]
       exact zret I fun Al W I => a0k hk2 rfl I.bel (I.boxE 182 _)
     refine zqd I (fun Al W I => a0a a.v.cls a.v.neg a.p (dig B32 a.v.d).length a.c a.v.pow W) (dTr ia) fun Al W I => ?_
     refine zqd I (fun Al W I => a0a b.v.cls b.v.neg b.p (dig B32 b.v.d).length b.c b.v.pow W) (dTr ib) fun Al W I => ?_
     refine zge I 0 182 (fun Al W I => (HL W _ (I.box 0 182 _)).out) fun Al V Iv _ _ kz => ?_
     rintro _ W ⟨rfl, hO, hB⟩
     refine ⟨_, rfl, kz _ (uS f n way 16) _ hO hB fun I => ?_⟩
     rw [hM, if_neg hof, if_pos (by omega), hlostm]
     exact zret I fun Al W I => a0k hk2 rfl I.bel (I.boxE 182 _)
   by_cases za : a.v.cls = 1
   · by_cases zb : b.v.cls = 1
     · refine zqd I (fun Al W I => a0a a.v.cls a.v.neg a.p (dig B32 a.v.d).length a.c a.v.pow W) (dTr ia) fun Al W I => ?_
       refine zqd I (fun Al W I => a0a b.v.cls b.v.neg b.p (dig B32 b.v.d).length b.c b.v.pow W) (dFa ib) fun Al W I => ?_
       refine zqd I (fun Al W I => a0y a.v.cls a.v.neg a.p (dig B32 a.v.d).length a.c a.v.pow W) (dTr za) fun Al W I => ?_
       refine zqd I (fun Al W I => a0y b.v.cls b.v.neg b.p (dig B32 b.v.d).length b.c b.v.pow W) (dTr zb) fun Al W I => ?_
       refine zge I 0 182 (fun Al W I => (HL W _ (I.box 0 182 _)).out) fun Al V Iv _ _ kz => ?_
       rintro _ W ⟨rfl, hO, hB⟩
       refine ⟨_, rfl, kz _ (uS f n way 16) _ hO hB fun I => ?_⟩
       rw [hM, if_neg hof, if_pos (by omega), hlostm]
       exact zret I fun Al W I => a0k hk2 rfl I.bel (I.boxE 182 _)
     refine zqd I (fun Al W I => a0a a.v.cls a.v.neg a.p (dig B32 a.v.d).length a.c a.v.pow W) (dTr ia) fun Al W I => ?_
     refine zqd I (fun Al W I => a0a b.v.cls b.v.neg b.p (dig B32 b.v.d).length b.c b.v.pow W) (dFa ib) fun Al W I => ?_
     refine zqd I (fun Al W I => a0y a.v.cls a.v.neg a.p (dig B32 a.v.d).length a.c a.v.pow W) (dTr za) fun Al W I => ?_
     refine zqd I (fun Al W I => a0y b.v.cls b.v.neg b.p (dig B32 b.v.d).length b.c b.v.pow W) (dFa zb) fun Al W I => ?_
     refine zqd I (fun Al W I => a0a a.v.cls a.v.neg a.p (dig B32 a.v.d).length a.c a.v.pow W) (dTr ia) fun Al W I => ?_
     refine zq I (fun Al W I => g0e ng W) fun Al W I => ?_
     rw [hM, if_neg hof, if_neg (by omega), if_pos ia]
     exact zret I fun Al W I => a0k (k := 3) (by decide) rfl I.bel (I.boxE 182 _)
   by_cases zb : b.v.cls = 1
   · refine zqd I (fun Al W I => a0a a.v.cls a.v.neg a.p (dig B32 a.v.d).length a.c a.v.pow W) (dTr ia) fun Al W I => ?_
     refine zqd I (fun Al W I => a0a b.v.cls b.v.neg b.p (dig B32 b.v.d).length b.c b.v.pow W) (dFa ib) fun Al W I => ?_
     refine zqd I (fun Al W I => a0y a.v.cls a.v.neg a.p (dig B32 a.v.d).length a.c a.v.pow W) (dFa za) fun Al W I => ?_
     refine zqd I (fun Al W I => a0a a.v.cls a.v.neg a.p (dig B32 a.v.d).length a.c a.v.pow W) (dTr ia) fun Al W I => ?_
     refine zq I (fun Al W I => g0e ng W) fun Al W I => ?_
     rw [hM, if_neg hof, if_neg (by omega), if_pos ia]
     exact zret I fun Al W I => a0k (k := 3) (by decide) rfl I.bel (I.boxE 182 _)
   refine zqd I (fun Al W I => a0a a.v.cls a.v.neg a.p (dig B32 a.v.d).length a.c a.v.pow W) (dTr ia) fun Al W I => ?_
   refine zqd I (fun Al W I => a0a b.v.cls b.v.neg b.p (dig B32 b.v.d).length b.c b.v.pow W) (dFa ib) fun Al W I => ?_
   refine zqd I (fun Al W I => a0y a.v.cls a.v.neg a.p (dig B32 a.v.d).length a.c a.v.pow W) (dFa za) fun Al W I => ?_
   refine zqd I (fun Al W I => a0a a.v.cls a.v.neg a.p (dig B32 a.v.d).length a.c a.v.pow W) (dTr ia) fun Al W I => ?_
   refine zq I (fun Al W I => g0e ng W) fun Al W I => ?_
   rw [hM, if_neg hof, if_neg (by omega), if_pos ia]
   exact zret I fun Al W I => a0k (k := 3) (by decide) rfl I.bel (I.boxE 182 _)
 by_cases ib : b.v.cls = 3
 · by_cases za : a.v.cls = 1
   · by_cases zb : b.v.cls = 1
     · refine zqd I (fun Al W I => a0a a.v.cls a.v.neg a.p (dig B32 a.v.d).length a.c a.v.pow W) (dFa ia) fun Al W I => ?_
       refine zqd I (fun Al W I => a0y a.v.cls a.v.neg a.p (dig B32 a.v.d).length a.c a.v.pow W) (dTr za) fun Al W I => ?_
       refine zqd I (fun Al W I => a0y b.v.cls b.v.neg b.p (dig B32 b.v.d).length b.c b.v.pow W) (dTr zb) fun Al W I => ?_
       refine zge I 0 182 (fun Al W I => (HL W _ (I.box 0 182 _)).out) fun Al V Iv _ _ kz => ?_
       rintro _ W ⟨rfl, hO, hB⟩
       refine ⟨_, rfl, kz _ (uS f n way 16) _ hO hB fun I => ?_⟩
       rw [hM, if_neg hof, if_pos (by omega), hlostm]
       exact zret I fun Al W I => a0k hk2 rfl I.bel (I.boxE 182 _)
     refine zqd I (fun Al W I => a0a a.v.cls a.v.neg a.p (dig B32 a.v.d).length a.c a.v.pow W) (dFa ia) fun Al W I => ?_
     refine zqd I (fun Al W I => a0y a.v.cls a.v.neg a.p (dig B32 a.v.d).length a.c a.v.pow W) (dTr za) fun Al W I => ?_
     refine zqd I (fun Al W I => a0y b.v.cls b.v.neg b.p (dig B32 b.v.d).length b.c b.v.pow W) (dFa zb) fun Al W I => ?_
     refine zqd I (fun Al W I => a0a a.v.cls a.v.neg a.p (dig B32 a.v.d).length a.c a.v.pow W) (dFa ia) fun Al W I => ?_
     refine zqd I (fun Al W I => a0a b.v.cls b.v.neg b.p (dig B32 b.v.d).length b.c b.v.pow W) (dTr ib) fun Al W I => ?_
     refine zq I (fun Al W I => (HZ W _ (I.box 0 182 _)).out) fun Al W I => ?_
     rw [hM, if_neg hof, if_neg (by omega), if_neg (by omega), if_pos (by omega)]
     exact zret I fun Al W I => a0k (k := 1) (by decide) rfl I.bel (I.boxE 182 _)
   by_cases zb : b.v.cls = 1
   · refine zqd I (fun Al W I => a0a a.v.cls a.v.neg a.p (dig B32 a.v.d).length a.c a.v.pow W) (dFa ia) fun Al W I => ?_
     refine zqd I (fun Al W I => a0y a.v.cls a.v.neg a.p (dig B32 a.v.d).length a.c a.v.pow W) (dFa za) fun Al W I => ?_
     refine zqd I (fun Al W I => a0a a.v.cls a.v.neg a.p (dig B32 a.v.d).length a.c a.v.pow W) (dFa ia) fun Al W I => ?_
     refine zqd I (fun Al W I => a0a b.v.cls b.v.neg b.p (dig B32 b.v.d).length b.c b.v.pow W) (dTr ib) fun Al W I => ?_
     refine zq I (fun Al W I => (HZ W _ (I.box 0 182 _)).out) fun Al W I => ?_
     rw [hM, if_neg hof, if_neg (by omega), if_neg (by omega), if_pos (by omega)]
     exact zret I fun Al W I => a0k (k := 1) (by decide) rfl I.bel (I.boxE 182 _)
   refine zqd I (fun Al W I => a0a a.v.cls a.v.neg a.p (dig B32 a.v.d).length a.c a.v.pow W) (dFa ia) fun Al W I => ?_
   refine zqd I (fun Al W I => a0y a.v.cls a.v.neg a.p (dig B32 a.v.d).length a.c a.v.pow W) (dFa za) fun Al W I => ?_
   refine zqd I (fun Al W I => a0a a.v.cls a.v.neg a.p (dig B32 a.v.d).length a.c a.v.pow W) (dFa ia) fun Al W I => ?_
   refine zqd I (fun Al W I => a0a b.v.cls b.v.neg b.p (dig B32 b.v.d).length b.c b.v.pow W) (dTr ib) fun Al W I => ?_
   refine zq I (fun Al W I => (HZ W _ (I.box 0 182 _)).out) fun Al W I => ?_
   rw [hM, if_neg hof, if_neg (by omega), if_neg (by omega), if_pos (by omega)]
   exact zret I fun Al W I => a0k (k := 1) (by decide) rfl I.bel (I.boxE 182 _)
 by_cases za : a.v.cls = 1
 · by_cases zb : b.v.cls = 1
   · refine zqd I (fun Al W I => a0a a.v.cls a.v.neg a.p (dig B32 a.v.d).length a.c a.v.pow W) (dFa ia) fun Al W I => ?_
     refine zqd I (fun Al W I => a0y a.v.cls a.v.neg a.p (dig B32 a.v.d).length a.c a.v.pow W) (dTr za) fun Al W I => ?_
     refine zqd I (fun Al W I => a0y b.v.cls b.v.neg b.p (dig B32 b.v.d).length b.c b.v.pow W) (dTr zb) fun Al W I => ?_
     refine zge I 0 182 (fun Al W I => (HL W _ (I.box 0 182 _)).out) fun Al V Iv _ _ kz => ?_
     rintro _ W ⟨rfl, hO, hB⟩
     refine ⟨_, rfl, kz _ (uS f n way 16) _ hO hB fun I => ?_⟩
     rw [hM, if_neg hof, if_pos (by omega), hlostm]
     exact zret I fun Al W I => a0k hk2 rfl I.bel (I.boxE 182 _)
   refine zqd I (fun Al W I => a0a a.v.cls a.v.neg a.p (dig B32 a.v.d).length a.c a.v.pow W) (dFa ia) fun Al W I => ?_
   refine zqd I (fun Al W I => a0y a.v.cls a.v.neg a.p (dig B32 a.v.d).length a.c a.v.pow W) (dTr za) fun Al W I => ?_
   refine zqd I (fun Al W I => a0y b.v.cls b.v.neg b.p (dig B32 b.v.d).length b.c b.v.pow W) (dFa zb) fun Al W I => ?_
   refine zqd I (fun Al W I => a0a a.v.cls a.v.neg a.p (dig B32 a.v.d).length a.c a.v.pow W) (dFa ia) fun Al W I => ?_
   refine zqd I (fun Al W I => a0a b.v.cls b.v.neg b.p (dig B32 b.v.d).length b.c b.v.pow W) (dFa ib) fun Al W I => ?_
   refine zqd I (fun Al W I => a0y a.v.cls a.v.neg a.p (dig B32 a.v.d).length a.c a.v.pow W) (dTr za) fun Al W I => ?_
   refine zq I (fun Al W I => (HZ W _ (I.box 0 182 _)).out) fun Al W I => ?_
   rw [hM, if_neg hof, if_neg (by omega), if_neg (by omega), if_pos (by omega)]
   exact zret I fun Al W I => a0k (k := 1) (by decide) rfl I.bel (I.boxE 182 _)
 by_cases zb : b.v.cls = 1
 · refine zqd I (fun Al W I => a0a a.v.cls a.v.neg a.p (dig B32 a.v.d).length a.c a.v.pow W) (dFa ia) fun Al W I => ?_
   refine zqd I (fun Al W I => a0y a.v.cls a.v.neg a.p (dig B32 a.v.d).length a.c a.v.pow W) (dFa za) fun Al W I => ?_
   refine zqd I (fun Al W I => a0a a.v.cls a.v.neg a.p (dig B32 a.v.d).length a.c a.v.pow W) (dFa ia) fun Al W I => ?_
   refine zqd I (fun Al W I => a0a b.v.cls b.v.neg b.p (dig B32 b.v.d).length b.c b.v.pow W) (dFa ib) fun Al W I => ?_
   refine zqd I (fun Al W I => a0y a.v.cls a.v.neg a.p (dig B32 a.v.d).length a.c a.v.pow W) (dFa za) fun Al W I => ?_
   refine zqd I (fun Al W I => a0y b.v.cls b.v.neg b.p (dig B32 b.v.d).length b.c b.v.pow W) (dTr zb) fun Al W I => ?_
   refine zge I 0 182 (fun Al W I => (HPo W _ (I.box 0 182 _)).out) fun Al V Iv _ _ kz => ?_
   rintro _ W ⟨v60, hR60, p60, c60, rfl, o60, hO, hB⟩
   refine ⟨_, rfl, kz _ (uS f n way (flP : Int)) _ hO hB fun I => ?_⟩
   have I := I.ownB base o60
   rw [hM, if_neg hof, if_neg (by omega), if_neg (by omega), if_neg (by omega), if_pos zb]
   exact zret I fun Al W I => ⟨v60, hR60, p60, c60, rfl, I.fa.1, I.bel, I.boxE 182 _⟩
 refine zqd I (fun Al W I => a0a a.v.cls a.v.neg a.p (dig B32 a.v.d).length a.c a.v.pow W) (dFa ia) fun Al W I => ?_
 refine zqd I (fun Al W I => a0y a.v.cls a.v.neg a.p (dig B32 a.v.d).length a.c a.v.pow W) (dFa za) fun Al W I => ?_
 refine zqd I (fun Al W I => a0a a.v.cls a.v.neg a.p (dig B32 a.v.d).length a.c a.v.pow W) (dFa ia) fun Al W I => ?_
 refine zqd I (fun Al W I => a0a b.v.cls b.v.neg b.p (dig B32 b.v.d).length b.c b.v.pow W) (dFa ib) fun Al W I => ?_
 refine zqd I (fun Al W I => a0y a.v.cls a.v.neg a.p (dig B32 a.v.d).length a.c a.v.pow W) (dFa za) fun Al W I => ?_
 refine zqd I (fun Al W I => a0y b.v.cls b.v.neg b.p (dig B32 b.v.d).length b.c b.v.pow W) (dFa zb) fun Al W I => ?_
 refine zd [] I fun Al W I => ?_
 refine zk [0, 1, 3, 4] I fun I => ?_
 refine zo3 2 6 7 I (fun I => ?_) (fun I => ?_) (fun I => ?_)
 · refine zg I (fun Al W I => (HA W _ (I.box 0 182 _) I.fa.1 I.fa.2.2.1).out) fun Al V Iv _ hB _ kz => ?_
   rintro _ W ⟨p63, c63, rfl, o63, hb⟩
   refine ⟨_, rfl, kz _ _ hb fun I => ?_⟩
   have I := I.ownB base o63
   refine zo3 5 6 7 I (fun I => ?_) (fun I => ?_) (fun I => ?_)
   · refine zg I (fun Al W I => (HB W _ (I.box 0 182 _) I.fa.2.2.1 I.fa.2.2.2.1).out) fun Al V Iv _ hB _ kz => ?_
     rintro _ W ⟨p66, c66, rfl, o66, hb⟩
     refine ⟨_, rfl, kz _ _ hb fun I => ?_⟩
     have I := I.ownB base o66
     refine zo2 6 7 I (fun I => ?_) (fun I => ?_)
     · refine zn I fun Al W I => ?_
       refine zo 7 I fun I => ?_
       refine zn I fun Al W I => ?_
       refine zo 8 I fun I => ?_
       refine zn I fun Al W I => ?_
       refine zo 9 I fun I => ?_
       refine zn I fun Al W I => ?_
       refine zi I 81 .i64 (ra.x.e - rb.x.e) ((ra.x.e - rb.x.e)) ((by exact iwo)) fun Al W I => ?_
       refine zge I 0 182 (fun Al W I => have hzW := I.bel.size; (HF W p63 p66 c63 c66 _ (I.box 0 182 _) I.fa.2.1.rd I.fa.1.rd (hpa (by omega)) (hpb (by omega))).out) fun Al V Iv _ _ kz => ?_
       rintro _ W ⟨p83, c83, rfl, o83, hO, hB⟩
       refine ⟨_, rfl, kz _ (uS f n way (flS : Int)) _ hO hB fun I => ?_⟩
       have I := I.ownB base o83
       rw [hM, if_neg hof, if_neg (by omega), if_neg (by omega), if_neg (by omega), if_neg (by omega)]
       exact zret I fun Al W I => ⟨vS, HV (hpb (by omega)), p83, c83, rfl, I.fa.1, I.bel, I.boxE 182 _⟩
     refine zn I fun Al W I => ?_
     refine zo 6 I fun I => ?_
     refine zn I fun Al W I => ?_
     refine zo 8 I fun I => ?_
     refine zn I fun Al W I => ?_
     refine zo 9 I fun I => ?_
     refine zn I fun Al W I => ?_
     refine zi I 81 .i64 (ra.x.e - rb.x.e) ((ra.x.e - rb.x.e)) ((by exact iwo)) fun Al W I => ?_
     refine zge I 0 182 (fun Al W I => have hzW := I.bel.size; (HF W p63 p66 c63 c66 _ (I.box 0 182 _) I.fa.2.1.rd I.fa.1.rd (hpa (by omega)) (hpb (by omega))).out) fun Al V Iv _ _ kz => ?_
     rintro _ W ⟨p83, c83, rfl, o83, hO, hB⟩
     refine ⟨_, rfl, kz _ (uS f n way (flS : Int)) _ hO hB fun I => ?_⟩
     have I := I.ownB base o83
     rw [hM, if_neg hof, if_neg (by omega), if_neg (by omega), if_neg (by omega), if_neg (by omega)]
     exact zret I fun Al W I => ⟨vS, HV (hpb (by omega)), p83, c83, rfl, I.fa.1, I.bel, I.boxE 182 _⟩
   · refine zn I fun Al W I => ?_
     refine zo2 5 7 I (fun I => ?_) (fun I => ?_)
     · refine zg I (fun Al W I => (HB W _ (I.box 0 182 _) I.fa.2.2.1 I.fa.2.2.2.1).out) fun Al V Iv _ hB _ kz => ?_
       rintro _ W ⟨p66, c66, rfl, o66, hb⟩
       refine ⟨_, rfl, kz _ _ hb fun I => ?_⟩
       have I := I.ownB base o66
       refine zo 7 I fun I => ?_
       refine zn I fun Al W I => ?_
       refine zo 8 I fun I => ?_
       refine zn I fun Al W I => ?_
       refine zo 9 I fun I => ?_
       refine zn I fun Al W I => ?_
       refine zi I 81 .i64 (ra.x.e - rb.x.e) ((ra.x.e - rb.x.e)) ((by exact iwo)) fun Al W I => ?_
       refine zge I 0 182 (fun Al W I => have hzW := I.bel.size; (HF W p63 p66 c63 c66 _ (I.box 0 182 _) I.fa.2.1.rd I.fa.1.rd (hpa (by omega)) (hpb (by omega))).out) fun Al V Iv _ _ kz => ?_
       rintro _ W ⟨p83, c83, rfl, o83, hO, hB⟩
       refine ⟨_, rfl, kz _ (uS f n way (flS : Int)) _ hO hB fun I => ?_⟩
       have I := I.ownB base o83
       rw [hM, if_neg hof, if_neg (by omega), if_neg (by omega), if_neg (by omega), if_neg (by omega)]
       exact zret I fun Al W I => ⟨vS, HV (hpb (by omega)), p83, c83, rfl, I.fa.1, I.bel, I.boxE 182 _⟩
     refine zn I fun Al W I => ?_
     refine zo 5 I fun I => ?_
     refine zg I (fun Al W I => (HB W _ (I.box 0 182 _) I.fa.2.2.1 I.fa.2.2.2.1).out) fun Al V Iv _ hB _ kz => ?_
     rintro _ W ⟨p66, c66, rfl, o66, hb⟩
     refine ⟨_, rfl, kz _ _ hb fun I => ?_⟩
     have I := I.ownB base o66
     refine zo 8 I fun I => ?_
     refine zn I fun Al W I => ?_
     refine zo 9 I fun I => ?_
     refine zn I fun Al W I => ?_
     refine zi I 81 .i64 (ra.x.e - rb.x.e) ((ra.x.e - rb.x.e)) ((by exact iwo)) fun Al W I => ?_
     refine zge I 0 182 (fun Al W I => have hzW := I.bel.size; (HF W p63 p66 c63 c66 _ (I.box 0 182 _) I.fa.2.1.rd I.fa.1.rd (hpa (by omega)) (hpb (by omega))).out) fun Al V Iv _ _ kz => ?_
     rintro _ W ⟨p83, c83, rfl, o83, hO, hB⟩
     refine ⟨_, rfl, kz _ (uS f n way (flS : Int)) _ hO hB fun I => ?_⟩
     have I := I.ownB base o83
     rw [hM, if_neg hof, if_neg (by omega), if_neg (by omega), if_neg (by omega), if_neg (by omega)]
     exact zret I fun Al W I => ⟨vS, HV (hpb (by omega)), p83, c83, rfl, I.fa.1, I.bel, I.boxE 182 _⟩
   refine zn I fun Al W I => ?_
   refine zo2 5 6 I (fun I => ?_) (fun I => ?_)
   · refine zg I (fun Al W I => (HB W _ (I.box 0 182 _) I.fa.2.2.1 I.fa.2.2.2.1).out) fun Al V Iv _ hB _ kz => ?_
     rintro _ W ⟨p66, c66, rfl, o66, hb⟩
     refine ⟨_, rfl, kz _ _ hb fun I => ?_⟩
     have I := I.ownB base o66
     refine zo 6 I fun I => ?_
     refine zn I fun Al W I => ?_
     refine zo 8 I fun I => ?_
     refine zn I fun Al W I => ?_
     refine zo 9 I fun I => ?_
     refine zn I fun Al W I => ?_
     refine zi I 81 .i64 (ra.x.e - rb.x.e) ((ra.x.e - rb.x.e)) ((by exact iwo)) fun Al W I => ?_
     refine zge I 0 182 (fun Al W I => have hzW := I.bel.size; (HF W p63 p66 c63 c66 _ (I.box 0 182 _) I.fa.2.1.rd I.fa.1.rd (hpa (by omega)) (hpb (by omega))).out) fun Al V Iv _ _ kz => ?_
     rintro _ W ⟨p83, c83, rfl, o83, hO, hB⟩
     refine ⟨_, rfl, kz _ (uS f n way (flS : Int)) _ hO hB fun I => ?_⟩
     have I := I.ownB base o83
     rw [hM, if_neg hof, if_neg (by omega), if_neg (by omega), if_neg (by omega), if_neg (by omega)]
     exact zret I fun Al W I => ⟨vS, HV (hpb (by omega)), p83, c83, rfl, I.fa.1, I.bel, I.boxE 182 _⟩
   refine zn I fun Al W I => ?_
   refine zo 5 I fun I => ?_
   refine zg I (fun Al W I => (HB W _ (I.box 0 182 _) I.fa.2.2.1 I.fa.2.2.2.1).out) fun Al V Iv _ hB _ kz => ?_
   rintro _ W ⟨p66, c66, rfl, o66, hb⟩
   refine ⟨_, rfl, kz _ _ hb fun I => ?_⟩
   have I := I.ownB base o66
   refine zo 8 I fun I => ?_
   refine zn I fun Al W I => ?_
   refine zo 9 I fun I => ?_
   refine zn I fun Al W I => ?_
   refine zi I 81 .i64 (ra.x.e - rb.x.e) ((ra.x.e - rb.x.e)) ((by exact iwo)) fun Al W I => ?_
   refine zge I 0 182 (fun Al W I => have hzW := I.bel.size; (HF W p63 p66 c63 c66 _ (I.box 0 182 _) I.fa.2.1.rd I.fa.1.rd (hpa (by omega)) (hpb (by omega))).out) fun Al V Iv _ _ kz => ?_
   rintro _ W ⟨p83, c83, rfl, o83, hO, hB⟩
   refine ⟨_, rfl, kz _ (uS f n way (flS : Int)) _ hO hB fun I => ?_⟩
   have I := I.ownB base o83
   rw [hM, if_neg hof, if_neg (by omega), if_neg (by omega), if_neg (by omega), if_neg (by omega)]
   exact zret I fun Al W I => ⟨vS, HV (hpb (by omega)), p83, c83, rfl, I.fa.1, I.bel, I.boxE 182 _⟩
 · refine zn I fun Al W I => ?_
   refine zo2 2 7 I (fun I => ?_) (fun I => ?_)
   · refine zg I (fun Al W I => (HA W _ (I.box 0 182 _) I.fa.1 I.fa.2.2.1).out) fun Al V Iv _ hB _ kz => ?_
     rintro _ W ⟨p63, c63, rfl, o63, hb⟩
     refine ⟨_, rfl, kz _ _ hb fun I => ?_⟩
     have I := I.ownB base o63
     refine zo2 5 7 I (fun I => ?_) (fun I => ?_)
     · refine zg I (fun Al W I => (HB W _ (I.box 0 182 _) I.fa.2.2.1 I.fa.2.2.2.1).out) fun Al V Iv _ hB _ kz => ?_
       rintro _ W ⟨p66, c66, rfl, o66, hb⟩
       refine ⟨_, rfl, kz _ _ hb fun I => ?_⟩
       have I := I.ownB base o66
       refine zo 7 I fun I => ?_
       refine zn I fun Al W I => ?_
       refine zo 8 I fun I => ?_
       refine zn I fun Al W I => ?_
       refine zo 9 I fun I => ?_
       refine zn I fun Al W I => ?_
       refine zi I 81 .i64 (ra.x.e - rb.x.e) ((ra.x.e - rb.x.e)) ((by exact iwo)) fun Al W I => ?_
       refine zge I 0 182 (fun Al W I => have hzW := I.bel.size; (HF W p63 p66 c63 c66 _ (I.box 0 182 _) I.fa.2.1.rd I.fa.1.rd (hpa (by omega)) (hpb (by omega))).out) fun Al V Iv _ _ kz => ?_
       rintro _ W ⟨p83, c83, rfl, o83, hO, hB⟩
       refine ⟨_, rfl, kz _ (uS f n way (flS : Int)) _ hO hB fun I => ?_⟩
       have I := I.ownB base o83
       rw [hM, if_neg hof, if_neg (by omega), if_neg (by omega), if_neg (by omega), if_neg (by omega)]
       exact zret I fun Al W I => ⟨vS, HV (hpb (by omega)), p83, c83, rfl, I.fa.1, I.bel, I.boxE 182 _⟩
     refine zn I fun Al W I => ?_
     refine zo 5 I fun I => ?_
     refine zg I (fun Al W I => (HB W _ (I.box 0 182 _) I.fa.2.2.1 I.fa.2.2.2.1).out) fun Al V Iv _ hB _ kz => ?_
     rintro _ W ⟨p66, c66, rfl, o66, hb⟩
     refine ⟨_, rfl, kz _ _ hb fun I => ?_⟩
     have I := I.ownB base o66
     refine zo 8 I fun I => ?_
     refine zn I fun Al W I => ?_
     refine zo 9 I fun I => ?_
     refine zn I fun Al W I => ?_
     refine zi I 81 .i64 (ra.x.e - rb.x.e) ((ra.x.e - rb.x.e)) ((by exact iwo)) fun Al W I => ?_
     refine zge I 0 182 (fun Al W I => have hzW := I.bel.size; (HF W p63 p66 c63 c66 _ (I.box 0 182 _) I.fa.2.1.rd I.fa.1.rd (hpa (by omega)) (hpb (by omega))).out) fun Al V Iv _ _ kz => ?_
     rintro _ W ⟨p83, c83, rfl, o83, hO, hB⟩
     refine ⟨_, rfl, kz _ (uS f n way (flS : Int)) _ hO hB fun I => ?_⟩
     have I := I.ownB base o83
     rw [hM, if_neg hof, if_neg (by omega), if_neg (by omega), if_neg (by omega), if_neg (by omega)]
     exact zret I fun Al W I => ⟨vS, HV (hpb (by omega)), p83, c83, rfl, I.fa.1, I.bel, I.boxE 182 _⟩
   refine zn I fun Al W I => ?_
   refine zo 2 I fun I => ?_
   refine zg I (fun Al W I => (HA W _ (I.box 0 182 _) I.fa.1 I.fa.2.2.1).out) fun Al V Iv _ hB _ kz => ?_
   rintro _ W ⟨p63, c63, rfl, o63, hb⟩
   refine ⟨_, rfl, kz _ _ hb fun I => ?_⟩
   have I := I.ownB base o63
   refine zo 5 I fun I => ?_
   refine zg I (fun Al W I => (HB W _ (I.box 0 182 _) I.fa.2.2.1 I.fa.2.2.2.1).out) fun Al V Iv _ hB _ kz => ?_
   rintro _ W ⟨p66, c66, rfl, o66, hb⟩
   refine ⟨_, rfl, kz _ _ hb fun I => ?_⟩
   have I := I.ownB base o66
   refine zo 8 I fun I => ?_
   refine zn I fun Al W I => ?_
   refine zo 9 I fun I => ?_
   refine zn I fun Al W I => ?_
   refine zi I 81 .i64 (ra.x.e - rb.x.e) ((ra.x.e - rb.x.e)) ((by exact iwo)) fun Al W I => ?_
   refine zge I 0 182 (fun Al W I => have hzW := I.bel.size; (HF W p63 p66 c63 c66 _ (I.box 0 182 _) I.fa.2.1.rd I.fa.1.rd (hpa (by omega)) (hpb (by omega))).out) fun Al V Iv _ _ kz => ?_
   rintro _ W ⟨p83, c83, rfl, o83, hO, hB⟩
   refine ⟨_, rfl, kz _ (uS f n way (flS : Int)) _ hO hB fun I => ?_⟩
   have I := I.ownB base o83
   rw [hM, if_neg hof, if_neg (by omega), if_neg (by omega), if_neg (by omega), if_neg (by omega)]
   exact zret I fun Al W I => ⟨vS, HV (hpb (by omega)), p83, c83, rfl, I.fa.1, I.bel, I.boxE 182 _⟩
 refine zn I fun Al W I => ?_
 refine zo2 2 6 I (fun I => ?_) (fun I => ?_)
 · refine zg I (fun Al W I => (HA W _ (I.box 0 182 _) I.fa.1 I.fa.2.2.1).out) fun Al V Iv _ hB _ kz => ?_
   rintro _ W ⟨p63, c63, rfl, o63, hb⟩
   refine ⟨_, rfl, kz _ _ hb fun I => ?_⟩
   have I := I.ownB base o63
   refine zo2 5 6 I (fun I => ?_) (fun I => ?_)
   · refine zg I (fun Al W I => (HB W _ (I.box 0 182 _) I.fa.2.2.1 I.fa.2.2.2.1).out) fun Al V Iv _ hB _ kz => ?_
     rintro _ W ⟨p66, c66, rfl, o66, hb⟩
     refine ⟨_, rfl, kz _ _ hb fun I => ?_⟩
     have I := I.ownB base o66
     refine zo 6 I fun I => ?_
     refine zn I fun Al W I => ?_
     refine zo 8 I fun I => ?_
     refine zn I fun Al W I => ?_
     refine zo 9 I fun I => ?_
     refine zn I fun Al W I => ?_
     refine zi I 81 .i64 (ra.x.e - rb.x.e) ((ra.x.e - rb.x.e)) ((by exact iwo)) fun Al W I => ?_
     refine zge I 0 182 (fun Al W I => have hzW := I.bel.size; (HF W p63 p66 c63 c66 _ (I.box 0 182 _) I.fa.2.1.rd I.fa.1.rd (hpa (by omega)) (hpb (by omega))).out) fun Al V Iv _ _ kz => ?_
     rintro _ W ⟨p83, c83, rfl, o83, hO, hB⟩
     refine ⟨_, rfl, kz _ (uS f n way (flS : Int)) _ hO hB fun I => ?_⟩
     have I := I.ownB base o83
     rw [hM, if_neg hof, if_neg (by omega), if_neg (by omega), if_neg (by omega), if_neg (by omega)]
     exact zret I fun Al W I => ⟨vS, HV (hpb (by omega)), p83, c83, rfl, I.fa.1, I.bel, I.boxE 182 _⟩
   refine zn I fun Al W I => ?_
   refine zo 5 I fun I => ?_
   refine zg I (fun Al W I => (HB W _ (I.box 0 182 _) I.fa.2.2.1 I.fa.2.2.2.1).out) fun Al V Iv _ hB _ kz => ?_
   rintro _ W ⟨p66, c66, rfl, o66, hb⟩
   refine ⟨_, rfl, kz _ _ hb fun I => ?_⟩
   have I := I.ownB base o66
   refine zo 8 I fun I => ?_
   refine zn I fun Al W I => ?_
   refine zo 9 I fun I => ?_
   refine zn I fun Al W I => ?_
   refine zi I 81 .i64 (ra.x.e - rb.x.e) ((ra.x.e - rb.x.e)) ((by exact iwo)) fun Al W I => ?_
   refine zge I 0 182 (fun Al W I => have hzW := I.bel.size; (HF W p63 p66 c63 c66 _ (I.box 0 182 _) I.fa.2.1.rd I.fa.1.rd (hpa (by omega)) (hpb (by omega))).out) fun Al V Iv _ _ kz => ?_
   rintro _ W ⟨p83, c83, rfl, o83, hO, hB⟩
   refine ⟨_, rfl, kz _ (uS f n way (flS : Int)) _ hO hB fun I => ?_⟩
   have I := I.ownB base o83
   rw [hM, if_neg hof, if_neg (by omega), if_neg (by omega), if_neg (by omega), if_neg (by omega)]
   exact zret I fun Al W I => ⟨vS, HV (hpb (by omega)), p83, c83, rfl, I.fa.1, I.bel, I.boxE 182 _⟩
 refine zn I fun Al W I => ?_
 refine zo 2 I fun I => ?_
 refine zg I (fun Al W I => (HA W _ (I.box 0 182 _) I.fa.1 I.fa.2.2.1).out) fun Al V Iv _ hB _ kz => ?_
 rintro _ W ⟨p63, c63, rfl, o63, hb⟩
 refine ⟨_, rfl, kz _ _ hb fun I => ?_⟩
 have I := I.ownB base o63
 refine zo 5 I fun I => ?_
 refine zg I (fun Al W I => (HB W _ (I.box 0 182 _) I.fa.2.2.1 I.fa.2.2.2.1).out) fun Al V Iv _ hB _ kz => ?_
 rintro _ W ⟨p66, c66, rfl, o66, hb⟩
 refine ⟨_, rfl, kz _ _ hb fun I => ?_⟩
 have I := I.ownB base o66
 refine zo 8 I fun I => ?_
 refine zn I fun Al W I => ?_
 refine zo 9 I fun I => ?_
 refine zn I fun Al W I => ?_
 refine zi I 81 .i64 (ra.x.e - rb.x.e) ((ra.x.e - rb.x.e)) ((by exact iwo)) fun Al W I => ?_
 refine zge I 0 182 (fun Al W I => have hzW := I.bel.size; (HF W p63 p66 c63 c66 _ (I.box 0 182 _) I.fa.2.1.rd I.fa.1.rd (hpa (by omega)) (hpb (by omega))).out) fun Al V Iv _ _ kz => ?_
 rintro _ W ⟨p83, c83, rfl, o83, hO, hB⟩
 refine ⟨_, rfl, kz _ (uS f n way (flS : Int)) _ hO hB fun I => ?_⟩
 have I := I.ownB base o83
 rw [hM, if_neg hof, if_neg (by omega), if_neg (by omega), if_neg (by omega), if_neg (by omega)]
 exact zret I fun Al W I => ⟨vS, HV (hpb (by omega)), p83, c83, rfl, I.fa.1, I.bel, I.boxE 182 _⟩
theorem t0g (n : Int) (w : World) : Calls Tryz.prog 43 #[.int .i64 n] w fun en w' => en = .returned (.tuple #[.agg #[.int .i64 (fmt n).g.rad, .int .i64 (fmt n).g.digs, .int .i64 (fmt n).g.lo, .int .i64 (fmt n).g.hi, .bool (fmt n).g.grad], .int .i64 (n0r n)]) ∧ Below w.heap.size w w' := by
 by_cases hn : IsFm n
 · have h0 : n0r n = 0 := by unfold n0r; rw [if_pos hn]
   rw [h0]
   have HF := fun W => hi0 (k0b n hn W)
   generalize fmt n = f at *
   have I := Inv.start w [] True.intro
   refine a0e [.v (.int .i64 n)] I Tryz.func43 ?_
   refine zq I (fun Al W I => (HF W).out) fun Al W I => ?_
   exact zrb I
 · have h0 : n0r n = 6 := by unfold n0r; rw [if_neg hn]
   rw [h0, b1y hn]
   have HF := fun W => hi0 (n0h n hn W)
   have I := Inv.start w [] True.intro
   refine a0e [.v (.int .i64 n)] I Tryz.func43 ?_
   refine zq I (fun Al W I => (HF W).out) fun Al W I => ?_
   exact zrb I
theorem w0m (n way : Int) (w : World) (h : ¬ (IsFm n ∧ 1 ≤ way ∧ way ≤ 5)) : Calls Tryz.prog 63 #[.int .i64 n, .int .i64 way] w fun en w' => en = .returned (.tuple #[.pointer none, .int .i64 6]) ∧ Below w.heap.size w w' := by
 have HG := fun W => hi0 (t0g n W)
 by_cases hn : IsFm n
 · have he : n0r n = 0 := by unfold n0r; rw [if_pos hn]
   have h' : way < 1 ∨ 5 < way := by by_cases k : 1 ≤ way ∧ way ≤ 5; exact absurd ⟨hn, k⟩ h; omega
   rw [he] at HG
   generalize fmt n = f at *
   have I := Inv.start w [] True.intro
   refine a0e [.v (.int .i64 n), .v (.int .i64 way)] I Tryz.func63 ?_
   refine zq I (fun Al W I => (HG W).out) fun Al W I => ?_
   by_cases h1 : way < 1
   · refine zb I 18 (decide (way < 1)) (true) (dTr h1) fun Al W I => ?_
     exact zrb I
   refine zb I 18 (decide (way < 1)) (false) (dFa h1) fun Al W I => ?_
   refine zb I 21 (decide (way > 5)) (true) (dTr (by omega)) fun Al W I => ?_
   exact zrb I
 · have he : n0r n = 6 := by unfold n0r; rw [if_neg hn]
   rw [he] at HG
   generalize fmt n = f at *
   have I := Inv.start w [] True.intro
   refine a0e [.v (.int .i64 n), .v (.int .i64 way)] I Tryz.func63 ?_
   refine zq I (fun Al W I => (HG W).out) fun Al W I => ?_
   exact zrb I
def o0h (f : Fm) (n way : Int) (w : World) (en : Ending) (w' : World) : Prop :=
 ∃ u, en = .returned (.tuple #[.pointer (some ⟨u, 0, none⟩), .int .i64 0]) ∧ w.heap.size ≤ u ∧ Bt w' u 182 #[.int .i64 n, .int .i64 way, .int .i64 f.g.rad, .int .i64 f.g.digs, .int .i64 f.g.lo, .int .i64 f.g.hi, .bool f.g.grad, .int .u8 (famB f), .int .i64 0] ∧ Below w.heap.size w w'
theorem v0b (n way : Int) (w : World) (hn : IsFm n) (hw : 1 ≤ way ∧ way ≤ 5) : Calls Tryz.prog 63 #[.int .i64 n, .int .i64 way] w (o0h (fmt n) n way w) := by
 have HG := fun W => hi0 (t0g n W)
 have he : n0r n = 0 := by unfold n0r; rw [if_pos hn]
 rw [he] at HG
 have G := c0c hn
 generalize fmt n = f at *
 have hrad := G.rad
 have hgr := G.grad
 by_cases f2 : f.fam = 2
 · have hBf : famB f = 66 := by unfold famB; rw [if_neg (by omega), if_pos f2]
   rw [if_pos f2] at hrad
   have I := Inv.start w [] True.intro
   refine a0e [.v (.int .i64 n), .v (.int .i64 way)] I Tryz.func63 ?_
   refine zq I (fun Al W I => (HG W).out) fun Al W I => ?_
   refine zb I 18 (decide (way < 1)) (false) (dFa (by omega)) fun Al W I => ?_
   refine zb I 21 (decide (way > 5)) (false) (dFa (by omega)) fun Al W I => ?_
   refine zb I 31 (f.g.rad == 16) (true) (beq_iff_eq.2 hrad) fun Al W I => ?_
   exact zret I (v := fun Al => .tuple #[.pointer (some ⟨(lk 0 Al 1), 0, none⟩), .int .i64 0]) fun Al W I => ⟨_, rfl, (I.geB 1), by rw [hBf]; exact (I.box 1 182 _), I.below⟩
 · rw [if_neg f2] at hrad
   by_cases f1 : f.fam = 1
   · have hBf : famB f = 65 := by unfold famB; rw [if_pos f1]
     rw [decide_eq_true f1] at hgr
     unfold o0h
     rw [hBf, hgr]
     simp only [hgr] at HG
     have I := Inv.start w [] True.intro
     refine a0e [.v (.int .i64 n), .v (.int .i64 way)] I Tryz.func63 ?_
     refine zq I (fun Al W I => (HG W).out) fun Al W I => ?_
     refine zb I 18 (decide (way < 1)) (false) (dFa (by omega)) fun Al W I => ?_
     refine zb I 21 (decide (way > 5)) (false) (dFa (by omega)) fun Al W I => ?_
     refine zb I 31 (f.g.rad == 16) (false) (bFn (by omega)) fun Al W I => ?_
     exact zret I fun Al W I => ⟨_, rfl, (I.geB 1), (I.box 1 182 _), I.below⟩
   · have hBf : famB f = 67 := by unfold famB; rw [if_neg f1, if_neg f2]
     rw [decide_eq_false f1] at hgr
     unfold o0h
     rw [hBf, hgr]
     simp only [hgr] at HG
     have I := Inv.start w [] True.intro
     refine a0e [.v (.int .i64 n), .v (.int .i64 way)] I Tryz.func63 ?_
     refine zq I (fun Al W I => (HG W).out) fun Al W I => ?_
     refine zb I 18 (decide (way < 1)) (false) (dFa (by omega)) fun Al W I => ?_
     refine zb I 21 (decide (way > 5)) (false) (dFa (by omega)) fun Al W I => ?_
     refine zb I 31 (f.g.rad == 16) (false) (bFn (by omega)) fun Al W I => ?_
     exact zret I fun Al W I => ⟨_, rfl, (I.geB 1), (I.box 1 182 _), I.below⟩
theorem m1j (n way fl : Int) (a : Vp) (r : Vr) (base u : Nat) (w : World) (U : Bt w u 182 #[.int .i64 n, .int .i64 way, .int .i64 (fmt n).g.rad, .int .i64 (fmt n).g.digs, .int .i64 (fmt n).g.lo, .int .i64 (fmt n).g.hi, .bool (fmt n).g.grad, .int .u8 (famB (fmt n)), .int .i64 fl]) (oa : Own w base .u32 141 a.p a.c (dig B32 a.v.d)) (hn : IsFm n) (V : VRep (fmt n) a.v r) (R : ResF (fmt n) r) (hT : TabW w) :
 Calls Tryz.prog 68 #[.pointer (some ⟨u, 0, none⟩), .agg #[.int .i64 (a.v.cls : Int), .bool a.v.neg, .slice a.p (dig B32 a.v.d).length a.c, .int .i64 a.v.pow]] w fun en w' => en = .returned (.tuple #[.string (b0q ((fmt n).strP ((fmt n).encP r.cls r.neg r.x))), .int .i64 fl, .int .i64 0]) ∧ Below w.heap.size w w' := by
 have HE := fun W (h1 : Own W base .u32 141 a.p a.c (dig B32 a.v.d)) h2 => hi0 (y0d n (a.v.cls : Int) (dinV a.v a.p a.c) W (j1f h1 V.len) h2)
 obtain ⟨e1, e2⟩ := m1b R V a.p a.c
 unfold v0a t0e at HE
 rw [if_pos hn, e1, e2] at HE
 simp only [if_true] at HE
 have HE2 : ∀ W, Own W base .u32 141 a.p a.c (dig B32 a.v.d) → TabW W → Hid (Calls Tryz.prog 42 #[.int .i64 n, .agg #[.int .i64 (a.v.cls : Int), .bool a.v.neg, .slice a.p (dig B32 a.v.d).length a.c, .int .i64 a.v.pow]] W fun en w' => en = .returned (.tuple #[.string (b0q ((fmt n).strP ((fmt n).encP r.cls r.neg r.x))), .int .i64 0]) ∧ Below W.heap.size W w') := HE
 clear HE e1 e2 V R
 generalize b0q ((fmt n).strP ((fmt n).encP r.cls r.neg r.x)) = s at *
 generalize fmt n = f at *
 have I := Inv.startR w [u] [⟨182, (uS f n way fl), true⟩] [ownF base .u32 141 a.p a.c (dig B32 a.v.d), tabF] ⟨U, True.intro⟩ ⟨oa, hT, True.intro⟩
 refine a0e [.p 0 0, .v (.agg #[.int .i64 (a.v.cls : Int), .bool a.v.neg, .slice a.p (dig B32 a.v.d).length a.c, .int .i64 a.v.pow])] I Tryz.func68 ?_
 refine zd [] I fun Al W I => ?_
 refine zk [0, 1, 2, 3, 4] I fun I => ?_
 refine zo 5 I fun I => ?_
 refine zq I (fun Al W I => (HE2 W I.fa.1 I.fa.2.1).out) fun Al W I => ?_
 refine zk [6, 7, 8, 9, 10] I fun I => ?_
 refine zd [] I fun Al W I => ?_
 refine zk [0, 1, 2, 3, 4, 5, 6, 7] I fun I => ?_
 exact zrb I
end Go.Proofs.YtmacohmclpnphaaGreatDoor
