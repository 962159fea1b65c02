/- The references' Placed. -/
import Derived.Outline
import Derived.Carry
import Derived.Test.YtlcdfnaaenibgaaGreatDoorZg1
import Derived.Test.YtlcdfnaaenibgaaGreatDoorZg2
import Derived.Test.YtlcdfnaaenibgaaGreatDoorZg3
import Derived.Test.YtlcdfnaaenibgaaGreatDoorZg4
import Derived.Test.YtlcdfnaaenibgaaGreatDoorZg5
import Derived.Test.YtlcdfnaaenibgaaGreatDoorZg6
import Derived.Test.YtlcdfnaaenibgaaGreatDoorZg7
set_option maxHeartbeats 8000000
set_option maxRecDepth 100000
namespace Go.Proofs.YtlcdfnaaenibgaaGreatDoor
open Go.RowKit Go.Slip
theorem o1i (n way : Int) (ng : Bool) (d : Nat) (pw : Int) (pp : Option Addr) (cc : Nat) (w : World) (hn : IsFm n) (ex un : Bool) (hf : (fmt n).fam = 2) :
 Calls Tryz.prog 65 #[.int .i64 n, .agg #[.bool ng, .slice pp (dig B16 d).length cc, .int .i64 pw, .bool ex, .bool true, .bool un], .int .i64 way] w (GVf w w.heap.size ((fmt n).greatM ng, 5)) := by
 have HF := fun W => hi0 (b0g n W)
 rw [decide_eq_true hn, hf] at HF
 have HG := fun W => hi0 (i0i n ng W hn)
 generalize (fmt n).greatM ng = r at *
 generalize fmt n = f at *
 clear hf hn
 cases ex
 · have I := Inv.start w [] True.intro
   refine a0d [.v (.int .i64 n), .v (.agg #[.bool ng, .slice pp (dig B16 d).length cc, .int .i64 pw, .bool false, .bool true, .bool un]), .v (.int .i64 way)] I Tryz.func65 ?_
   refine zg I (fun Al W I => (HF W).out) fun Al V Iv _ hB _ kz => ?_
   rintro _ W ⟨rfl, hb⟩
   refine ⟨_, rfl, kz _ _ hb fun I => ?_⟩
   refine zg I (fun Al W I => (HG W).out) fun Al V Iv _ hB _ kz => ?_
   rintro _ W ⟨p28, c28, rfl, o28, hb⟩
   refine ⟨_, rfl, kz _ _ hb fun I => ?_⟩
   have I := I.rf o28 (hB _) Iv
   exact zret I fun Al W I => ⟨p28, c28, rfl, I.fa.1, I.below⟩
 · have I := Inv.start w [] True.intro
   refine a0d [.v (.int .i64 n), .v (.agg #[.bool ng, .slice pp (dig B16 d).length cc, .int .i64 pw, .bool true, .bool true, .bool un]), .v (.int .i64 way)] I Tryz.func65 ?_
   refine zg I (fun Al W I => (HF W).out) fun Al V Iv _ hB _ kz => ?_
   rintro _ W ⟨rfl, hb⟩
   refine ⟨_, rfl, kz _ _ hb fun I => ?_⟩
   refine zg I (fun Al W I => (HG W).out) fun Al V Iv _ hB _ kz => ?_
   rintro _ W ⟨p28, c28, rfl, o28, hb⟩
   refine ⟨_, rfl, kz _ _ hb fun I => ?_⟩
   have I := I.rf o28 (hB _) Iv
   exact zret I fun Al W I => ⟨p28, c28, rfl, I.fa.1, I.below⟩
theorem o1j (n way : Int) (ng : Bool) (d : Nat) (pw : Int) (pp : Option Addr) (cc : Nat) (w : World) (hn : IsFm n) (ex un : Bool) (hf : (fmt n).fam = 3) :
 Calls Tryz.prog 65 #[.int .i64 n, .agg #[.bool ng, .slice pp (dig B16 d).length cc, .int .i64 pw, .bool ex, .bool true, .bool un], .int .i64 way] w (GVf w w.heap.size ((fmt n).nothM, 5)) := by
 have HF := fun W => hi0 (b0g n W)
 rw [decide_eq_true hn, hf] at HF
 have HG := fun W => hi0 (g0j n W hn)
 have hr : (fmt n).nothM = ⟨(fmt n).nothM.cls, false, vz⟩ := rfl
 rw [hr]
 generalize (fmt n).nothM.cls = k at *
 generalize fmt n = f at *
 clear hf hn
 cases ex
 · have I := Inv.start w [] True.intro
   refine a0d [.v (.int .i64 n), .v (.agg #[.bool ng, .slice pp (dig B16 d).length cc, .int .i64 pw, .bool false, .bool true, .bool un]), .v (.int .i64 way)] I Tryz.func65 ?_
   refine zg I (fun Al W I => (HF W).out) fun Al V Iv _ hB _ kz => ?_
   rintro _ W ⟨rfl, hb⟩
   refine ⟨_, rfl, kz _ _ hb fun I => ?_⟩
   refine zg I (fun Al W I => (HG W).out) fun Al V Iv _ hB _ kz => ?_
   rintro _ W ⟨rfl, hb⟩
   refine ⟨_, rfl, kz _ _ hb fun I => ?_⟩
   exact zret I fun Al W I => a0m (k := k) (fl := 5) rfl I.below
 · have I := Inv.start w [] True.intro
   refine a0d [.v (.int .i64 n), .v (.agg #[.bool ng, .slice pp (dig B16 d).length cc, .int .i64 pw, .bool true, .bool true, .bool un]), .v (.int .i64 way)] I Tryz.func65 ?_
   refine zg I (fun Al W I => (HF W).out) fun Al V Iv _ hB _ kz => ?_
   rintro _ W ⟨rfl, hb⟩
   refine ⟨_, rfl, kz _ _ hb fun I => ?_⟩
   refine zg I (fun Al W I => (HG W).out) fun Al V Iv _ hB _ kz => ?_
   rintro _ W ⟨rfl, hb⟩
   refine ⟨_, rfl, kz _ _ hb fun I => ?_⟩
   exact zret I fun Al W I => a0m (k := k) (fl := 5) rfl I.below
theorem o1k (n way : Int) (ng : Bool) (d : Nat) (pw : Int) (pp : Option Addr) (cc : Nat) (w : World) (hn : IsFm n) (ex un : Bool) (hf : (fmt n).fam = 1) (hw : 1 ≤ way ∧ way ≤ 5) :
 Calls Tryz.prog 65 #[.int .i64 n, .agg #[.bool ng, .slice pp (dig B16 d).length cc, .int .i64 pw, .bool ex, .bool true, .bool un], .int .i64 way] w (GVf w w.heap.size (if way ≤ 2 ∨ (way = 4 ∧ ng = false) ∨ (way = 5 ∧ ng = true) then infM ng else (fmt n).greatM ng, 5)) := by
 have HF := fun W => hi0 (b0g n W)
 rw [decide_eq_true hn, hf] at HF
 have HG := fun W => hi0 (i0i n ng W hn)
 generalize fmt n = f at *
 clear hf hn
 rcases (show way = 1 ∨ way = 2 ∨ way = 3 ∨ way = 4 ∨ way = 5 by omega) with rfl | rfl | rfl | rfl | rfl <;> cases ng <;> cases ex
 · rw [if_pos (by decide)]
   have I := Inv.start w [] True.intro
   refine a0d [.v (.int .i64 n), .v (.agg #[.bool false, .slice pp (dig B16 d).length cc, .int .i64 pw, .bool false, .bool true, .bool un]), .v (.int .i64 1)] I Tryz.func65 ?_
   refine zg I (fun Al W I => (HF W).out) fun Al V Iv _ hB _ kz => ?_
   rintro _ W ⟨rfl, hb⟩
   refine ⟨_, rfl, kz _ _ hb fun I => ?_⟩
   exact zret I fun Al W I => a0m (k := 3) (fl := 5) rfl I.below
 · rw [if_pos (by decide)]
   have I := Inv.start w [] True.intro
   refine a0d [.v (.int .i64 n), .v (.agg #[.bool false, .slice pp (dig B16 d).length cc, .int .i64 pw, .bool true, .bool true, .bool un]), .v (.int .i64 1)] I Tryz.func65 ?_
   refine zg I (fun Al W I => (HF W).out) fun Al V Iv _ hB _ kz => ?_
   rintro _ W ⟨rfl, hb⟩
   refine ⟨_, rfl, kz _ _ hb fun I => ?_⟩
   exact zret I fun Al W I => a0m (k := 3) (fl := 5) rfl I.below
 · rw [if_pos (by decide)]
   have I := Inv.start w [] True.intro
   refine a0d [.v (.int .i64 n), .v (.agg #[.bool true, .slice pp (dig B16 d).length cc, .int .i64 pw, .bool false, .bool true, .bool un]), .v (.int .i64 1)] I Tryz.func65 ?_
   refine zg I (fun Al W I => (HF W).out) fun Al V Iv _ hB _ kz => ?_
   rintro _ W ⟨rfl, hb⟩
   refine ⟨_, rfl, kz _ _ hb fun I => ?_⟩
   exact zret I fun Al W I => a0m (k := 3) (fl := 5) rfl I.below
 · rw [if_pos (by decide)]
   have I := Inv.start w [] True.intro
   refine a0d [.v (.int .i64 n), .v (.agg #[.bool true, .slice pp (dig B16 d).length cc, .int .i64 pw, .bool true, .bool true, .bool un]), .v (.int .i64 1)] I Tryz.func65 ?_
   refine zg I (fun Al W I => (HF W).out) fun Al V Iv _ hB _ kz => ?_
   rintro _ W ⟨rfl, hb⟩
   refine ⟨_, rfl, kz _ _ hb fun I => ?_⟩
   exact zret I fun Al W I => a0m (k := 3) (fl := 5) rfl I.below
 · rw [if_pos (by decide)]
   have I := Inv.start w [] True.intro
   refine a0d [.v (.int .i64 n), .v (.agg #[.bool false, .slice pp (dig B16 d).length cc, .int .i64 pw, .bool false, .bool true, .bool un]), .v (.int .i64 2)] I Tryz.func65 ?_
   refine zg I (fun Al W I => (HF W).out) fun Al V Iv _ hB _ kz => ?_
   rintro _ W ⟨rfl, hb⟩
   refine ⟨_, rfl, kz _ _ hb fun I => ?_⟩
   exact zret I fun Al W I => a0m (k := 3) (fl := 5) rfl I.below
 · rw [if_pos (by decide)]
   have I := Inv.start w [] True.intro
   refine a0d [.v (.int .i64 n), .v (.agg #[.bool false, .slice pp (dig B16 d).length cc, .int .i64 pw, .bool true, .bool true, .bool un]), .v (.int .i64 2)] I Tryz.func65 ?_
   refine zg I (fun Al W I => (HF W).out) fun Al V Iv _ hB _ kz => ?_
   rintro _ W ⟨rfl, hb⟩
   refine ⟨_, rfl, kz _ _ hb fun I => ?_⟩
   exact zret I fun Al W I => a0m (k := 3) (fl := 5) rfl I.below
 · rw [if_pos (by decide)]
   have I := Inv.start w [] True.intro
   refine a0d [.v (.int .i64 n), .v (.agg #[.bool true, .slice pp (dig B16 d).length cc, .int .i64 pw, .bool false, .bool true, .bool un]), .v (.int .i64 2)] I Tryz.func65 ?_
   refine zg I (fun Al W I => (HF W).out) fun Al V Iv _ hB _ kz => ?_
   rintro _ W ⟨rfl, hb⟩
   refine ⟨_, rfl, kz _ _ hb fun I => ?_⟩
   exact zret I fun Al W I => a0m (k := 3) (fl := 5) rfl I.below
 · rw [if_pos (by decide)]
   have I := Inv.start w [] True.intro
   refine a0d [.v (.int .i64 n), .v (.agg #[.bool true, .slice pp (dig B16 d).length cc, .int .i64 pw, .bool true, .bool true, .bool un]), .v (.int .i64 2)] I Tryz.func65 ?_
   refine zg I (fun Al W I => (HF W).out) fun Al V Iv _ hB _ kz => ?_
   rintro _ W ⟨rfl, hb⟩
   refine ⟨_, rfl, kz _ _ hb fun I => ?_⟩
   exact zret I fun Al W I => a0m (k := 3) (fl := 5) rfl I.below
 · rw [if_neg (by decide)]
   generalize f.greatM false = r at *
   have I := Inv.start w [] True.intro
   refine a0d [.v (.int .i64 n), .v (.agg #[.bool false, .slice pp (dig B16 d).length cc, .int .i64 pw, .bool false, .bool true, .bool un]), .v (.int .i64 3)] I Tryz.func65 ?_
   refine zg I (fun Al W I => (HF W).out) fun Al V Iv _ hB _ kz => ?_
   rintro _ W ⟨rfl, hb⟩
   refine ⟨_, rfl, kz _ _ hb fun I => ?_⟩
   refine zg I (fun Al W I => (HG W).out) fun Al V Iv _ hB _ kz => ?_
   rintro _ W ⟨p61, c61, rfl, o61, hb⟩
   refine ⟨_, rfl, kz _ _ hb fun I => ?_⟩
   have I := I.rf o61 (hB _) Iv
   exact zret I fun Al W I => ⟨p61, c61, rfl, I.fa.1, I.below⟩
 · rw [if_neg (by decide)]
   generalize f.greatM false = r at *
   have I := Inv.start w [] True.intro
   refine a0d [.v (.int .i64 n), .v (.agg #[.bool false, .slice pp (dig B16 d).length cc, .int .i64 pw, .bool true, .bool true, .bool un]), .v (.int .i64 3)] I Tryz.func65 ?_
   refine zg I (fun Al W I => (HF W).out) fun Al V Iv _ hB _ kz => ?_
   rintro _ W ⟨rfl, hb⟩
   refine ⟨_, rfl, kz _ _ hb fun I => ?_⟩
   refine zg I (fun Al W I => (HG W).out) fun Al V Iv _ hB _ kz => ?_
   rintro _ W ⟨p61, c61, rfl, o61, hb⟩
   refine ⟨_, rfl, kz _ _ hb fun I => ?_⟩
   have I := I.rf o61 (hB _) Iv
   exact zret I fun Al W I => ⟨p61, c61, rfl, I.fa.1, I.below⟩
 · rw [if_neg (by decide)]
   generalize f.greatM true = r at *
   have I := Inv.start w [] True.intro
   refine a0d [.v (.int .i64 n), .v (.agg #[.bool true, .slice pp (dig B16 d).length cc, .int .i64 pw, .bool false, .bool true, .bool un]), .v (.int .i64 3)] I Tryz.func65 ?_
   refine zg I (fun Al W I => (HF W).out) fun Al V Iv _ hB _ kz => ?_
   rintro _ W ⟨rfl, hb⟩
   refine ⟨_, rfl, kz _ _ hb fun I => ?_⟩
   refine zg I (fun Al W I => (HG W).out) fun Al V Iv _ hB _ kz => ?_
   rintro _ W ⟨p61, c61, rfl, o61, hb⟩
   refine ⟨_, rfl, kz _ _ hb fun I => ?_⟩
   have I := I.rf o61 (hB _) Iv
   exact zret I fun Al W I => ⟨p61, c61, rfl, I.fa.1, I.below⟩
 · rw [if_neg (by decide)]
   generalize f.greatM true = r at *
   have I := Inv.start w [] True.intro
   refine a0d [.v (.int .i64 n), .v (.agg #[.bool true, .slice pp (dig B16 d).length cc, .int .i64 pw, .bool true, .bool true, .bool un]), .v (.int .i64 3)] I Tryz.func65 ?_
   refine zg I (fun Al W I => (HF W).out) fun Al V Iv _ hB _ kz => ?_
   rintro _ W ⟨rfl, hb⟩
   refine ⟨_, rfl, kz _ _ hb fun I => ?_⟩
   refine zg I (fun Al W I => (HG W).out) fun Al V Iv _ hB _ kz => ?_
   rintro _ W ⟨p61, c61, rfl, o61, hb⟩
   refine ⟨_, rfl, kz _ _ hb fun I => ?_⟩
   have I := I.rf o61 (hB _) Iv
   exact zret I fun Al W I => ⟨p61, c61, rfl, I.fa.1, I.below⟩
 · rw [if_pos (by decide)]
   have I := Inv.start w [] True.intro
   refine a0d [.v (.int .i64 n), .v (.agg #[.bool false, .slice pp (dig B16 d).length cc, .int .i64 pw, .bool false, .bool true, .bool un]), .v (.int .i64 4)] I Tryz.func65 ?_
   refine zg I (fun Al W I => (HF W).out) fun Al V Iv _ hB _ kz => ?_
   rintro _ W ⟨rfl, hb⟩
   refine ⟨_, rfl, kz _ _ hb fun I => ?_⟩
   exact zret I fun Al W I => a0m (k := 3) (fl := 5) rfl I.below
 · rw [if_pos (by decide)]
   have I := Inv.start w [] True.intro
   refine a0d [.v (.int .i64 n), .v (.agg #[.bool false, .slice pp (dig B16 d).length cc, .int .i64 pw, .bool true, .bool true, .bool un]), .v (.int .i64 4)] I Tryz.func65 ?_
   refine zg I (fun Al W I => (HF W).out) fun Al V Iv _ hB _ kz => ?_
   rintro _ W ⟨rfl, hb⟩
   refine ⟨_, rfl, kz _ _ hb fun I => ?_⟩
   exact zret I fun Al W I => a0m (k := 3) (fl := 5) rfl I.below
 · rw [if_neg (by decide)]
   generalize f.greatM true = r at *
   have I := Inv.start w [] True.intro
   refine a0d [.v (.int .i64 n), .v (.agg #[.bool true, .slice pp (dig B16 d).length cc, .int .i64 pw, .bool false, .bool true, .bool un]), .v (.int .i64 4)] I Tryz.func65 ?_
   refine zg I (fun Al W I => (HF W).out) fun Al V Iv _ hB _ kz => ?_
   rintro _ W ⟨rfl, hb⟩
   refine ⟨_, rfl, kz _ _ hb fun I => ?_⟩
   refine zg I (fun Al W I => (HG W).out) fun Al V Iv _ hB _ kz => ?_
   rintro _ W ⟨p61, c61, rfl, o61, hb⟩
   refine ⟨_, rfl, kz _ _ hb fun I => ?_⟩
   have I := I.rf o61 (hB _) Iv
   exact zret I fun Al W I => ⟨p61, c61, rfl, I.fa.1, I.below⟩
 · rw [if_neg (by decide)]
   generalize f.greatM true = r at *
   have I := Inv.start w [] True.intro
   refine a0d [.v (.int .i64 n), .v (.agg #[.bool true, .slice pp (dig B16 d).length cc, .int .i64 pw, .bool true, .bool true, .bool un]), .v (.int .i64 4)] I Tryz.func65 ?_
   refine zg I (fun Al W I => (HF W).out) fun Al V Iv _ hB _ kz => ?_
   rintro _ W ⟨rfl, hb⟩
   refine ⟨_, rfl, kz _ _ hb fun I => ?_⟩
   refine zg I (fun Al W I => (HG W).out) fun Al V Iv _ hB _ kz => ?_
   rintro _ W ⟨p61, c61, rfl, o61, hb⟩
   refine ⟨_, rfl, kz _ _ hb fun I => ?_⟩
   have I := I.rf o61 (hB _) Iv
   exact zret I fun Al W I => ⟨p61, c61, rfl, I.fa.1, I.below⟩
 · rw [if_neg (by decide)]
   generalize f.greatM false = r at *
   have I := Inv.start w [] True.intro
   refine a0d [.v (.int .i64 n), .v (.agg #[.bool false, .slice pp (dig B16 d).length cc, .int .i64 pw, .bool false, .bool true, .bool un]), .v (.int .i64 5)] I Tryz.func65 ?_
   refine zg I (fun Al W I => (HF W).out) fun Al V Iv _ hB _ kz => ?_
   rintro _ W ⟨rfl, hb⟩
   refine ⟨_, rfl, kz _ _ hb fun I => ?_⟩
   refine zg I (fun Al W I => (HG W).out) fun Al V Iv _ hB _ kz => ?_
   rintro _ W ⟨p61, c61, rfl, o61, hb⟩
   refine ⟨_, rfl, kz _ _ hb fun I => ?_⟩
   have I := I.rf o61 (hB _) Iv
   exact zret I fun Al W I => ⟨p61, c61, rfl, I.fa.1, I.below⟩
 · rw [if_neg (by decide)]
   generalize f.greatM false = r at *
   have I := Inv.start w [] True.intro
   refine a0d [.v (.int .i64 n), .v (.agg #[.bool false, .slice pp (dig B16 d).length cc, .int .i64 pw, .bool true, .bool true, .bool un]), .v (.int .i64 5)] I Tryz.func65 ?_
   refine zg I (fun Al W I => (HF W).out) fun Al V Iv _ hB _ kz => ?_
   rintro _ W ⟨rfl, hb⟩
   refine ⟨_, rfl, kz _ _ hb fun I => ?_⟩
   refine zg I (fun Al W I => (HG W).out) fun Al V Iv _ hB _ kz => ?_
   rintro _ W ⟨p61, c61, rfl, o61, hb⟩
   refine ⟨_, rfl, kz _ _ hb fun I => ?_⟩
   have I := I.rf o61 (hB _) Iv
   exact zret I fun Al W I => ⟨p61, c61, rfl, I.fa.1, I.below⟩
 · rw [if_pos (by decide)]
   have I := Inv.start w [] True.intro
   refine a0d [.v (.int .i64 n), .v (.agg #[.bool true, .slice pp (dig B16 d).length cc, .int .i64 pw, .bool false, .bool true, .bool un]), .v (.int .i64 5)] I Tryz.func65 ?_
   refine zg I (fun Al W I => (HF W).out) fun Al V Iv _ hB _ kz => ?_
   rintro _ W ⟨rfl, hb⟩
   refine ⟨_, rfl, kz _ _ hb fun I => ?_⟩
   exact zret I fun Al W I => a0m (k := 3) (fl := 5) rfl I.below
 · rw [if_pos (by decide)]
   have I := Inv.start w [] True.intro
   refine a0d [.v (.int .i64 n), .v (.agg #[.bool true, .slice pp (dig B16 d).length cc, .int .i64 pw, .bool true, .bool true, .bool un]), .v (.int .i64 5)] I Tryz.func65 ?_
   refine zg I (fun Al W I => (HF W).out) fun Al V Iv _ hB _ kz => ?_
   rintro _ W ⟨rfl, hb⟩
   refine ⟨_, rfl, kz _ _ hb fun I => ?_⟩
   exact zret I fun Al W I => a0m (k := 3) (fl := 5) rfl I.below
theorem pr_n (n way : Int) (ng : Bool) (d : Nat) (pw : Int) (pp : Option Addr) (cc : Nat) (w : World) (hn : IsFm n) (hp : Rd w .i64 pp (dig B16 d)) (hl : (dig B16 d).length ≤ 1000) (ex un : Bool) (hpw : ¬ (un = true ∧ (fmt n).fam ≠ 1 ∧ pw < (fmt n).g.lo) → -20000 ≤ pw ∧ pw ≤ 20000) :
 Calls Tryz.prog 65 #[.int .i64 n, .agg #[.bool ng, .slice pp (dig B16 d).length cc, .int .i64 pw, .bool ex, .bool false, .bool un], .int .i64 way] w (GVf w w.heap.size ((fmt n).placedM ⟨ng, d, pw, ex, false, un⟩ way)) := by
 have HF := fun W => hi0 (b0g n W)
 rw [decide_eq_true hn] at HF
 have HZ := fun g W => hi0 (i0h n g W hn)
 have hz : ∀ g, (fmt n).zeroM g = ⟨1, g && decide ((fmt n).fam = 1), vz⟩ := fun _ => rfl
 have HW := fun W => hi0 (c0o (fmt n).g W)
 have hM : (fmt n).placedM ⟨ng, d, pw, ex, false, un⟩ way = if un = true ∧ (fmt n).fam ≠ 1 ∧ pw < (fmt n).g.lo then ((fmt n).zeroM false, 3) else if d = 0 then ((fmt n).zeroM ng, (fmt n).flP ⟨ng, d, pw, ex, false, un⟩) else (⟨2, ng, bare ⟨ng, d, wid (fmt n).g * pw⟩⟩, (fmt n).flP ⟨ng, d, pw, ex, false, un⟩) := by unfold Fm.placedM; simp only [Bool.false_eq_true, if_false]
 have hFL : (fmt n).flP ⟨ng, d, pw, ex, false, un⟩ = if un then (if (fmt n).fam = 1 then (if ex then 0 else 3) else 3) else if ex then 0 else 1 := rfl
 have G := c0a hn
 simp only [hz, Bool.false_and] at hM
 generalize (fmt n).placedM ⟨ng, d, pw, ex, false, un⟩ way = R at *
 generalize (fmt n).flP ⟨ng, d, pw, ex, false, un⟩ = FL at *
 generalize fmt n = f at *
 have hfam := G.fam
 have wp := b0j f.g
 have hmu := fun h => k0t (wd := wid f.g) (k := pw) (B := 20000) wp.2 (hpw h)
 have h0 := a0f a0e d
 generalize hm : (wid f.g : Int) * pw = mw at *
 have HM := hi0 hm
 obtain ⟨x, hx⟩ : ∃ x, bare ⟨ng, d, mw⟩ = x := ⟨_, rfl⟩
 rw [hx] at hM
 have HB := fun hk W p c h => hi0 (l0z ng p _ c mw d x W h rfl (by have := hmu hk; omega) (by have := hmu hk; omega) hx)
 clear hm hx hz
 generalize hq : (fun g : Bool => g && decide (f.fam = 1)) = q
 have hq2 : ∀ g : Bool, (g && decide (f.fam = 1)) = q g := fun g => by rw [← hq]
 have hq3 : q false = false := by rw [← hq]; rfl
 simp only [hq2] at hM HZ
 clear hq hq2
 have I := Inv.start w [rdF .i64 pp (dig B16 d)] ⟨hp, True.intro⟩
 refine a0d [.v (.int .i64 n), .v (.agg #[.bool ng, .slice pp (dig B16 d).length cc, .int .i64 pw, .bool ex, .bool false, .bool un]), .v (.int .i64 way)] I Tryz.func65 ?_
 refine zg I (fun Al W I => (HF W).out) fun Al V Iv _ hB _ kz => ?_
 rintro _ W ⟨rfl, hb⟩
 refine ⟨_, rfl, kz _ _ hb fun I => ?_⟩
 obtain ⟨ne, hne⟩ : ∃ ne, (!ex) = ne := ⟨_, rfl⟩
 refine zb I 18 (!ex) (ne) (hne) fun Al W I => ?_
 refine zcut I (some 2000018) (fun fr bx gs => ∃ (U1 : Nat → Value) (k1 : Nat), fr = (.v (.int .i64 n) :: .v (.agg #[.bool ng, .slice pp (dig B16 d).length cc, .int .i64 pw, .bool ex, .bool false, .bool un]) :: .v (.int .i64 way) :: .v undef :: .p 0 0 :: .v undef :: .p 1 0 :: .v (.int .i64 0) :: .p 2 0 :: .v (U1 9) :: .v (.int .i64 (k1 : Int)) :: sw U1 11 7 (.v (.bool ne) :: .v (U1 19) :: .v undef :: .v (U1 21) :: su 2 (sw U1 24 6 (.v undef :: sw U1 31 22 (.v undef :: sw U1 54 10 (.v undef :: sw U1 65 7 (.v undef :: sw U1 73 2 (.v undef :: sw U1 76 5 (.v undef :: sw U1 82 6 (.v undef :: sw U1 89 21 []))))))))) : List SV) ∧ bx = [⟨109, [.v (.bool ng), .v (.slice pp (dig B16 d).length cc), .v (.int .i64 pw), .v (.bool ex), .v (.bool false), .v (.bool un)], false⟩, ⟨32, [.v (.int .i64 0), .v (.bool false), .v (.bool false), .v (.slice none 0 0), .v (.int .i64 0)], false⟩, ⟨55, [.v (.int .i64 (f.size : Int)), .v (.int .i64 (f.E : Int)), .v (.int .i64 (f.F : Int)), .v (.int .i64 f.g.rad), .v (.int .i64 f.g.digs), .v (.int .i64 f.g.lo), .v (.int .i64 f.g.hi), .v (.bool f.g.grad), .v (.int .i64 (f.fam : Int))], false⟩] ∧ gs = [rdF .i64 pp (dig B16 d)] ∧ (k1 = if ex then 0 else 1)) ?_ ?_
 · intro J hJ Al W I
   rcases Bool.eq_false_or_eq_true ne with rfl | rfl
   · exact b0e I J fun Al W U I => hJ _ _ _ _ _ ⟨U, 1, rfl, rfl, rfl, (by revert hne; cases ex <;> simp)⟩ (I.pick [0])
   exact b0e I J fun Al W U I => hJ _ _ _ _ _ ⟨U, 0, rfl, rfl, rfl, (by revert hne; cases ex <;> simp)⟩ (I.pick [0])
 rintro _ _ _ ⟨U1, k1, rfl, rfl, rfl, hk1⟩ Al W I
 obtain ⟨ub, hub⟩ : ∃ ub, un = ub := ⟨_, rfl⟩
 refine zb I 64 (un) (ub) (hub) fun Al W I => ?_
 refine zcut I (some 2000064) (fun fr bx gs => ∃ (U2 : Nat → Value) (k2 : Nat), fr = (.v (.int .i64 n) :: .v (.agg #[.bool ng, .slice pp (dig B16 d).length cc, .int .i64 pw, .bool ex, .bool false, .bool un]) :: .v (.int .i64 way) :: .v undef :: .p 0 0 :: .v undef :: .p 1 0 :: .v (U2 7) :: .p 2 0 :: .v (U2 9) :: .v (.int .i64 (k2 : Int)) :: sw U2 11 7 (.v (.bool ne) :: .v (U2 19) :: .v (.bool false) :: .v (U2 21) :: su 2 (sw U2 24 6 (.v undef :: sw U2 31 22 (.v undef :: sw U2 54 10 (.v (.bool ub) :: sw U2 65 23 (.v undef :: sw U2 89 21 [])))))) : List SV) ∧ bx = [⟨109, [.v (.bool ng), .v (.slice pp (dig B16 d).length cc), .v (.int .i64 pw), .v (.bool ex), .v (.bool false), .v (.bool un)], false⟩, ⟨32, [.v (.int .i64 0), .v (.bool false), .v (.bool false), .v (.slice none 0 0), .v (.int .i64 0)], false⟩, ⟨55, [.v (.int .i64 (f.size : Int)), .v (.int .i64 (f.E : Int)), .v (.int .i64 (f.F : Int)), .v (.int .i64 f.g.rad), .v (.int .i64 f.g.digs), .v (.int .i64 f.g.lo), .v (.int .i64 f.g.hi), .v (.bool f.g.grad), .v (.int .i64 (f.fam : Int))], false⟩] ∧ gs = [rdF .i64 pp (dig B16 d)] ∧ (FL = k2) ∧ (¬ (un = true ∧ f.fam ≠ 1 ∧ pw < f.g.lo))) ?_ ?_
 · intro J hJ Al W I
   rcases Bool.eq_false_or_eq_true ub with rfl | rfl
   · by_cases h1 : f.fam = 1
     · refine zb I 67 ((f.fam : Int) == 1) (true) (beq_iff_eq.2 (by omega)) fun Al W I => ?_
       rcases Bool.eq_false_or_eq_true (!ex) with f71 | f71
       · refine zb I 71 (!ex) (true) (f71) fun Al W I => ?_
         refine zb I 75 (decide ((f.fam : Int) > 1)) (false) (dFa (by omega)) fun Al W I => ?_
         exact b0e I J fun Al W U I => hJ _ _ _ _ _ ⟨U, 3, rfl, rfl, rfl, (by rw [hFL, if_pos hub, if_pos h1]; revert f71; cases ex <;> simp), (fun h => h.2.1 h1)⟩ (I.pick [0])
       refine zb I 71 (!ex) (false) (f71) fun Al W I => ?_
       refine zb I 75 (decide ((f.fam : Int) > 1)) (false) (dFa (by omega)) fun Al W I => ?_
       exact b0e I J fun Al W U I => hJ _ _ _ _ _ ⟨U, k1, rfl, rfl, rfl, (by rw [hFL, if_pos hub, if_pos h1, hk1]; revert f71; cases ex <;> simp), (fun h => h.2.1 h1)⟩ (I.pick [0])
     refine zb I 67 ((f.fam : Int) == 1) (false) (bFn (by omega)) fun Al W I => ?_
     refine zb I 75 (decide ((f.fam : Int) > 1)) (true) (dTr (by omega)) fun Al W I => ?_
     rcases Bool.eq_false_or_eq_true (decide (pw < f.g.lo)) with f81 | f81
     · refine zb I 81 (decide (pw < f.g.lo)) (true) (f81) fun Al W I => ?_
       refine zg I (fun Al W I => (HZ false W).out) fun Al V Iv _ hB _ kz => ?_
       rintro _ W ⟨rfl, hb⟩
       refine ⟨_, rfl, kz _ _ hb fun I => ?_⟩
       rw [hM, if_pos ⟨hub, h1, oTr f81⟩]
       exact zret I fun Al W I => a0m (k := 1) (fl := 3) rfl I.below
     refine zb I 81 (decide (pw < f.g.lo)) (false) (f81) fun Al W I => ?_
     exact b0e I J fun Al W U I => hJ _ _ _ _ _ ⟨U, 3, rfl, rfl, rfl, (by rw [hFL, if_pos hub, if_neg h1]), (fun h => absurd h.2.2 (oFa f81))⟩ (I.pick [0])
   exact b0e I J fun Al W U I => hJ _ _ _ _ _ ⟨U, k1, rfl, rfl, rfl, (by rw [hFL, if_neg (by rw [hub]; simp), hk1]), (fun h => by rw [hub] at h; cases h.1)⟩ (I.pick [0])
 rintro _ _ _ ⟨U2, k2, rfl, rfl, rfl, hk2, hlo⟩ Al W I
 rcases Bool.eq_false_or_eq_true ((((dig B16 d).length : Nat) : Int) == 0) with f88 | f88
 · refine zb I 88 ((((dig B16 d).length : Nat) : Int) == 0) (true) (f88) fun Al W I => ?_
   refine zg I (fun Al W I => (HZ ng W).out) fun Al V Iv _ hB _ kz => ?_
   rintro _ W ⟨rfl, hb⟩
   refine ⟨_, rfl, kz _ _ hb fun I => ?_⟩
   rw [hM, if_neg hlo, if_pos (h0.1 (by have := beq_iff_eq.1 f88; omega)), hk2]
   exact zret I fun Al W I => a0m (k := 1) (fl := k2) rfl I.below
 refine zb I 88 ((((dig B16 d).length : Nat) : Int) == 0) (false) (f88) fun Al W I => ?_
 refine zd [1] I fun Al W I => ?_
 refine zk [0, 1, 2, 3, 4, 5, 6, 7, 9, 10, 15] I fun I => ?_
 refine zo 8 I fun I => ?_
 refine zg I (fun Al W I => (HW W).out) fun Al V Iv _ hB _ kz => ?_
 rintro _ W ⟨rfl, hb⟩
 refine ⟨_, rfl, kz _ _ hb fun I => ?_⟩
 refine zki 11 I .i64 (((wid f.g : Nat) : Int) * pw) (mw) ((by rw [HM.out]; exact IntWalk.i64_in _ (by have := hmu hlo; omega))) fun I => ?_
 refine zk [12] I fun I => ?_
 refine zo 13 I fun I => ?_
 refine zg I (fun Al W I => (HB hlo W pp cc I.fa.1).out) fun Al V Iv _ hB _ kz => ?_
 rintro _ W ⟨p107, c107, rfl, o107, hb⟩
 refine ⟨_, rfl, kz _ _ hb fun I => ?_⟩
 have I := I.rf o107 (hB _) Iv
 refine zk [14] I fun I => ?_
 refine zo 16 I fun I => ?_
 refine zn I fun Al W I => ?_
 refine zk [17] I fun I => ?_
 rw [hM, if_neg hlo, if_neg (fun h => by have := h0.2 h; have := bnF f88; omega), hk2]
 exact zret I fun Al W I => ⟨p107, c107, rfl, I.fa.1, I.below⟩
theorem r0t (n way : Int) (p : Pl) (pp : Option Addr) (cc : Nat) (w : World) (hn : IsFm n) (hw : 1 ≤ way ∧ way ≤ 5) (hp : Rd w .i64 pp (dig B16 p.d)) (hl : (dig B16 p.d).length ≤ 1000) (hpw : p.over = false → ¬ (p.under = true ∧ (fmt n).fam ≠ 1 ∧ p.pow < (fmt n).g.lo) → -20000 ≤ p.pow ∧ p.pow ≤ 20000) :
 Calls Tryz.prog 65 #[.int .i64 n, .agg #[.bool p.neg, .slice pp (dig B16 p.d).length cc, .int .i64 p.pow, .bool p.exact, .bool p.over, .bool p.under], .int .i64 way] w (GVf w w.heap.size ((fmt n).placedM p way)) := by
 obtain ⟨ng, d, pw, ex, ov, un⟩ := p
 simp only at hp hl hpw ⊢
 have hfam := (c0a hn).fam
 cases ov with
 | true =>
  unfold Fm.placedM
  rw [if_pos rfl]
  by_cases f2 : (fmt n).fam = 2
  · rw [if_pos f2]; exact o1i n way ng d pw pp cc w hn ex un f2
  · rw [if_neg f2]
    by_cases f3 : (fmt n).fam = 3
    · rw [if_pos f3]; exact o1j n way ng d pw pp cc w hn ex un f3
    · rw [if_neg f3]; exact o1k n way ng d pw pp cc w hn ex un (by omega) hw
 | false =>
  exact pr_n n way ng d pw pp cc w hn hp hl ex un (fun h => hpw rfl h)
end Go.Proofs.YtlcdfnaaenibgaaGreatDoor
namespace Go.Slip
open Go.RowKit
/-! ### Slices of structs -/
structure y0t (P : Program) (t e : TypeId) (s bytes : Nat) : Prop where
 ht : P.underlying t = some (.slice e)
 hi : ∃ i z, P.info? e = some i ∧ i.zero = some z ∧ i.size = s ∧ i.bytes = bytes ∧ z.cells.size = s
 pos : 0 < s
 le : bytes ≤ 100
theorem x0b {P : Program} {t e : TypeId} {s bytes : Nat} {z : Value} (h1 : P.underlying t = some (.slice e)) (h2 : (P.info? e).map (fun i => (i.zero, i.size, i.bytes)) = some (some z, s, bytes)) (h3 : Nat.ble bytes 100 = true) (h4 : Nat.beq z.cells.size s = true) (h5 : Nat.ble 1 s = true) : y0t P t e s bytes := by
 refine ⟨h1, ?_, Nat.le_of_ble_eq_true h5, Nat.le_of_ble_eq_true h3⟩
 cases h : P.info? e with
 | none => rw [h] at h2; cases h2
 | some i =>
  rw [h] at h2
  simp only [Option.map_some, Option.some.injEq, Prod.mk.injEq] at h2
  exact ⟨i, z, rfl, h2.1, h2.2.1, h2.2.2, Nat.eq_of_beq_eq_true h4⟩
def OwnS (w : World) (base : Nat) (e : TypeId) (s : Nat) (p : Option Addr) (c n : Nat) (vs : List Value) : Prop := w.ownsRow base e s (.slice p n c) n vs
theorem OwnS.nil (w : World) (base : Nat) (e : TypeId) (s : Nat) : OwnS w base e s none 0 0 [] := World.ownsRow_nil w base e s
section
variable {w w' : World} {base : Nat} {e : TypeId} {s : Nat} {p : Option Addr} {c n : Nat} {vs : List Value}
theorem OwnS.form (h : OwnS w base e s p c n vs) : (p = none ∧ c = 0 ∧ n = 0 ∧ vs = []) ∨ ∃ g, p = some ⟨g, 0, none⟩ ∧ base ≤ g ∧ g < w.heap.size ∧ n ≤ c ∧ c ≤ maxLen := by
 rcases h.2 with ⟨h1, h2⟩ | ⟨g, cap, cur, hv, hb, hg, hn, hc, _, _⟩
 · left
   simp only [Value.slice.injEq] at h1
   refine ⟨h1.1, h1.2.2, h2, List.eq_nil_of_length_eq_zero ?_⟩
   rw [h.1, h2, Nat.zero_mul]
 · right
   simp only [Value.slice.injEq] at hv
   obtain ⟨rfl, _, rfl⟩ := hv
   exact ⟨g, rfl, hb, (Array.getElem?_eq_some_iff.1 hg).1, hn, hc⟩
theorem OwnS.blk_lt (h : OwnS w base e s p c n vs) (hp : p.isSome = true) : base ≤ blk p ∧ blk p < w.heap.size := by
 rcases h.form with ⟨rfl, _, _, rfl⟩ | ⟨g, rfl, h1, h2, _⟩
 · simp at hp
 · exact ⟨h1, h2⟩
theorem OwnS.mono {b' : Nat} (h : OwnS w base e s p c n vs) (hb : b' ≤ base) : OwnS w b' e s p c n vs := by
 refine ⟨h.1, ?_⟩
 rcases h.2 with h1 | ⟨g, cap, cur, hv, hbg, r⟩
 · exact .inl h1
 · exact .inr ⟨g, cap, cur, hv, by omega, r⟩
theorem OwnS.same (h : OwnS w base e s p c n vs) (hb : p.isSome = true → w'.heap[blk p]? = w.heap[blk p]?) : OwnS w' base e s p c n vs := by
 refine ⟨h.1, ?_⟩
 rcases h.2 with h1 | ⟨g, cap, cur, hv, hbg, hg, r⟩
 · exact .inl h1
 · simp only [Value.slice.injEq] at hv
   obtain ⟨rfl, h2, rfl⟩ := hv
   exact .inr ⟨g, c, cur, rfl, hbg, by rw [← hg]; exact hb rfl, r⟩
theorem OwnS.cell (h : OwnS w base e s p c n vs) {j : Nat} {u : Value} (hu : vs[j]? = some u) : w.cell? (at_ p j) = some u := by
 rcases h.form with ⟨_, _, _, rfl⟩ | ⟨g, rfl, _⟩
 · simp at hu
 · have := World.ownsRow.cells h (g := g) rfl j u hu
   rw [← this]
   unfold at_ Addr.add
   split <;> simp_all
theorem OwnS.solid (h : OwnS w base e s p c n vs) : i0x p n := by
 rcases h.form with ⟨_, _, rfl, _⟩ | ⟨g, rfl, _⟩
 · exact fun h => by simp at h
 · exact fun _ => ⟨rfl, rfl⟩
theorem OwnS.far (h : OwnS w base e s p c n vs) {b : Nat} {t : TypeId} {us : Array Value} (hX : Bt w b t us) (hne : Nat.beq t e = false) (hp : p.isSome = true) : blk p ≠ b := by
 rcases h.2 with ⟨h1, h2⟩ | ⟨g, cap, cur, hv, hb, hg, _⟩
 · simp only [Value.slice.injEq] at h1
   rw [h1.1] at hp; cases hp
 · simp only [Value.slice.injEq] at hv
   intro hE
   rw [hv.1] at hE
   have hE2 : g = b := hE
   subst hE2
   have hE3 := hg.symm.trans hX
   simp only [Option.some.injEq, Obj.cells.injEq] at hE3
   rw [hE3.2.1] at hne
   simp at hne
theorem OwnS.apart (h : OwnS w base e s p c n vs) {b2 : Nat} {k : IntKind} {e2 : TypeId} {q : Option Addr} {c2 : Nat} {xs : List Nat} (o : Own w b2 k e2 q c2 xs) (hne : Nat.beq e2 e = false) (hp : p.isSome = true) : ¬ (q.isSome = true ∧ blk q = blk p) := by
 rintro ⟨hq, he⟩
 rcases h.2 with ⟨h1, h2⟩ | ⟨g, cap, cur, hv, hb, hg, _⟩
 · simp only [Value.slice.injEq] at h1
   rw [h1.1] at hp; cases hp
 · rcases o.2 with ⟨h1, h2⟩ | ⟨g', cap', cur', hv', hb', hg', _⟩
   · simp only [Value.slice.injEq] at h1
     rw [h1.1] at hq; cases hq
   · simp only [Value.slice.injEq] at hv hv'
     rw [hv.1, hv'.1] at he
     have hE : g' = g := he
     subst hE
     have := hg.symm.trans hg'
     simp only [Option.some.injEq, Obj.cells.injEq] at this
     rw [this.2.1] at hne
     simp at hne
end
def h0q (b : Nat) (e : TypeId) (s : Nat) (p : Option Addr) (c n : Nat) (vs : List Value) : PF :=
 ⟨fun w => OwnS w b e s p c n vs, fun a => p.isSome = true ∧ blk p = a, fun _ _ h hb _ => h.same fun hp => hb _ (h.blk_lt hp).2 ⟨hp, rfl⟩, fun _ _ h hf => hf.2 ▸ (h.blk_lt hf.1).2⟩
section
variable {P : Program} {w : World}
theorem h0p {t e : TypeId} {s bytes : Nat} (hty : y0t P t e s bytes) {p : Option Addr} {n c m : Nat} (hp : i0x p n) (hm : m < n) : (VO.ix t (.slice p n c) (.int .i64 (m : Int))).sem.run P w = .ok (.pointer (some (at_ p (m * s)))) w := by
 obtain ⟨i, z, hi, -, hs, -⟩ := hty.hi
 have hel : P.elem t = e := n0o hty.ht
 show (Instr.indexAt _ _ _).run P w = _
 rw [run_indexAt_solid w t p n c .i64 m (by rw [hel]; exact hty.ht) hp, if_pos (show (0 : Int) ≤ (m : Int) ∧ (m : Int) < (n : Int) by omega)]
 have hz : (sizeOf (P.elem t)).run P w = .ok s w := by
  rw [hel]
  simp [sizeOf, typeInfo, hi, hs]
 simp only [hz, Result.andThen_ok, Int.toNat_natCast]
theorem c0k {ty : TypeId} {base : Nat} {e : TypeId} {s : Nat} {p : Option Addr} {c n : Nat} {vs : List Value} (hr : OwnS w base e s p c n vs) {k : Nat} (hT : d0k P ty k) {m : Nat} (cs : List Value) (hc : (vs.drop m).take cs.length = cs) (hn : cs.length = k) : (VO.ld ty (.pointer (some (at_ p m)))).sem.run P w = .ok (.agg cs.toArray) w := by
 obtain ⟨⟨d, hu, hd⟩, hi⟩ := hT
 show (Instr.loadAt _ _).run P w = _
 have hE : at_ p m = ⟨(at_ p m).block, (at_ p m).off, none⟩ := rfl
 rw [hE]
 refine run_loadAt_mid w _ _ ty cs d (fun j v hv => ?_) hu hd (by rw [hi, hn])
 have hj := (List.getElem?_eq_some_iff.1 hv).1
 rw [← hc, List.getElem?_take, if_pos hj, List.getElem?_drop] at hv
 have := hr.cell hv
 rw [← this]
 unfold at_
 simp only [Nat.add_assoc]
end
section
variable {P : Program} {ops : Array Oper} {rest : List Oper} {o : Oper} {a : Act} {Q : Exit → Act → World → Prop} {w : World} {K : Act → World → Prop}
theorem k1d (s x : Operand) (t ty : TypeId) {pos : String} {d : Option Tmp} {af : Array Edge} {g : Option (Nat × Bool)} (ho : o = ⟨d, .call { callee := .builtin .append, args := #[s, x], argTypes := #[t, t] }, ty, pos, af, g⟩)
 {e : TypeId} {sz bytes : Nat} (hty : y0t P t e sz bytes) (base : Nat) (p : Option Addr) (n c : Nat) (vs : List Value) (hown : OwnS w base e sz p c n vs)
 (q : Addr) (m c2 : Nat) (ys : List Value) (hl : ys.length = m * sz) (hnews : ∀ j u, ys[j]? = some u → w.cell? (q.add j) = some u) (hone : ys.all (·.oneCell') = true) (hs : a.eval s = .slice p n c) (hx : a.eval x = .slice (some q) m c2)
 (hb : n + m ≤ 1000000000) (hbase : base ≤ w.heap.size) (hw : Region.wanted o (yielded ops a.tmps) = true)
 (h : ∀ p' c' w', OwnS w' base e sz p' c' (n + m) (vs ++ ys) → w.grownBy w' (p.map (·.block)) → (p'.isSome = true → (p.isSome = true ∧ blk p' = blk p) ∨ blk p' = w.heap.size) → K (a.put d (.slice p' (n + m) c')) w') : OpW P ops Q o K a w := by
 obtain ⟨i, z, hi, hz, hs1, hbt, hzs⟩ := hty.hi
 obtain ⟨v', w', hr, hO, hg, hnn, hat⟩ := run_append_own_at (P := P) w base t ty e i z sz bytes hty.ht hi hz hs1 hbt hzs hty.pos _ _ _ hown q m c2 ys hl hnews (fun u hu => List.all_eq_true.1 hone u hu) (by simp only [maxLen]; omega)
  (by have := Nat.mul_le_mul hb hty.le; omega) hbase
 have hv : ∃ p' c', v' = .slice p' (n + m) c' := by
  rcases hO.2 with ⟨h1, h2⟩ | ⟨g, cap, cur, h1, _⟩
  · exact ⟨none, 0, by rw [h1, h2]⟩
  · exact ⟨_, _, h1⟩
 obtain ⟨p', c', rfl⟩ := hv
 have hg' : w.grownBy w' (p.map (·.block)) := by cases p <;> exact hg
 refine ⟨?_⟩
 rw [if_pos hw]
 subst ho
 unfold Oper.wp execOp
 simp only [resolve, invoke, builtin, Sem.run_bind, Sem.run_pure, Result.andThen_ok, List.map_toArray, List.map_cons, List.map_nil, hs, hx, hr]
 refine h p' c' w' hO hg' fun hp' => ?_
 cases p' with
 | none => cases hp'
 | some a' =>
  rcases hat with h1 | h1
  · cases p with
    | none => cases h1
    | some b =>
     left
     exact ⟨rfl, Option.some.inj h1⟩
  · exact .inr (Option.some.inj h1)
end
/-! ### A block that was handed in -/
theorem Bt.far {w : World} {b b' : Nat} {t t' : TypeId} {vs us : Array Value} (h : Bt w b t vs) (hX : Bt w b' t' us) (hne : Nat.beq t t' = false) : ¬ (b = b') := by
 intro e
 subst e
 have := h.symm.trans hX
 simp only [Option.some.injEq, Obj.cells.injEq] at this
 rw [this.2.1] at hne
 simp at hne
def btF (b : Nat) (t : TypeId) (vs : Array Value) : PF :=
 ⟨fun w => Bt w b t vs, fun a => b = a, fun _ _ h hb _ => (hb b h.lt rfl).trans h, fun _ _ h hf => hf ▸ h.lt⟩
theorem h1t {P : Program} {w : World} {b : Nat} {t : TypeId} {vs : Array Value} (h : Bt w b t vs) {ty k : Nat} (hT : d0k P ty k) {m : Nat} (cs : List Value) (hc : (vs.toList.drop m).take cs.length = cs) (hn : cs.length = k) : (VO.ld ty (.pointer (some (at_ (some ⟨b, 0, none⟩) m)))).sem.run P w = .ok (.agg cs.toArray) w := by
 have := w0i h hT m cs hc hn
 show (Instr.loadAt _ _).run P w = _
 unfold at_
 simpa using this
theorem r0u {α : Type} {s : Nat} {f : α → List Value} (hf : ∀ x, (f x).length = s) : ∀ {xs : List α} {i : Nat} {x : α}, xs[i]? = some x → ((xs.flatMap f).drop (i * s)).take (f x).length = f x
 | [], _, _, h => by simp at h
 | a :: l, 0, x, h => by
  simp only [List.getElem?_cons_zero, Option.some.injEq] at h
  subst h
  rw [Nat.zero_mul, List.drop_zero, List.flatMap_cons, List.take_left']
  rfl
 | a :: l, i + 1, x, h => by
  rw [List.getElem?_cons_succ] at h
  have := r0u hf h
  rw [List.flatMap_cons, Nat.add_mul, Nat.one_mul, Nat.add_comm, ← List.drop_drop, List.drop_left' (hf a)]
  exact this
theorem Kp.toBelow {u : Nat} {w w' : World} {t : TypeId} {vs : Array Value} (h : Kp [u] w w') (U : Bt w u t vs) (U' : Bt w' u t vs) : Below w.heap.size w w' :=
 ⟨h.os, h.tape, h.output, h.size, fun k hk => by
   by_cases e : k = u
   · subst e; exact Eq.trans U' (Eq.symm U)
   · exact h.block k hk (by simp [e])⟩
/-! ### Steps -/
def d1a : List Box → Bool
 | [] => true
 | b :: l => match b.ro with | true => false | false => d1a l
theorem t0q : ∀ {l : List Box}, d1a l = true → ∀ k, k < l.length → (lk bx0 l k).ro = false
 | [], _, _, h => by simp at h
 | b :: l, h, k, hk => by
  unfold d1a at h
  split at h
  · cases h
  · rename_i hb
    cases k with
    | zero => exact hb
    | succ k => exact t0q h k (by simpa using hk)
section
variable {P : Program} {Q : Exit → Act → World → Prop} {E : List Nat} {w0 : World} {A : List Nat} {fs : List PF} {W V : World} {c : Cfg}
theorem Inv.grown {W' : World} {bx : List Box} {b : Nat} {e : TypeId} {s : Nat} {p p' : Option Addr} {cc c' n n' : Nat} {vs vs' : List Value} (I : Inv E w0 A bx (h0q b e s p cc n vs :: fs) W) (hb : w0.heap.size ≤ b) (hrw : d1a bx = true)
 (hO : OwnS W' b e s p' c' n' vs') (hg : W.grownBy W' (p.map (·.block))) (hat : p'.isSome = true → (p.isSome = true ∧ blk p' = blk p) ∨ blk p' = W.heap.size) (hfar : p.isSome = true → PF.far (blk p) fs) :
 Inv E w0 A bx (h0q b e s p' c' n' vs' :: fs) W' := by
 have hrow := I.fa.1
 have hne : ∀ k, p.map (·.block) = some k → p.isSome = true ∧ blk p = k := fun k h => by
  cases p with
  | none => cases h
  | some a => exact ⟨rfl, Option.some.inj h⟩
 have keep : ∀ k, k < W.heap.size → (p.isSome = true → blk p ≠ k) → W'.heap[k]? = W.heap[k]? := fun k hk h => hg.block k hk fun e => by
  obtain ⟨h1, h2⟩ := hne k e.symm
  exact h h1 h2
 refine ⟨⟨hg.os.trans I.bel.os, hg.tape.trans I.bel.tape, hg.output.trans I.bel.output, Nat.le_trans I.bel.size hg.size, fun k hk hkE => ?_⟩, I.ge, I.nd, I.len, I.pre, fun k hk => ?_, ⟨hO, ?_⟩, fun a ha => ⟨fun hf => ?_, (I.far a ha).2⟩⟩
 · rw [keep k (Nat.lt_of_lt_of_le hk I.bel.size) fun hp => by have := (hrow.blk_lt hp).1; omega]
   exact I.bel.block k hk hkE
 · have hF : Fa A bx (lk 0 A k) := ⟨k, hk, t0q hrw k hk, rfl⟩
   have h1 := I.bt k hk
   unfold Bt at h1 ⊢
   rw [keep _ (I.lt _ hF) fun hp e => (I.far _ hF).1 ⟨hp, e⟩]
   exact h1
 · refine PF.all_keep hg.size I.fa.2 fun k hk ha => keep k hk fun hp => ha _ (hfar hp)
 · rcases hat hf.1 with ⟨hp, h⟩ | h
   · exact (I.far a ha).1 ⟨hp, h.symm.trans hf.2⟩
   · have := I.lt a ha
     have := hf.2
     omega
def apOf (c : Cfg) (A : List Nat) : Option (TypeId × Value × Value) :=
 match hdOp c with
 | some ⟨_, .call ⟨.builtin .append, ⟨[s, x]⟩, ⟨[t, t']⟩⟩, _, _, _, _⟩ => match Nat.beq t t' with
  | true => some (t, evr A c.fr s, evr A c.fr x)
  | false => none
 | _ => none
theorem zap {e : TypeId} {sz : Nat} {p : Option Addr} {cc n : Nat} {vs : List Value} (I : Inv E w0 A c.bx (h0q w0.heap.size e sz p cc n vs :: fs) W) {t : TypeId} {bytes : Nat} (hty : y0t P t e sz bytes) (k m : Nat) (news : List Nat → List Value)
 (hbox : ∀ A W, Inv E w0 A (zr P none c).bx (h0q w0.heap.size e sz p cc n vs :: fs) W → Bt W (lk 0 A k) e (news A).toArray) (hcap : n + m ≤ 1000000000)
 (hfar : ∀ A W, Inv E w0 A (zr P none c).bx (h0q w0.heap.size e sz p cc n vs :: fs) W → p.isSome = true → PF.far (blk p) fs)
 (h : ∀ A W p' c', (p'.isSome = true → PF.far (blk p') fs) → Inv E w0 A (putc (zr P none c) (.v (.slice p' (n + m) c'))).bx (h0q w0.heap.size e sz p' c' (n + m) (vs ++ news A) :: fs) W → G P Q A (putc (zr P none c) (.v (.slice p' (n + m) c'))) W)
 (hl : ∀ A, Nat.beq (news A).length (m * sz) = true := by intro _; kernel_rfl) (hone : ∀ A, (news A).all (·.oneCell') = true := by intro _; kernel_rfl)
 (ho : ∀ A, apOf (zr P none c) A = some (t, .slice p n cc, .slice (some ⟨lk 0 A k, 0, none⟩) m m) := by intro _; kernel_rfl)
 (hr : ∀ A w, (zms P none 5000 c A w).map (·.1) = (zms P none 5000 c A w).map (·.2) := by intro _ _; kernel_rfl)
 (hrw : d1a (zr P none c).bx = true := by kernel_rfl)
 (hm : ok1 (zr P none c).rg (zr P none c).bx = ok2 (zr P none c).rg := by kernel_rfl) : G P Q A c W :=
 c0f I hr fun A W I => by
  have ho2 := ho A
  have h2 := h A
  have hbox2 := hbox A W I
  have hfar2 := hfar A W I
  have hl2 := hl A
  have hone2 := hone A
  clear hr ho h hbox hfar hl hone
  generalize zr P none c = c at *
  unfold apOf hdOp at ho2
  split at ho2
  · rename_i hn'
    split at ho2
    · rename_i hbeq
      have htt := Nat.eq_of_beq_eq_true hbeq
      subst htt
      simp only [Option.some.injEq, Prod.mk.injEq] at ho2
      obtain ⟨rfl, ho1, ho2⟩ := ho2
      split at hn'
      · rename_i o' hn
        split at hn'
        · rename_i hw
          simp only [Option.some.injEq] at hn'
          subst hn'
          refine G_op (E := E) (w0 := w0) (fs := []) hn fun K hK => k1d _ _ _ _ rfl hty w0.heap.size p n cc vs I.fa.1 ⟨lk 0 A k, 0, none⟩ m m (news A) (Nat.eq_of_beq_eq_true hl2) (fun j u hu => ?_) hone2 (by rw [c0l]; exact ho1) (by rw [c0l]; exact ho2) hcap I.bel.size (by rw [g0s]; exact hw) fun p' c' W' hO hg hat => ?_
          · have := hbox2.bx.cell j
            rw [show (⟨lk 0 A k, 0, none⟩ : Addr).add j = ⟨lk 0 A k, j, none⟩ by unfold Addr.add; split <;> simp_all, this]
            simpa using hu
          · have I2 := I.grown (Nat.le_refl _) hrw hO hg hat hfar2
            have hq : p'.isSome = true → PF.far (blk p') fs := fun hp => by
             rcases hat hp with ⟨h1, h3⟩ | h1
             · rw [h3]; exact hfar2 h1
             · rw [h1]; exact PF.far_new I.fa.2
            have h := h2 W' p' c' hq I2
            unfold putc at h
            rw [hn] at h
            have := hK A W' _ c.bx (List.prefix_refl _) (I2.pick []) hm h
            rw [show Value.slice p' (n + m) c' = (SV.v (.slice p' (n + m) c')).r A from rfl, d0v]
            exact this
        · cases hn'
      · cases hn'
    · cases ho2
  · cases ho2
theorem Inv.newb {bx : List Box} (I : Inv E w0 A bx fs V) (hb : Below V.heap.size V W) {b : Nat} {t : TypeId} {cs : List SV} (hge : V.heap.size ≤ b) (hB : Bt W b t (cs.map (SV.r A)).toArray) (h1 : wfL bx.length cs = true) (h2 : wfB bx.length bx = true) :
 Inv E w0 (A ++ [b]) (bx ++ [⟨t, cs, false⟩]) fs W := by
 have I' := I.past hb
 have hl : ∀ k, k < bx.length → lk 0 (A ++ [b]) k = lk 0 A k ∧ lk bx0 (bx ++ [⟨t, cs, false⟩]) k = lk bx0 bx k := fun k h => ⟨d0e 0 (by rw [I.len]; exact h), d0e bx0 h⟩
 have hn : lk 0 (A ++ [b]) bx.length = b ∧ lk bx0 (bx ++ [⟨t, cs, false⟩]) bx.length = ⟨t, cs, false⟩ := ⟨by rw [← I.len, d0q], d0q _⟩
 have hF : ∀ a, Fa (A ++ [b]) (bx ++ [⟨t, cs, false⟩]) a → Fa A bx a ∨ a = b := fun a ⟨k, hk, hr, e⟩ => by
  rw [List.length_append, List.length_singleton] at hk
  by_cases h : k < bx.length
  · rw [(hl k h).2] at hr
    rw [(hl k h).1] at e
    exact .inl ⟨k, h, hr, e⟩
  · obtain rfl : k = bx.length := by omega
    exact .inr (e.trans hn.1)
 refine ⟨I'.bel, fun a ha => ?_, fun i j hi hj hr hne => ?_, by simp [I.len], I.pre.trans (List.prefix_append _ _), fun k hk => ?_, I'.fa, fun a ha => ?_⟩
 · rcases hF a ha with h | rfl
   · exact I.ge a h
   · exact .inl (Nat.le_trans I.bel.size hge)
 · rw [List.length_append, List.length_singleton] at hi hj
   by_cases h : i < bx.length
   · rw [(hl i h).2] at hr
     by_cases h' : j < bx.length
     · rw [(hl i h).1, (hl j h').1]
       exact I.nd i j h h' hr hne
     · obtain rfl : j = bx.length := by omega
       rw [(hl i h).1, hn.1]
       have := (I.bt i h).lt
       omega
   · obtain rfl : i = bx.length := by omega
     have h' : j < bx.length := by omega
     rw [(hl j h').1, hn.1]
     have := (I.bt j h').lt
     omega
 · rw [List.length_append, List.length_singleton] at hk
   by_cases h : k < bx.length
   · rw [(hl k h).1, (hl k h).2]
     have := I'.bt k h
     unfold Box.row at this ⊢
     rw [o0p _ I.len (n0m h2 k)]
     exact this
   · obtain rfl : k = bx.length := by omega
     rw [hn.1, hn.2]
     unfold Box.row
     simp only
     rw [o0p _ I.len h1]
     exact hB
 · rcases hF a ha with h | rfl
   · exact I'.far a h
   · have : ∀ {l : List PF}, PF.all V l → PF.far a l := fun {l} hl => by
      induction l with
      | nil => exact True.intro
      | cons f l ih => exact ⟨fun hf => by have := f.lt V _ hl.1 hf; omega, ih hl.2⟩
     exact this I.fa
theorem n1d {A' : List Nat} {c' : Cfg} (hA : A <+: A') (he : act A c.fr = act A' c'.fr) (h1 : c'.rg = c.rg) (h2 : c'.ks = c.ks) (h : G P Q A' c' W) : G P Q A c W := by
 refine ⟨?_⟩
 have h := h.out
 unfold h1g at *
 obtain ⟨fr, bx, rg, ks⟩ := c
 obtain ⟨fr', bx', rg', ks'⟩ := c'
 simp only at *
 subst h1 h2
 rw [he]
 cases rg' with
 | off => exact h
 | pl => exact h
 | dr ops A0 m fuel listed => exact fun pre => h (pre.on hA)
 | one ops A0 m fuel listed i => exact fun pre => h (pre.on hA)
 | ret => exact h
theorem f1z {bxv : List Box} (I : Inv E w0 A bxv fs V) (hb : Below V.heap.size V W) (k b : Nat) (t : TypeId) (cs : List Value) (hge : V.heap.size ≤ b) (hB : Bt W b t cs.toArray)
 (h : ∀ A', lk 0 A' k = b → Inv E w0 A' (c.bx ++ [⟨t, cs.map .v, false⟩]) fs W → G P Q A' ⟨c.fr, c.bx ++ [⟨t, cs.map .v, false⟩], c.rg, c.ks⟩ W)
 (hbv : bxv = c.bx := by kernel_rfl) (hk : c.bx.length = k := by kernel_rfl) (h1 : wfL c.bx.length (cs.map SV.v) = true := by kernel_rfl) (h2 : wfB c.bx.length c.bx = true := by kernel_rfl) (h3 : wfL c.bx.length c.fr = true := by kernel_rfl) : G P Q A c W := by
 subst hbv
 have hcs : ∀ A, (cs.map SV.v).map (SV.r A) = cs := fun A => by
  rw [List.map_map]
  exact List.map_id _
 have I2 := I.newb hb (cs := cs.map SV.v) hge (by rw [hcs]; exact hB) h1 h2
 refine n1d (A' := A ++ [b]) (c' := ⟨c.fr, c.bx ++ [⟨t, cs.map .v, false⟩], c.rg, c.ks⟩) (List.prefix_append _ _) ?_ rfl rfl (h _ ?_ I2)
 · unfold act
   simp only
   rw [o0p _ I.len h3]
 · rw [← hk, ← I.len, d0q]
theorem g1a (I : Inv E w0 A c.bx fs W) (d k b : Nat) (hk : lk 0 A k = b) (h : ∀ A W, Inv E w0 A (putc (zr P (some d) c) (.p k 0)).bx fs W → G P Q A (putc (zr P (some d) c) (.p k 0)) W)
 (hkl : Nat.ble (k + 1) c.bx.length = true := by kernel_rfl)
 (hv : y0d P (zr P (some d) c) = some (.val (.v (.pointer (some ⟨b, 0, none⟩)))) := by kernel_rfl)
 (hc : ∀ A w, (g0t P (zr P (some d) c) A w).map (·.1) = (g0t P (zr P (some d) c) A w).map (·.2) := by intro _ _; kernel_rfl)
 (hr : ∀ A w, (zms P (some d) 5000 c A w).map (·.1) = (zms P (some d) 5000 c A w).map (·.2) := by intro _ _; kernel_rfl)
 (hm : ok1 (zr P (some d) c).rg (zr P (some d) c).bx = ok2 (zr P (some d) c).rg := by kernel_rfl) : G P Q A c W := by
 refine l0l 5000 I (fun A w => f0y (hr A w)) fun A' W' hA I' => ?_
 rw [← l1t] at I' ⊢
 refine l1v I' _ (.p k 0) ?_ (h A' W') hv (fun A w => f0y (hc A w)) hm
 show Value.pointer (some ⟨b, 0, none⟩) = .pointer (some ⟨lk 0 A' k, 0, none⟩)
 rw [w0m hA (by rw [I.len]; exact i0c hkl), hk]
theorem j0s {α : Type} (d : α) {l : List α} {n k : Nat} (h : k < n) : lk d (l.take n) k = lk d l k := by
 rw [e0o, e0o, List.getElem?_take, if_pos h]
theorem Inv.dropB {bx : List Box} (I : Inv E w0 A bx fs W) (n : Nat) (hE : E.length ≤ n) (hw : wfB n (bx.take n) = true) (hn : n ≤ bx.length) : Inv E w0 (A.take n) (bx.take n) fs W := by
 have hl : (bx.take n).length = n := by rw [List.length_take]; omega
 have hla : (A.take n).length = n := by rw [List.length_take, I.len]; omega
 have hF : ∀ a, Fa (A.take n) (bx.take n) a → Fa A bx a := fun a ⟨k, hk, hr, e⟩ => by
  rw [hl] at hk
  rw [j0s _ hk] at hr e
  exact ⟨k, by omega, hr, e⟩
 refine ⟨I.bel, fun a ha => I.ge a (hF a ha), fun i j hi hj hr hne => ?_, by rw [hl, hla], ?_, fun k hk => ?_, I.fa, fun a ha => I.far a (hF a ha)⟩
 · rw [hl] at hi hj
   rw [j0s _ hi] at hr
   rw [j0s _ hi, j0s _ hj]
   exact I.nd i j (by omega) (by omega) hr hne
 · exact List.prefix_take_iff.2 ⟨I.pre, hE⟩
 · rw [hl] at hk
   have h1 := I.bt k (by omega)
   rw [j0s _ hk, j0s _ hk]
   unfold Box.row at h1 ⊢
   have hw2 := n0m hw k
   rw [j0s _ hk] at hw2
   have h2 := o0p (A := A.take n) (A.drop n) hla hw2
   rw [List.take_append_drop] at h2
   rw [← h2]
   exact h1
theorem p0w (n : Nat) (I : Inv E w0 A c.bx fs W) (J : Act → World → Prop) {fr : (Nat → Value) → List SV} {bx : (Nat → Value) → List Box} (h : ∀ A W U, Inv E w0 A (bx U) fs W → J (act A (fr U)) W)
 (hr : ∀ A w, (zms P none 5000 c A w).map (·.1) = (zms P none 5000 c A w).map (·.2) := by intro _ _; kernel_rfl)
 (hf : ∀ A, (zr P none c).fr.map (SV.r A) = (fr (uOf (zr P none c) A)).map (SV.r A) := by intro _; kernel_rfl)
 (hb : ∀ A, (zr P none c).bx.take n = bx (uOf (zr P none c) A) := by intro _; kernel_rfl)
 (hw : ∀ U, wfL n (fr U) = true := by intro _; kernel_rfl) (hw2 : wfB n ((zr P none c).bx.take n) = true := by kernel_rfl) (hn : Nat.ble n (zr P none c).bx.length = true := by kernel_rfl) (hE : Nat.ble E.length n = true := by kernel_rfl)
 (hs : h1n (zr P none c) = some J := by kernel_rfl) : G P Q A c W :=
 c0f I hr fun A W I => by
  have I2 := I.dropB n (Nat.le_of_ble_eq_true hE) hw2 (Nat.le_of_ble_eq_true hn)
  rw [hb A] at I2
  have h := h (A.take n) W (uOf (zr P none c) A) I2
  have hf := hf A
  have hla : (A.take n).length = n := by rw [List.length_take, I.len]; exact Nat.min_eq_left (Nat.le_of_ble_eq_true hn)
  have h3 := o0p (A := A.take n) (A.drop n) hla (hw (uOf (zr P none c) A))
  rw [List.take_append_drop] at h3
  unfold act at h
  rw [← h3, ← hf] at h
  clear hb hf h3 hw hw2 hn I2
  generalize zr P none c = c at *
  refine ⟨?_⟩
  obtain ⟨cf, cb, rg, ks⟩ := c
  cases rg with
  | pl => cases hs
  | dr => cases hs
  | one => cases hs
  | ret => cases hs
  | off =>
   cases ks with
   | nil => cases hs
   | cons k ks =>
    cases k with
    | block => cases hs
    | code => cases hs
    | stop J' =>
     obtain rfl : J' = J := Option.some.inj hs
     exact h
theorem zgfe (I : Inv E w0 A c.bx fs W) (k : Nat) (t : TypeId) {f : FuncId} {args : List Nat → World → Array Value} {post : List Nat → World → Ending → World → Prop} (hf : ∀ args w, (callFunc f args).run P w = .ok (.enter f args) w)
 (hc : ∀ A W, Inv E w0 A (zr P none c).bx fs W → Calls P f (args A W) W (post A W))
 (h : ∀ A V, Inv E w0 A (zr P none c).bx fs V → w0.heap.size ≤ V.heap.size → ∀ K : Value → World → Prop, (∀ v cs W, Kp [lk 0 A k] V W → Bt W (lk 0 A k) t (cs.map (SV.r A)).toArray → (Inv E w0 A (u0v (zr P none c) k cs (.v v)).bx fs W → G P Q A (u0v (zr P none c) k cs (.v v)) W) → K v W) → ∀ e W, post A V e W → ∃ v, e = .returned v ∧ K v W)
 (ho : ∀ A w, w0n (zr P none c) A = some (.func (.func f) #[] #[], args A w) := by intro _ _; kernel_rfl)
 (hr : ∀ A w, (zms P none 5000 c A w).map (·.1) = (zms P none 5000 c A w).map (·.2) := by intro _ _; kernel_rfl)
 (hm : ∀ cs, ok1 (zr P none c).rg (setL (zr P none c).bx k ⟨(lk bx0 (zr P none c).bx k).t, cs, false⟩) = ok2 (zr P none c).rg := by intro _; kernel_rfl) (hk : wrOk (zr P none c) k = true := by kernel_rfl)
 (ht : (lk bx0 (zr P none c).bx k).t = t := by kernel_rfl) : G P Q A c W :=
 c0f I hr fun A V I => h1j I k (hc A V I) (by rw [ht]; exact h A V I I.bel.size) (w0o (ho A V) (hf _)) hm hk
theorem Inv.owns {bx : List Box} (I : Inv E w0 A bx fs W) {b : Nat} {e : TypeId} {s : Nat} {p : Option Addr} {cc n : Nat} {vs : List Value} (o : OwnS W b e s p cc n vs) (hb : w0.heap.size ≤ b := by first | exact Nat.le_refl _ | assumption | omega) (hne : s0w e bx = true := by kernel_rfl) :
 Inv E w0 A bx (h0q w0.heap.size e s p cc n vs :: fs) W :=
 I.add (h0q w0.heap.size e s p cc n vs) (o.mono hb) fun a ha hf => by
  obtain ⟨j, hj, _, rfl⟩ := ha
  exact o.far (I.bt j hj) (g0v hne j hj) hf.1 hf.2
end
end Go.Slip
namespace Go.Proofs.YtlcdfnaaenibgaaGreatDoor
open Go.RowKit Go.Slip
theorem TabW.far {w : World} {b : Nat} {t : TypeId} {vs : Array Value} (h : TabW w) (hX : Bt w b t vs) (hne : (match vs[0]? with | some (.int .u8 _) => false | _ => true) = true) : ¬ (0 = b) := by
 intro e
 subst e
 have h1 := h.1 0 (by omega)
 rw [hX.bx.cell 0] at h1
 rw [h1] at hne
 cases hne
def famB (f : Fm) : Int := if f.fam = 1 then 65 else if f.fam = 2 then 66 else 67
abbrev uS (f : Fm) (n way k : Int) : List SV := [.v (.int .i64 n), .v (.int .i64 way), .v (.int .i64 f.g.rad), .v (.int .i64 f.g.digs), .v (.int .i64 f.g.lo), .v (.int .i64 f.g.hi), .v (.bool f.g.grad), .v (.int .u8 (famB f)), .v (.int .i64 k)]
theorem c0s (f : Fm) (n way a b c : Int) (u : Nat) (w : World) (U : Bt w u 139 #[.int .i64 n, .int .i64 way, .int .i64 f.g.rad, .int .i64 f.g.digs, .int .i64 f.g.lo, .int .i64 f.g.hi, .bool f.g.grad, .int .u8 (famB f), .int .i64 a]) (hc : bits .or .i64 a b = c) :
 Calls Tryz.prog 113 #[.pointer (some ⟨u, 0, none⟩), .int .i64 b] w fun e w' => e = .returned (.tuple #[]) ∧ Kp [u] w w' ∧ Bt w' u 139 #[.int .i64 n, .int .i64 way, .int .i64 f.g.rad, .int .i64 f.g.digs, .int .i64 f.g.lo, .int .i64 f.g.hi, .bool f.g.grad, .int .u8 (famB f), .int .i64 c] := by
 have I := Inv.startW w u 139 (uS f n way a) [] U True.intro True.intro
 refine a0d [.p 0 0, .v (.int .i64 b)] I Tryz.func113 ?_
 refine zbin I 9 _ (fun _ _ _ _ _ => m1b .i64 (a) (b) (c) (hc)) fun Al W I => ?_
 exact zret I fun Al W I => ⟨rfl, I.bel, I.boxE 139 _⟩
theorem d1b (f : Fm) (n way a : Int) (u : Nat) (w : World) (U : Bt w u 139 #[.int .i64 n, .int .i64 way, .int .i64 f.g.rad, .int .i64 f.g.digs, .int .i64 f.g.lo, .int .i64 f.g.hi, .bool f.g.grad, .int .u8 (famB f), .int .i64 a]) :
 Calls Tryz.prog 118 #[.pointer (some ⟨u, 0, none⟩)] w fun e w' => e = .returned (.int .i64 ((wid f.g : Nat) : Int)) ∧ Below w.heap.size w w' := by
 by_cases h : f.g.rad = 16
 · have hw : wid f.g = 4 := by unfold wid; rw [if_pos h]
   rw [hw]
   have I := Inv.startR w [u] [⟨139, (uS f n way a), true⟩] [] ⟨U, True.intro⟩ True.intro
   refine a0d [.p 0 0] I Tryz.func118 ?_
   refine zb I 8 (f.g.rad == 16) (true) (beq_iff_eq.2 h) fun Al W I => ?_
   exact zret I fun Al W I => ⟨rfl, I.below⟩
 · have hw : wid f.g = 1 := by unfold wid; rw [if_neg h]
   rw [hw]
   have I := Inv.startR w [u] [⟨139, (uS f n way a), true⟩] [] ⟨U, True.intro⟩ True.intro
   refine a0d [.p 0 0] I Tryz.func118 ?_
   refine zb I 8 (f.g.rad == 16) (false) (bFn h) fun Al W I => ?_
   exact zret I fun Al W I => ⟨rfl, I.below⟩
theorem d1c (f : Fm) (n way a : Int) (g : Bool) (u : Nat) (w : World) (U : Bt w u 139 #[.int .i64 n, .int .i64 way, .int .i64 f.g.rad, .int .i64 f.g.digs, .int .i64 f.g.lo, .int .i64 f.g.hi, .bool f.g.grad, .int .u8 (famB f), .int .i64 a]) :
 Calls Tryz.prog 61 #[.pointer (some ⟨u, 0, none⟩), .bool g] w fun e w' => e = .returned (.agg #[.int .i64 1, .bool (g && decide (f.fam = 1)), .slice none 0 0, .int .i64 0]) ∧ Below w.heap.size w w' := by
 have hB : (famB f == 65) = decide (f.fam = 1) := by
  unfold famB
  by_cases h1 : f.fam = 1
  · simp [h1]
  · by_cases h2 : f.fam = 2 <;> simp [h1, h2]
 cases g
 · have I := Inv.startR w [u] [⟨139, (uS f n way a), true⟩] [] ⟨U, True.intro⟩ True.intro
   refine a0d [.p 0 0, .v (.bool false)] I Tryz.func61 ?_
   exact zret I fun Al W I => ⟨rfl, I.below⟩
 · generalize decide (f.fam = 1) = q at *
   have I := Inv.startR w [u] [⟨139, (uS f n way a), true⟩] [] ⟨U, True.intro⟩ True.intro
   refine a0d [.p 0 0, .v (.bool true)] I Tryz.func61 ?_
   refine zb I 11 ((famB f) == 65) (q) (hB) fun Al W I => ?_
   exact zret I fun Al W I => ⟨rfl, I.below⟩
theorem g1b : Tryz.prog.underlying 192 = some (.map 5 3) := by kernel_rfl
def o0k : Array MapEntry := #[⟨.int .u8 65, .int .i64 4, 0⟩, ⟨.int .u8 66, .int .i64 1, 1⟩, ⟨.int .u8 67, .int .i64 5, 2⟩]
theorem k0y (f : Fm) (n way a : Int) (u : Nat) (w : World) (U : Bt w u 139 #[.int .i64 n, .int .i64 way, .int .i64 f.g.rad, .int .i64 f.g.digs, .int .i64 f.g.lo, .int .i64 f.g.hi, .bool f.g.grad, .int .u8 (famB f), .int .i64 a]) :
 Calls Tryz.prog 114 #[.pointer (some ⟨u, 0, none⟩)] w fun e w' => e = .returned (.agg #[.int .i64 (f.nothM.cls : Int), .bool false, .slice none 0 0, .int .i64 0]) ∧ Below w.heap.size w w' := by
 have hmm := @run_makeMap Tryz.prog
 go_enter Tryz.func114, Tryz.ntmps114
 have hs : (w.alloc (Obj.cells #[Value.int IntKind.i64 0, Value.bool false, Value.slice none 0 0, Value.int IntKind.i64 0] 70)).heap.size = w.heap.size + 1 := by show (w.heap.push _).size = _; exact Array.size_push ..
 have h1 := e0j (w := w.alloc (Obj.cells #[Value.int IntKind.i64 0, Value.bool false, Value.slice none 0 0, Value.int IntKind.i64 0] 70)) g1b Tryz.underlying5 #[] 0 65 (.int .i64 4) rfl
 have h2 := e0j (w := w.alloc (Obj.cells #[Value.int IntKind.i64 0, Value.bool false, Value.slice none 0 0, Value.int IntKind.i64 0] 70)) g1b Tryz.underlying5 #[⟨.int .u8 65, .int .i64 4, 0⟩] 1 66 (.int .i64 1) rfl
 have h3 := e0j (w := w.alloc (Obj.cells #[Value.int IntKind.i64 0, Value.bool false, Value.slice none 0 0, Value.int IntKind.i64 0] 70)) g1b Tryz.underlying5 #[⟨.int .u8 65, .int .i64 4, 0⟩, ⟨.int .u8 66, .int .i64 1, 1⟩] 2 67 (.int .i64 5) rfl
 rw [hs] at h1 h2 h3
 have U3 : ∀ es c, Bt ((w.alloc (Obj.cells #[Value.int IntKind.i64 0, Value.bool false, Value.slice none 0 0, Value.int IntKind.i64 0] 70)).alloc (Obj.map es c)) u 139 #[.int .i64 n, .int .i64 way, .int .i64 f.g.rad, .int .i64 f.g.digs, .int .i64 f.g.lo, .int .i64 f.g.hi, .bool f.g.grad, .int .u8 (famB f), .int .i64 a] := fun es c => U.past (((Below.refl _ _).alloc (Nat.le_refl _) _).alloc (by rw [hs]; omega) _)
 have hL := (U3 o0k 3).bx.c 7 (v := .int .u8 (famB f)) rfl
 have hM : ((w.alloc (Obj.cells #[Value.int IntKind.i64 0, Value.bool false, Value.slice none 0 0, Value.int IntKind.i64 0] 70)).alloc (Obj.map o0k 3)).heap[w.heap.size + 1]? = some (.map o0k 3) := by
  rw [← hs]; show ((World.alloc _ _).heap.push _)[_]? = _; exact Array.getElem?_push_size
 have hF : ∃ i, Instr.findNow (.int .u8) (.int .u8 (famB f)) o0k.toList 0 = some (some (i, .int .i64 (f.nothM.cls : Int))) := by
  unfold famB Fm.nothM
  by_cases h1 : f.fam = 1
  · rw [if_pos h1, if_pos h1]; exact ⟨0, rfl⟩
  · rw [if_neg h1, if_neg h1]
    by_cases h2 : f.fam = 2
    · rw [if_pos h2, if_pos h2]; exact ⟨1, rfl⟩
    · rw [if_neg h2, if_neg h2]; exact ⟨2, rfl⟩
 obtain ⟨i, hF⟩ := hF
 have hK := j0d g1b Tryz.underlying5 hM (famB f) hF
 simp only [o0k] at hL hK
 clear hM hF U3
 go_wp2_with fail
 have hC : Bt ((w.alloc (Obj.cells #[.int .i64 (f.nothM.cls : Int), .bool false, .slice none 0 0, .int .i64 0] 70)).alloc (Obj.map o0k 3)) w.heap.size 70 #[.int .i64 (f.nothM.cls : Int), .bool false, .slice none 0 0, .int .i64 0] := by
  show ((w.heap.push _).push _)[_]? = _
  rw [Array.getElem?_push_lt (by rw [Array.size_push]; omega)]
  simp
 simp only [o0k] at hC
 have ⟨b0, b1, b2, b3⟩ := hC.bx.e4
 refine bodyPost_ret (v := .agg #[.int .i64 (f.nothM.cls : Int), .bool false, .slice none 0 0, .int .i64 0]) (by simp [results, Tryz.results114, go_sem, b0, b1, b2, b3]) rfl ⟨rfl, ?_⟩
 refine ((Below.refl _ _).alloc (Nat.le_refl _) _).alloc ?_ _
 show _ ≤ (w.heap.push _).size
 rw [Array.size_push]; omega
def k1e (w : World) (v : Vl) (en : Ending) (w' : World) : Prop :=
 ∃ p c, en = .returned (.agg #[.int .i64 (v.cls : Int), .bool v.neg, .slice p (dig B32 v.d).length c, .int .i64 v.pow]) ∧ Own w' w.heap.size .u32 160 p c (dig B32 v.d) ∧ Below w.heap.size w w'
theorem g0z (f : Fm) (n way a : Int) (g : Bool) (u : Nat) (w : World) (U : Bt w u 139 #[.int .i64 n, .int .i64 way, .int .i64 f.g.rad, .int .i64 f.g.digs, .int .i64 f.g.lo, .int .i64 f.g.hi, .bool f.g.grad, .int .u8 (famB f), .int .i64 a]) (hd : 0 ≤ f.g.digs ∧ f.g.digs ≤ 1000) :
 Calls Tryz.prog 124 #[.pointer (some ⟨u, 0, none⟩), .bool g] w (k1e w ⟨2, g, 2 ^ (wid f.g * f.g.digs.toNat) - 1, f.g.hi⟩) := by
 have wp := b0j f.g
 have lu := U.lt
 have hmw : ((wid f.g * f.g.digs.toNat : Nat) : Int) = (wid f.g : Nat) * f.g.digs := by rw [Int.natCast_mul, Int.toNat_of_nonneg hd.1]
 have hmb : wid f.g * f.g.digs.toNat ≤ 4 * 1000 := Nat.mul_le_mul wp.2 (by omega)
 have l1 : (dig B32 1).length ≤ 1 := by rw [a0h a0b]; unfold B32; omega
 have l2 : (dig B32 (2 ^ (wid f.g * f.g.digs.toNat))).length ≤ 126 := a0y (n := wid f.g * f.g.digs.toNat + 1) (k := 126) (Nat.pow_lt_pow_right (a := 2) (by omega) (by omega)) (by omega)
 have h1 := Nat.one_le_two_pow (n := wid f.g * f.g.digs.toNat)
 have HW := fun W u hU => hi0 (d1b f n way a u W hU)
 generalize wid f.g * f.g.digs.toNat = m at *
 generalize hx : 2 ^ m = x at *
 have HX := hi0 hx
 clear hx
 have HM := hi0 hmw
 clear hmw
 have I := Inv.startR w [u] [⟨139, (uS f n way a), true⟩] [] ⟨U, True.intro⟩ True.intro
 refine a0d [.p 0 0, .v (.bool g)] I Tryz.func124 ?_
 refine zg I (fun Al W I => (HW W _ (I.box 0 139 _)).out) fun Al V Iv _ hB _ kz => ?_
 rintro _ W ⟨rfl, hb⟩
 refine ⟨_, rfl, kz _ _ hb fun I => ?_⟩
 refine zd [] I fun Al W I => ?_
 refine zk [1, 2, 3, 4, 5, 6] I fun I => ?_
 refine zki 7 I .i64 (((wid f.g : Nat) : Int) * f.g.digs) ((m : Int)) ((by rw [HM.out]; exact IntWalk.i64_in _ (by rw [← HM.out]; omega))) fun I => ?_
 refine zo 0 I fun I => ?_
 refine zg I (fun Al W I => have hzW := I.bel.size; sof 1 1 rfl (by omega) W) fun Al V Iv _ hB _ kz => ?_
 rintro _ W ⟨p9, c9, rfl, o9, hb⟩
 refine ⟨_, rfl, kz _ _ hb fun I => ?_⟩
 have I := I.own o9
 refine zo 8 I fun I => ?_
 refine zg I (fun Al W I => have hzW := I.bel.size; sshl p9 _ c9 1 m x _ W I.fa.1.rd rfl (by omega) (by omega) rfl (by rw [HX.out]; omega)) fun Al V Iv _ hB _ kz => ?_
 rintro _ W ⟨p17, c17, rfl, o17, hb⟩
 refine ⟨_, rfl, kz _ _ hb fun I => ?_⟩
 have I := I.own o17
 refine zo 9 I fun I => ?_
 refine zg I (fun Al W I => have hzW := I.bel.size; sof 1 1 rfl (by omega) W) fun Al V Iv _ hB _ kz => ?_
 rintro _ W ⟨p18, c18, rfl, o18, hb⟩
 refine ⟨_, rfl, kz _ _ hb fun I => ?_⟩
 have I := I.own o18
 refine zo 10 I fun I => ?_
 refine zg I (fun Al W I => have hzW := I.bel.size; ssub p17 p18 _ _ c17 c18 x 1 (x - 1) W I.fa.2.1.rd I.fa.1.rd rfl rfl (by omega) (by omega) rfl) fun Al V Iv _ hB _ kz => ?_
 rintro _ W ⟨p19, c19, rfl, o19, hb⟩
 refine ⟨_, rfl, kz _ _ hb fun I => ?_⟩
 have I := I.own o19
 refine zk [11] I fun I => ?_
 exact zret I fun Al W I => ⟨p19, c19, rfl, I.fa.1.mono (by omega), I.below⟩
def m0c (f : Fm) (n way c : Int) (u : Nat) (w : World) (v : Vl) (en : Ending) (w' : World) : Prop :=
 ∃ p k, en = .returned (.agg #[.int .i64 (v.cls : Int), .bool v.neg, .slice p (dig B32 v.d).length k, .int .i64 v.pow]) ∧ Own w' w.heap.size .u32 160 p k (dig B32 v.d) ∧ Kp [u] w w' ∧ Bt w' u 139 #[.int .i64 n, .int .i64 way, .int .i64 f.g.rad, .int .i64 f.g.digs, .int .i64 f.g.lo, .int .i64 f.g.hi, .bool f.g.grad, .int .u8 (famB f), .int .i64 c]
theorem g1c (f : Fm) (n way a c : Int) (g : Bool) (u : Nat) (w : World) (U : Bt w u 139 #[.int .i64 n, .int .i64 way, .int .i64 f.g.rad, .int .i64 f.g.digs, .int .i64 f.g.lo, .int .i64 f.g.hi, .bool f.g.grad, .int .u8 (famB f), .int .i64 a]) (hd : 0 ≤ f.g.digs ∧ f.g.digs ≤ 1000) (hc : bits .or .i64 a 5 = c) (h2 : f.fam = 2) :
 Calls Tryz.prog 150 #[.pointer (some ⟨u, 0, none⟩), .bool g] w (m0c f n way c u w ⟨2, g, 2 ^ (wid f.g * f.g.digs.toNat) - 1, f.g.hi⟩) := by
 have hF : famB f = 66 := by unfold famB; rw [if_neg (by omega), if_pos h2]
 have HR := fun W u hU => hi0 (c0s f n way a 5 c u W hU hc)
 have HG := fun W u hU => hi0 (g0z f n way c g u W hU hd)
 generalize 2 ^ (wid f.g * f.g.digs.toNat) - 1 = m at *
 have I := Inv.startW w u 139 (uS f n way a) [] U True.intro True.intro
 refine a0d [.p 0 0, .v (.bool g)] I Tryz.func150 ?_
 refine zge I 0 139 (fun Al W I => (HR W _ (I.box 0 139 _)).out) fun Al V Iv _ _ kz => ?_
 rintro _ W ⟨rfl, hO, hB⟩
 refine ⟨_, rfl, kz _ (uS f n way c) _ hO hB fun I => ?_⟩
 refine zb I 13 ((famB f) == 66) (true) (beq_iff_eq.2 hF) fun Al W I => ?_
 refine zg I (fun Al W I => (HG W _ (I.box 0 139 _)).out) fun Al V Iv _ hB _ kz => ?_
 rintro _ W ⟨p16, c16, rfl, o16, hb⟩
 refine ⟨_, rfl, kz _ _ hb fun I => ?_⟩
 have I := I.own o16
 exact zret I fun Al W I => ⟨p16, c16, rfl, I.fa.1.mono (by omega), I.bel, I.boxE 139 _⟩
theorem d0n {f : Fm} {n way c : Int} {u k : Nat} {g : Bool} {w w' : World} {en : Ending} (h : en = .returned (.agg #[.int .i64 (k : Int), .bool g, .slice none 0 0, .int .i64 0])) (hk : Kp [u] w w') (hb : Bt w' u 139 #[.int .i64 n, .int .i64 way, .int .i64 f.g.rad, .int .i64 f.g.digs, .int .i64 f.g.lo, .int .i64 f.g.hi, .bool f.g.grad, .int .u8 (famB f), .int .i64 c]) : m0c f n way c u w ⟨k, g, 0, 0⟩ en w' := by
 refine ⟨none, 0, ?_, ?_, hk, hb⟩
 · rw [h, a0c]; rfl
 · show Own _ _ _ _ _ _ (dig B32 0); rw [a0c]; exact Own.nil _ _ _ _
theorem g1d (f : Fm) (n way a c : Int) (g : Bool) (u : Nat) (w : World) (U : Bt w u 139 #[.int .i64 n, .int .i64 way, .int .i64 f.g.rad, .int .i64 f.g.digs, .int .i64 f.g.lo, .int .i64 f.g.hi, .bool f.g.grad, .int .u8 (famB f), .int .i64 a]) (hc : bits .or .i64 a 5 = c) (h1 : f.fam ≠ 1) (h2 : f.fam ≠ 2) :
 Calls Tryz.prog 150 #[.pointer (some ⟨u, 0, none⟩), .bool g] w (m0c f n way c u w ⟨f.nothM.cls, false, 0, 0⟩) := by
 have hF : famB f = 67 := by unfold famB; rw [if_neg h1, if_neg h2]
 have HR := fun W u hU => hi0 (c0s f n way a 5 c u W hU hc)
 have HG := fun W u hU => hi0 (k0y f n way c u W hU)
 generalize f.nothM.cls = k at *
 have I := Inv.startW w u 139 (uS f n way a) [] U True.intro True.intro
 refine a0d [.p 0 0, .v (.bool g)] I Tryz.func150 ?_
 refine zge I 0 139 (fun Al W I => (HR W _ (I.box 0 139 _)).out) fun Al V Iv _ _ kz => ?_
 rintro _ W ⟨rfl, hO, hB⟩
 refine ⟨_, rfl, kz _ (uS f n way c) _ hO hB fun I => ?_⟩
 refine zb I 13 ((famB f) == 66) (false) (bFn (by rw [hF]; decide)) fun Al W I => ?_
 refine zb I 18 ((famB f) == 67) (true) (beq_iff_eq.2 hF) fun Al W I => ?_
 refine zg I (fun Al W I => (HG W _ (I.box 0 139 _)).out) fun Al V Iv _ hB _ kz => ?_
 rintro _ W ⟨rfl, hb⟩
 refine ⟨_, rfl, kz _ _ hb fun I => ?_⟩
 exact zret I fun Al W I => d0n rfl I.bel (I.boxE 139 _)
theorem i0k (g : Bool) (w : World) : Calls Tryz.prog 90 #[.bool g] w fun e w' => e = .returned (.agg #[.int .i64 3, .bool g, .slice none 0 0, .int .i64 0]) ∧ Below w.heap.size w w' := by
 have I := Inv.start w [] True.intro
 refine a0d [.v (.bool g)] I Tryz.func90 ?_
 exact zret I fun Al W I => ⟨rfl, I.below⟩
theorem i0l (k : Nat) (g : Bool) (p : Option Addr) (l c : Nat) (pw : Int) (w : World) : Calls Tryz.prog 52 #[.agg #[.int .i64 (k : Int), .bool g, .slice p l c, .int .i64 pw]] w fun e w' => e = .returned (.bool (decide (k = 4) || decide (k = 5))) ∧ Below w.heap.size w w' := by
 have e4 : ((k : Int) == 4) = decide (k = 4) := by rw [Bool.eq_iff_iff]; simp; omega
 have e5 : ((k : Int) == 5) = decide (k = 5) := by rw [Bool.eq_iff_iff]; simp; omega
 generalize decide (k = 5) = q at *
 by_cases h : k = 4
 · rw [decide_eq_true h] at e4 ⊢
   have I := Inv.start w [] True.intro
   refine a0d [.v (.agg #[.int .i64 (k : Int), .bool g, .slice p l c, .int .i64 pw])] I Tryz.func52 ?_
   refine zb I 5 ((k : Int) == 4) (true) (e4) fun Al W I => ?_
   exact zret I (v := fun Al => .bool true) fun Al W I => ⟨by rw [Bool.true_or], I.below⟩
 · rw [decide_eq_false h] at e4 ⊢
   have I := Inv.start w [] True.intro
   refine a0d [.v (.agg #[.int .i64 (k : Int), .bool g, .slice p l c, .int .i64 pw])] I Tryz.func52 ?_
   refine zb I 5 ((k : Int) == 4) (false) (e4) fun Al W I => ?_
   refine zb I 9 ((k : Int) == 5) (q) (e5) fun Al W I => ?_
   exact zret I (v := fun Al => .bool q) fun Al W I => ⟨by rw [Bool.false_or], I.below⟩
theorem a0g (k : Nat) (g : Bool) (p : Option Addr) (l c : Nat) (pw : Int) (w : World) : Calls Tryz.prog 69 #[.agg #[.int .i64 (k : Int), .bool g, .slice p l c, .int .i64 pw]] w fun e w' => e = .returned (.bool (decide (k = 3))) ∧ Below w.heap.size w w' := by
 have e : ((k : Int) == 3) = decide (k = 3) := by rw [Bool.eq_iff_iff]; simp; omega
 have I := Inv.start w [] True.intro
 refine a0d [.v (.agg #[.int .i64 (k : Int), .bool g, .slice p l c, .int .i64 pw])] I Tryz.func69 ?_
 exact zret I fun Al W I => ⟨congrArg (fun b => Ending.returned (.bool b)) e, I.below⟩
theorem e0d (k : Nat) (g : Bool) (p : Option Addr) (l c : Nat) (pw : Int) (w : World) : Calls Tryz.prog 89 #[.agg #[.int .i64 (k : Int), .bool g, .slice p l c, .int .i64 pw]] w fun e w' => e = .returned (.bool (decide (k = 1))) ∧ Below w.heap.size w w' := by
 have e : ((k : Int) == 1) = decide (k = 1) := by rw [Bool.eq_iff_iff]; simp; omega
 have I := Inv.start w [] True.intro
 refine a0d [.v (.agg #[.int .i64 (k : Int), .bool g, .slice p l c, .int .i64 pw])] I Tryz.func89 ?_
 exact zret I fun Al W I => ⟨congrArg (fun b => Ending.returned (.bool b)) e, I.below⟩
theorem g1e (f : Fm) (n way a c : Int) (g : Bool) (u : Nat) (w : World) (U : Bt w u 139 #[.int .i64 n, .int .i64 way, .int .i64 f.g.rad, .int .i64 f.g.digs, .int .i64 f.g.lo, .int .i64 f.g.hi, .bool f.g.grad, .int .u8 (famB f), .int .i64 a]) (hd : 0 ≤ f.g.digs ∧ f.g.digs ≤ 1000) (hc : bits .or .i64 a 5 = c) (h1 : f.fam = 1) (hw : 1 ≤ way ∧ way ≤ 5) :
 Calls Tryz.prog 150 #[.pointer (some ⟨u, 0, none⟩), .bool g] w (m0c f n way c u w (if way ≤ 2 ∨ (way = 4 ∧ g = false) ∨ (way = 5 ∧ g = true) then ⟨3, g, 0, 0⟩ else ⟨2, g, 2 ^ (wid f.g * f.g.digs.toNat) - 1, f.g.hi⟩)) := by
 have hF : famB f = 65 := by unfold famB; rw [if_pos h1]
 rcases (show way = 1 ∨ way = 2 ∨ way = 3 ∨ way = 4 ∨ way = 5 by omega) with rfl | rfl | rfl | rfl | rfl <;> cases g
 · rw [if_pos (by decide)]
   have HR := fun W u hU => hi0 (c0s f n 1 a 5 c u W hU hc)
   have I := Inv.startW w u 139 (uS f n 1 a) [] U True.intro True.intro
   refine a0d [.p 0 0, .v (.bool false)] I Tryz.func150 ?_
   refine zge I 0 139 (fun Al W I => (HR W _ (I.box 0 139 _)).out) fun Al V Iv _ _ kz => ?_
   rintro _ W ⟨rfl, hO, hB⟩
   refine ⟨_, rfl, kz _ (uS f n 1 c) _ hO hB fun I => ?_⟩
   refine zb I 13 ((famB f) == 66) (false) (bFn (by rw [hF]; decide)) fun Al W I => ?_
   refine zb I 18 ((famB f) == 67) (false) (bFn (by rw [hF]; decide)) fun Al W I => ?_
   refine zg I (fun Al W I => i0k false W) fun Al V Iv _ hB _ kz => ?_
   rintro _ W ⟨rfl, hb⟩
   refine ⟨_, rfl, kz _ _ hb fun I => ?_⟩
   exact zret I fun Al W I => d0n (k := 3) rfl I.bel (I.boxE 139 _)
 · rw [if_pos (by decide)]
   have HR := fun W u hU => hi0 (c0s f n 1 a 5 c u W hU hc)
   have I := Inv.startW w u 139 (uS f n 1 a) [] U True.intro True.intro
   refine a0d [.p 0 0, .v (.bool true)] I Tryz.func150 ?_
   refine zge I 0 139 (fun Al W I => (HR W _ (I.box 0 139 _)).out) fun Al V Iv _ _ kz => ?_
   rintro _ W ⟨rfl, hO, hB⟩
   refine ⟨_, rfl, kz _ (uS f n 1 c) _ hO hB fun I => ?_⟩
   refine zb I 13 ((famB f) == 66) (false) (bFn (by rw [hF]; decide)) fun Al W I => ?_
   refine zb I 18 ((famB f) == 67) (false) (bFn (by rw [hF]; decide)) fun Al W I => ?_
   refine zg I (fun Al W I => i0k true W) fun Al V Iv _ hB _ kz => ?_
   rintro _ W ⟨rfl, hb⟩
   refine ⟨_, rfl, kz _ _ hb fun I => ?_⟩
   exact zret I fun Al W I => d0n (k := 3) rfl I.bel (I.boxE 139 _)
 · rw [if_pos (by decide)]
   have HR := fun W u hU => hi0 (c0s f n 2 a 5 c u W hU hc)
   have I := Inv.startW w u 139 (uS f n 2 a) [] U True.intro True.intro
   refine a0d [.p 0 0, .v (.bool false)] I Tryz.func150 ?_
   refine zge I 0 139 (fun Al W I => (HR W _ (I.box 0 139 _)).out) fun Al V Iv _ _ kz => ?_
   rintro _ W ⟨rfl, hO, hB⟩
   refine ⟨_, rfl, kz _ (uS f n 2 c) _ hO hB fun I => ?_⟩
   refine zb I 13 ((famB f) == 66) (false) (bFn (by rw [hF]; decide)) fun Al W I => ?_
   refine zb I 18 ((famB f) == 67) (false) (bFn (by rw [hF]; decide)) fun Al W I => ?_
   refine zg I (fun Al W I => i0k false W) fun Al V Iv _ hB _ kz => ?_
   rintro _ W ⟨rfl, hb⟩
   refine ⟨_, rfl, kz _ _ hb fun I => ?_⟩
   exact zret I fun Al W I => d0n (k := 3) rfl I.bel (I.boxE 139 _)
 · rw [if_pos (by decide)]
   have HR := fun W u hU => hi0 (c0s f n 2 a 5 c u W hU hc)
   have I := Inv.startW w u 139 (uS f n 2 a) [] U True.intro True.intro
   refine a0d [.p 0 0, .v (.bool true)] I Tryz.func150 ?_
   refine zge I 0 139 (fun Al W I => (HR W _ (I.box 0 139 _)).out) fun Al V Iv _ _ kz => ?_
   rintro _ W ⟨rfl, hO, hB⟩
   refine ⟨_, rfl, kz _ (uS f n 2 c) _ hO hB fun I => ?_⟩
   refine zb I 13 ((famB f) == 66) (false) (bFn (by rw [hF]; decide)) fun Al W I => ?_
   refine zb I 18 ((famB f) == 67) (false) (bFn (by rw [hF]; decide)) fun Al W I => ?_
   refine zg I (fun Al W I => i0k true W) fun Al V Iv _ hB _ kz => ?_
   rintro _ W ⟨rfl, hb⟩
   refine ⟨_, rfl, kz _ _ hb fun I => ?_⟩
   exact zret I fun Al W I => d0n (k := 3) rfl I.bel (I.boxE 139 _)
 · rw [if_neg (by decide)]
   have HR := fun W u hU => hi0 (c0s f n 3 a 5 c u W hU hc)
   have HG := fun W u hU => hi0 (g0z f n 3 c false u W hU hd)
   generalize 2 ^ (wid f.g * f.g.digs.toNat) - 1 = m at *
   have I := Inv.startW w u 139 (uS f n 3 a) [] U True.intro True.intro
   refine a0d [.p 0 0, .v (.bool false)] I Tryz.func150 ?_
   refine zge I 0 139 (fun Al W I => (HR W _ (I.box 0 139 _)).out) fun Al V Iv _ _ kz => ?_
   rintro _ W ⟨rfl, hO, hB⟩
   refine ⟨_, rfl, kz _ (uS f n 3 c) _ hO hB fun I => ?_⟩
   refine zb I 13 ((famB f) == 66) (false) (bFn (by rw [hF]; decide)) fun Al W I => ?_
   refine zb I 18 ((famB f) == 67) (false) (bFn (by rw [hF]; decide)) fun Al W I => ?_
   refine zg I (fun Al W I => (HG W _ (I.box 0 139 _)).out) fun Al V Iv _ hB _ kz => ?_
   rintro _ W ⟨p59, c59, rfl, o59, hb⟩
   refine ⟨_, rfl, kz _ _ hb fun I => ?_⟩
   have I := I.own o59
   exact zret I fun Al W I => ⟨p59, c59, rfl, I.fa.1.mono (by omega), I.bel, I.boxE 139 _⟩
 · rw [if_neg (by decide)]
   have HR := fun W u hU => hi0 (c0s f n 3 a 5 c u W hU hc)
   have HG := fun W u hU => hi0 (g0z f n 3 c true u W hU hd)
   generalize 2 ^ (wid f.g * f.g.digs.toNat) - 1 = m at *
   have I := Inv.startW w u 139 (uS f n 3 a) [] U True.intro True.intro
   refine a0d [.p 0 0, .v (.bool true)] I Tryz.func150 ?_
   refine zge I 0 139 (fun Al W I => (HR W _ (I.box 0 139 _)).out) fun Al V Iv _ _ kz => ?_
   rintro _ W ⟨rfl, hO, hB⟩
   refine ⟨_, rfl, kz _ (uS f n 3 c) _ hO hB fun I => ?_⟩
   refine zb I 13 ((famB f) == 66) (false) (bFn (by rw [hF]; decide)) fun Al W I => ?_
   refine zb I 18 ((famB f) == 67) (false) (bFn (by rw [hF]; decide)) fun Al W I => ?_
   refine zg I (fun Al W I => (HG W _ (I.box 0 139 _)).out) fun Al V Iv _ hB _ kz => ?_
   rintro _ W ⟨p59, c59, rfl, o59, hb⟩
   refine ⟨_, rfl, kz _ _ hb fun I => ?_⟩
   have I := I.own o59
   exact zret I fun Al W I => ⟨p59, c59, rfl, I.fa.1.mono (by omega), I.bel, I.boxE 139 _⟩
 · rw [if_pos (by decide)]
   have HR := fun W u hU => hi0 (c0s f n 4 a 5 c u W hU hc)
   have I := Inv.startW w u 139 (uS f n 4 a) [] U True.intro True.intro
   refine a0d [.p 0 0, .v (.bool false)] I Tryz.func150 ?_
   refine zge I 0 139 (fun Al W I => (HR W _ (I.box 0 139 _)).out) fun Al V Iv _ _ kz => ?_
   rintro _ W ⟨rfl, hO, hB⟩
   refine ⟨_, rfl, kz _ (uS f n 4 c) _ hO hB fun I => ?_⟩
   refine zb I 13 ((famB f) == 66) (false) (bFn (by rw [hF]; decide)) fun Al W I => ?_
   refine zb I 18 ((famB f) == 67) (false) (bFn (by rw [hF]; decide)) fun Al W I => ?_
   refine zg I (fun Al W I => i0k false W) fun Al V Iv _ hB _ kz => ?_
   rintro _ W ⟨rfl, hb⟩
   refine ⟨_, rfl, kz _ _ hb fun I => ?_⟩
   exact zret I fun Al W I => d0n (k := 3) rfl I.bel (I.boxE 139 _)
 · rw [if_neg (by decide)]
   have HR := fun W u hU => hi0 (c0s f n 4 a 5 c u W hU hc)
   have HG := fun W u hU => hi0 (g0z f n 4 c true u W hU hd)
   generalize 2 ^ (wid f.g * f.g.digs.toNat) - 1 = m at *
   have I := Inv.startW w u 139 (uS f n 4 a) [] U True.intro True.intro
   refine a0d [.p 0 0, .v (.bool true)] I Tryz.func150 ?_
   refine zge I 0 139 (fun Al W I => (HR W _ (I.box 0 139 _)).out) fun Al V Iv _ _ kz => ?_
   rintro _ W ⟨rfl, hO, hB⟩
   refine ⟨_, rfl, kz _ (uS f n 4 c) _ hO hB fun I => ?_⟩
   refine zb I 13 ((famB f) == 66) (false) (bFn (by rw [hF]; decide)) fun Al W I => ?_
   refine zb I 18 ((famB f) == 67) (false) (bFn (by rw [hF]; decide)) fun Al W I => ?_
   refine zg I (fun Al W I => (HG W _ (I.box 0 139 _)).out) fun Al V Iv _ hB _ kz => ?_
   rintro _ W ⟨p59, c59, rfl, o59, hb⟩
   refine ⟨_, rfl, kz _ _ hb fun I => ?_⟩
   have I := I.own o59
   exact zret I fun Al W I => ⟨p59, c59, rfl, I.fa.1.mono (by omega), I.bel, I.boxE 139 _⟩
 · rw [if_neg (by decide)]
   have HR := fun W u hU => hi0 (c0s f n 5 a 5 c u W hU hc)
   have HG := fun W u hU => hi0 (g0z f n 5 c false u W hU hd)
   generalize 2 ^ (wid f.g * f.g.digs.toNat) - 1 = m at *
   have I := Inv.startW w u 139 (uS f n 5 a) [] U True.intro True.intro
   refine a0d [.p 0 0, .v (.bool false)] I Tryz.func150 ?_
   refine zge I 0 139 (fun Al W I => (HR W _ (I.box 0 139 _)).out) fun Al V Iv _ _ kz => ?_
   rintro _ W ⟨rfl, hO, hB⟩
   refine ⟨_, rfl, kz _ (uS f n 5 c) _ hO hB fun I => ?_⟩
   refine zb I 13 ((famB f) == 66) (false) (bFn (by rw [hF]; decide)) fun Al W I => ?_
   refine zb I 18 ((famB f) == 67) (false) (bFn (by rw [hF]; decide)) fun Al W I => ?_
   refine zg I (fun Al W I => (HG W _ (I.box 0 139 _)).out) fun Al V Iv _ hB _ kz => ?_
   rintro _ W ⟨p59, c59, rfl, o59, hb⟩
   refine ⟨_, rfl, kz _ _ hb fun I => ?_⟩
   have I := I.own o59
   exact zret I fun Al W I => ⟨p59, c59, rfl, I.fa.1.mono (by omega), I.bel, I.boxE 139 _⟩
 · rw [if_pos (by decide)]
   have HR := fun W u hU => hi0 (c0s f n 5 a 5 c u W hU hc)
   have I := Inv.startW w u 139 (uS f n 5 a) [] U True.intro True.intro
   refine a0d [.p 0 0, .v (.bool true)] I Tryz.func150 ?_
   refine zge I 0 139 (fun Al W I => (HR W _ (I.box 0 139 _)).out) fun Al V Iv _ _ kz => ?_
   rintro _ W ⟨rfl, hO, hB⟩
   refine ⟨_, rfl, kz _ (uS f n 5 c) _ hO hB fun I => ?_⟩
   refine zb I 13 ((famB f) == 66) (false) (bFn (by rw [hF]; decide)) fun Al W I => ?_
   refine zb I 18 ((famB f) == 67) (false) (bFn (by rw [hF]; decide)) fun Al W I => ?_
   refine zg I (fun Al W I => i0k true W) fun Al V Iv _ hB _ kz => ?_
   rintro _ W ⟨rfl, hb⟩
   refine ⟨_, rfl, kz _ _ hb fun I => ?_⟩
   exact zret I fun Al W I => d0n (k := 3) rfl I.bel (I.boxE 139 _)
theorem h1u (f : Fm) (n way a c : Int) (p : Pl) (u : Nat) (w : World) (U : Bt w u 139 #[.int .i64 n, .int .i64 way, .int .i64 f.g.rad, .int .i64 f.g.digs, .int .i64 f.g.lo, .int .i64 f.g.hi, .bool f.g.grad, .int .u8 (famB f), .int .i64 a]) (G : c0h f) (hc : bits .or .i64 a 5 = c) (hw : 1 ≤ way ∧ way ≤ 5) (ho : p.over = true) :
 Calls Tryz.prog 150 #[.pointer (some ⟨u, 0, none⟩), .bool p.neg] w (m0c f n way c u w (f.placedV p way)) := by
 have GG := b0u G.g
 have h1 := GG.d1
 have h2 := GG.d2
 have hf := G.fam
 unfold Fm.placedV
 rw [if_pos ho]
 by_cases f2 : f.fam = 2
 · rw [if_pos f2]; exact g1c f n way a c p.neg u w U (by omega) hc f2
 · rw [if_neg f2]
   by_cases f3 : f.fam = 3
   · rw [if_pos f3]; exact g1d f n way a c p.neg u w U hc (by omega) f2
   · rw [if_neg f3]; exact g1e f n way a c p.neg u w U (by omega) hc (by omega) hw
def j0t (f : Fm) (n way c : Int) (u : Nat) (w : World) (base : Nat) (v : Vl) (en : Ending) (w' : World) : Prop :=
 ∃ p k, en = .returned (.agg #[.int .i64 (v.cls : Int), .bool v.neg, .slice p (dig B32 v.d).length k, .int .i64 v.pow]) ∧ Own w' base .u32 160 p k (dig B32 v.d) ∧ Kp [u] w w' ∧ Bt w' u 139 #[.int .i64 n, .int .i64 way, .int .i64 f.g.rad, .int .i64 f.g.digs, .int .i64 f.g.lo, .int .i64 f.g.hi, .bool f.g.grad, .int .u8 (famB f), .int .i64 c]
theorem m0c.ub {f : Fm} {n way c : Int} {u base : Nat} {w w' : World} {v : Vl} {en : Ending} (h : m0c f n way c u w v en w') (hb : base ≤ w.heap.size) : j0t f n way c u w base v en w' := by
 obtain ⟨p, k, h1, h2, h3, h4⟩ := h
 exact ⟨p, k, h1, h2.mono hb, h3, h4⟩
theorem f0z {f : Fm} {n way c : Int} {u k base : Nat} {g : Bool} {w w' : World} {en : Ending} (h : en = .returned (.agg #[.int .i64 (k : Int), .bool g, .slice none 0 0, .int .i64 0])) (hk : Kp [u] w w') (hb : Bt w' u 139 #[.int .i64 n, .int .i64 way, .int .i64 f.g.rad, .int .i64 f.g.digs, .int .i64 f.g.lo, .int .i64 f.g.hi, .bool f.g.grad, .int .u8 (famB f), .int .i64 c]) : j0t f n way c u w base ⟨k, g, 0, 0⟩ en w' := by
 refine ⟨none, 0, ?_, ?_, hk, hb⟩
 · rw [h, a0c]; rfl
 · show Own _ _ _ _ _ _ (dig B32 0); rw [a0c]; exact Own.nil _ _ _ _
theorem pl_n (f : Fm) (n way : Int) (ng : Bool) (d : Nat) (pw : Int) (pp : Option Addr) (cc base u : Nat) (w : World) (U : Bt w u 139 #[.int .i64 n, .int .i64 way, .int .i64 f.g.rad, .int .i64 f.g.digs, .int .i64 f.g.lo, .int .i64 f.g.hi, .bool f.g.grad, .int .u8 (famB f), .int .i64 0]) (hp : Own w base .u32 160 pp cc (dig B32 d)) (ex un : Bool) :
 Calls Tryz.prog 108 #[.pointer (some ⟨u, 0, none⟩), .agg #[.bool ng, .slice pp (dig B32 d).length cc, .int .i64 pw, .bool ex, .bool false, .bool un]] w (j0t f n way (((f.placedM ⟨ng, d, pw, ex, false, un⟩ way).2 : Nat) : Int) u w base (f.placedV ⟨ng, d, pw, ex, false, un⟩ way)) := by
 have hV : f.placedV ⟨ng, d, pw, ex, false, un⟩ way = if un = true ∧ f.fam ≠ 1 ∧ pw < f.g.lo then ⟨1, false, 0, 0⟩ else if d = 0 then ⟨1, ng && decide (f.fam = 1), 0, 0⟩ else ⟨2, ng, d, pw⟩ := by unfold Fm.placedV; simp only [Bool.false_eq_true, if_false]
 have hM : (f.placedM ⟨ng, d, pw, ex, false, un⟩ way).2 = if un = true ∧ f.fam ≠ 1 ∧ pw < f.g.lo then 3 else f.flP ⟨ng, d, pw, ex, false, un⟩ := by
  unfold Fm.placedM; simp only [Bool.false_eq_true, if_false]
  split
  · rfl
  · split <;> rfl
 have hFL : f.flP ⟨ng, d, pw, ex, false, un⟩ = if un then (if f.fam = 1 then (if ex then 0 else 3) else 3) else if ex then 0 else 1 := rfl
 have hF1 : f.fam = 1 → (famB f != 65) = false := fun h => by unfold famB; rw [if_pos h]; rfl
 have hF2 : f.fam ≠ 1 → (famB f != 65) = true := fun h => by unfold famB; rw [if_neg h]; split <;> rfl
 have hB1 : (famB f != 65) = true → f.fam ≠ 1 := fun h k => by rw [hF1 k] at h; cases h
 have hB2 : (famB f != 65) = false → f.fam = 1 := fun h => Classical.byContradiction fun k => by rw [hF2 k] at h; cases h
 have hz := a0f a0b d
 have HR9 := fun W u hU => hi0 (c0s f n way 0 1 1 u W hU (by decide +kernel))
 have HR3 := fun k (hk : k = 0 ∨ k = 1) W u hU => hi0 (c0s f n way k 3 3 u W hU (by rcases hk with rfl | rfl <;> decide +kernel))
 have HR2 := fun k (hk : k = 1) W u hU => hi0 (c0s f n way k 2 3 u W hU (by subst hk; decide +kernel))
 have HZ := fun k W u hU => hi0 (d1c f n way k ng u W hU)
 rw [hFL] at hM
 generalize (f.placedM ⟨ng, d, pw, ex, false, un⟩ way).2 = FL at *
 generalize f.placedV ⟨ng, d, pw, ex, false, un⟩ way = v at *
 clear hFL
 generalize (ng && decide (f.fam = 1)) = q at *
 have I := Inv.startW w u 139 (uS f n way 0) [ownF base .u32 160 pp cc (dig B32 d)] U ⟨hp, True.intro⟩ ⟨fun hf => hp.far U (by kernel_rfl) hf.1 hf.2, True.intro⟩
 refine a0d [.p 0 0, .v (.agg #[.bool ng, .slice pp (dig B32 d).length cc, .int .i64 pw, .bool ex, .bool false, .bool un])] I Tryz.func108 ?_
 obtain ⟨ne, hne⟩ : ∃ ne, (!ex) = ne := ⟨_, rfl⟩
 refine zb I 7 (!ex) (ne) (hne) fun Al W I => ?_
 refine zcut I (some 2000007) (fun fr bx gs => ∃ (U1 : Nat → Value) (k1 : Int), fr = (.p 0 0 :: .v (.agg #[.bool ng, .slice pp (dig B32 d).length cc, .int .i64 pw, .bool ex, .bool false, .bool un]) :: .v undef :: .p 1 0 :: .p 2 0 :: sw U1 5 2 (.v (.bool ne) :: sw U1 8 2 (.v undef :: sw U1 11 6 (.v undef :: sw U1 18 18 (.v undef :: .v (U1 37) :: .v undef :: sw U1 39 12 (.v undef :: sw U1 52 11 []))))) : List SV) ∧ bx = [⟨139, (uS f n way k1), false⟩, ⟨99, [.v (.bool ng), .v (.slice pp (dig B32 d).length cc), .v (.int .i64 pw), .v (.bool ex), .v (.bool false), .v (.bool un)], false⟩, ⟨70, [.v (.int .i64 0), .v (.bool false), .v (.slice none 0 0), .v (.int .i64 0)], false⟩] ∧ gs = [ownF base .u32 160 pp cc (dig B32 d)] ∧ (k1 = if ex then 0 else 1)) ?_ ?_
 · intro J hJ Al W I
   rcases Bool.eq_false_or_eq_true ne with rfl | rfl
   · refine zge I 0 139 (fun Al W I => (HR9 W _ (I.box 0 139 _)).out) fun Al V Iv _ _ kz => ?_
     rintro _ W ⟨rfl, hO, hB⟩
     refine ⟨_, rfl, kz _ (uS f n way 1) _ hO hB fun I => ?_⟩
     exact b0e I J fun Al W U I => hJ _ _ _ _ _ ⟨U, 1, rfl, rfl, rfl, (by revert hne; cases ex <;> simp)⟩ (I.pick [0])
   exact b0e I J fun Al W U I => hJ _ _ _ _ _ ⟨U, 0, rfl, rfl, rfl, (by revert hne; cases ex <;> simp)⟩ (I.pick [0])
 rintro _ _ _ ⟨U1, k1, rfl, rfl, rfl, hk1⟩ Al W I
 refine zcut I (some 1000000) (fun fr bx gs => ∃ (U2 : Nat → Value) (k2 : Int), fr = (.p 0 0 :: .v (.agg #[.bool ng, .slice pp (dig B32 d).length cc, .int .i64 pw, .bool ex, .bool false, .bool un]) :: .v undef :: .p 1 0 :: .p 2 0 :: sw U2 5 2 (.v (.bool ne) :: sw U2 8 43 (.v undef :: sw U2 52 11 [])) : List SV) ∧ bx = [⟨139, (uS f n way k2), false⟩, ⟨99, [.v (.bool ng), .v (.slice pp (dig B32 d).length cc), .v (.int .i64 pw), .v (.bool ex), .v (.bool false), .v (.bool un)], false⟩, ⟨70, [.v (.int .i64 0), .v (.bool false), .v (.slice none 0 0), .v (.int .i64 0)], false⟩] ∧ gs = [ownF base .u32 160 pp cc (dig B32 d)] ∧ ((FL : Int) = k2) ∧ (¬ (un = true ∧ f.fam ≠ 1 ∧ pw < f.g.lo))) ?_ ?_
 · intro J hJ Al W I
   rcases Bool.eq_false_or_eq_true (un) with f19 | f19
   · refine zb I 19 (un) (true) (f19) fun Al W I => ?_
     rcases Bool.eq_false_or_eq_true ((famB f) != 65) with f25 | f25
     · refine zb I 25 ((famB f) != 65) (true) (f25) fun Al W I => ?_
       refine zge I 0 139 (fun Al W I => (HR3 k1 (by rw [hk1]; split <;> simp) W _ (I.box 0 139 _)).out) fun Al V Iv _ _ kz => ?_
       rintro _ W ⟨rfl, hO, hB⟩
       refine ⟨_, rfl, kz _ (uS f n way 3) _ hO hB fun I => ?_⟩
       by_cases f36 : pw < f.g.lo
       · refine zd [] I fun Al W I => ?_
         refine zk [0, 1, 2, 3, 4, 5, 6] I fun I => ?_
         refine zkb 7 I (decide (pw < f.g.lo)) (true) (dTr f36) fun I => ?_
         refine zret I (v := fun Al => .agg #[.int .i64 1, .bool false, .slice none 0 0, .int .i64 0]) fun Al W I => ?_
         first | (rw [hV, hM, if_pos ⟨f19, hB1 f25, f36⟩, if_pos ⟨f19, hB1 f25, f36⟩]; exact f0z (k := 1) rfl I.bel (I.boxE 139 _)) | (rw [hV, hk2, if_neg hlo, if_neg (fun h => by have := hz.2 h; have := bnF f51; omega)]; exact ⟨pp, cc, rfl, I.fa.1, I.bel, I.boxE 139 _⟩)
       refine zd [] I fun Al W I => ?_
       refine zk [0, 1, 2, 3, 4, 5, 6] I fun I => ?_
       refine zkb 7 I (decide (pw < f.g.lo)) (false) (dFa f36) fun I => ?_
       exact b0e I J fun Al W U I => hJ _ _ _ _ _ ⟨U, 3, rfl, rfl, rfl, (by have h1 := hB1 f25; rw [hM, if_neg (fun h => f36 h.2.2), if_pos f19, if_neg h1]; rfl), (fun h => f36 h.2.2)⟩ (I.pick [0])
     refine zb I 25 ((famB f) != 65) (false) (f25) fun Al W I => ?_
     refine zb I 40 (un) (true) (f19) fun Al W I => ?_
     rcases Bool.eq_false_or_eq_true (!ex) with f44 | f44
     · refine zb I 44 (!ex) (true) (f44) fun Al W I => ?_
       refine zge I 0 139 (fun Al W I => (HR2 k1 (by rw [hk1]; revert f44; cases ex <;> simp) W _ (I.box 0 139 _)).out) fun Al V Iv _ _ kz => ?_
       rintro _ W ⟨rfl, hO, hB⟩
       refine ⟨_, rfl, kz _ (uS f n way 3) _ hO hB fun I => ?_⟩
       exact b0e I J fun Al W U I => hJ _ _ _ _ _ ⟨U, 3, rfl, rfl, rfl, (by have h1 := hB2 f25; rw [hM, if_neg (fun h => h.2.1 h1), if_pos f19, if_pos h1]; revert f44; cases ex <;> simp), (fun h => by have h1 := hB2 f25; exact h.2.1 h1)⟩ (I.pick [0])
     refine zb I 44 (!ex) (false) (f44) fun Al W I => ?_
     exact b0e I J fun Al W U I => hJ _ _ _ _ _ ⟨U, k1, rfl, rfl, rfl, (by have h1 := hB2 f25; rw [hM, if_neg (fun h => h.2.1 h1), if_pos f19, if_pos h1, hk1]; revert f44; cases ex <;> simp), (fun h => by have h1 := hB2 f25; exact h.2.1 h1)⟩ (I.pick [0])
   refine zb I 19 (un) (false) (f19) fun Al W I => ?_
   refine zb I 40 (un) (false) (f19) fun Al W I => ?_
   exact b0e I J fun Al W U I => hJ _ _ _ _ _ ⟨U, k1, rfl, rfl, rfl, (by rw [hM, if_neg (fun h => by rw [f19] at h; cases h.1), if_neg (by rw [f19]; simp), hk1]; split <;> rfl), (fun h => by rw [f19] at h; cases h.1)⟩ (I.pick [0])
 rintro _ _ _ ⟨U2, k2, rfl, rfl, rfl, hk2, hlo⟩ Al W I
 rcases Bool.eq_false_or_eq_true ((((dig B32 d).length : Nat) : Int) == 0) with f51 | f51
 · refine zb I 51 ((((dig B32 d).length : Nat) : Int) == 0) (true) (f51) fun Al W I => ?_
   refine zg I (fun Al W I => (HZ k2 W _ (I.box 0 139 _)).out) fun Al V Iv _ hB _ kz => ?_
   rintro _ W ⟨rfl, hb⟩
   refine ⟨_, rfl, kz _ _ hb fun I => ?_⟩
   rw [hV, hk2, if_neg hlo, if_pos (hz.1 (by have := beq_iff_eq.1 f51; omega))]
   exact zret I fun Al W I => f0z (k := 1) rfl I.bel (I.boxE 139 _)
 refine zb I 51 ((((dig B32 d).length : Nat) : Int) == 0) (false) (f51) fun Al W I => ?_
 refine zret I (v := fun Al => .agg #[.int .i64 2, .bool ng, .slice pp (dig B32 d).length cc, .int .i64 pw]) fun Al W I => ?_
 first | (rw [hV, hM, if_pos ⟨f19, hB1 f25, f36⟩, if_pos ⟨f19, hB1 f25, f36⟩]; exact f0z (k := 1) rfl I.bel (I.boxE 139 _)) | (rw [hV, hk2, if_neg hlo, if_neg (fun h => by have := hz.2 h; have := bnF f51; omega)]; exact ⟨pp, cc, rfl, I.fa.1, I.bel, I.boxE 139 _⟩)
theorem o1l (f : Fm) (n way : Int) (p : Pl) (pp : Option Addr) (cc base u : Nat) (w : World) (U : Bt w u 139 #[.int .i64 n, .int .i64 way, .int .i64 f.g.rad, .int .i64 f.g.digs, .int .i64 f.g.lo, .int .i64 f.g.hi, .bool f.g.grad, .int .u8 (famB f), .int .i64 0]) (hb : base ≤ w.heap.size) (G : c0h f) (hw : 1 ≤ way ∧ way ≤ 5) (ho : p.over = true) :
 Calls Tryz.prog 108 #[.pointer (some ⟨u, 0, none⟩), .agg #[.bool p.neg, .slice pp (dig B32 p.d).length cc, .int .i64 p.pow, .bool true, .bool true, .bool p.under]] w (j0t f n way 5 u w base (f.placedV p way)) := by
 have HO := fun W u hU => hi0 (h1u f n way 0 5 p u W hU G (by decide +kernel) hw ho)
 generalize f.placedV p way = v at *
 have I := Inv.startW w u 139 (uS f n way 0) [] U True.intro True.intro
 refine a0d [.p 0 0, .v (.agg #[.bool p.neg, .slice pp (dig B32 p.d).length cc, .int .i64 p.pow, .bool true, .bool true, .bool p.under])] I Tryz.func108 ?_
 refine zge I 0 139 (fun Al W I => (HO W _ (I.box 0 139 _)).out) fun Al V Iv _ _ kz => ?_
 rintro _ W ⟨p16, c16, rfl, o16, hO, hB⟩
 refine ⟨_, rfl, kz _ (uS f n way 5) _ hO hB fun I => ?_⟩
 have I := I.ownB base o16
 exact zret I fun Al W I => ⟨p16, c16, rfl, I.fa.1, I.bel, I.boxE 139 _⟩
theorem o1m (f : Fm) (n way : Int) (p : Pl) (pp : Option Addr) (cc base u : Nat) (w : World) (U : Bt w u 139 #[.int .i64 n, .int .i64 way, .int .i64 f.g.rad, .int .i64 f.g.digs, .int .i64 f.g.lo, .int .i64 f.g.hi, .bool f.g.grad, .int .u8 (famB f), .int .i64 0]) (hb : base ≤ w.heap.size) (G : c0h f) (hw : 1 ≤ way ∧ way ≤ 5) (ho : p.over = true) :
 Calls Tryz.prog 108 #[.pointer (some ⟨u, 0, none⟩), .agg #[.bool p.neg, .slice pp (dig B32 p.d).length cc, .int .i64 p.pow, .bool false, .bool true, .bool p.under]] w (j0t f n way 5 u w base (f.placedV p way)) := by
 have HO := fun W u hU => hi0 (h1u f n way 1 5 p u W hU G (by decide +kernel) hw ho)
 have HR := fun W u hU => hi0 (c0s f n way 0 1 1 u W hU (by decide +kernel))
 generalize f.placedV p way = v at *
 have I := Inv.startW w u 139 (uS f n way 0) [] U True.intro True.intro
 refine a0d [.p 0 0, .v (.agg #[.bool p.neg, .slice pp (dig B32 p.d).length cc, .int .i64 p.pow, .bool false, .bool true, .bool p.under])] I Tryz.func108 ?_
 refine zge I 0 139 (fun Al W I => (HR W _ (I.box 0 139 _)).out) fun Al V Iv _ _ kz => ?_
 rintro _ W ⟨rfl, hO, hB⟩
 refine ⟨_, rfl, kz _ (uS f n way 1) _ hO hB fun I => ?_⟩
 refine zge I 0 139 (fun Al W I => (HO W _ (I.box 0 139 _)).out) fun Al V Iv _ _ kz => ?_
 rintro _ W ⟨p16, c16, rfl, o16, hO, hB⟩
 refine ⟨_, rfl, kz _ (uS f n way 5) _ hO hB fun I => ?_⟩
 have I := I.ownB base o16
 exact zret I fun Al W I => ⟨p16, c16, rfl, I.fa.1, I.bel, I.boxE 139 _⟩
theorem k1f (f : Fm) (n way : Int) (p : Pl) (pp : Option Addr) (cc base u : Nat) (w : World) (U : Bt w u 139 #[.int .i64 n, .int .i64 way, .int .i64 f.g.rad, .int .i64 f.g.digs, .int .i64 f.g.lo, .int .i64 f.g.hi, .bool f.g.grad, .int .u8 (famB f), .int .i64 0]) (hp : Own w base .u32 160 pp cc (dig B32 p.d)) (hb : base ≤ w.heap.size) (G : c0h f) (hw : 1 ≤ way ∧ way ≤ 5) :
 Calls Tryz.prog 108 #[.pointer (some ⟨u, 0, none⟩), .agg #[.bool p.neg, .slice pp (dig B32 p.d).length cc, .int .i64 p.pow, .bool p.exact, .bool p.over, .bool p.under]] w (j0t f n way (((f.placedM p way).2 : Nat) : Int) u w base (f.placedV p way)) := by
 obtain ⟨ng, d, pw, ex, ov, un⟩ := p
 cases ov with
 | true =>
  have e : (f.placedM ⟨ng, d, pw, ex, true, un⟩ way).2 = 5 := by unfold Fm.placedM; rw [if_pos rfl]
  rw [e]
  cases ex
  · exact o1m f n way ⟨ng, d, pw, false, true, un⟩ pp cc base u w U hb G hw rfl
  · exact o1l f n way ⟨ng, d, pw, true, true, un⟩ pp cc base u w U hb G hw rfl
 | false =>
  exact pl_n f n way ng d pw pp cc base u w U hp ex un
theorem d1d (ng : Bool) (p q : Option Addr) (c d : Nat) (num den : Nat) (e : Int) (g : Gd) (way : Int) (w : World) (hp : Rd w .u32 p (dig B32 num)) (hq : Rd w .u32 q (dig B32 den))
 (hl : (dig B32 num).length ≤ 100000) (hl2 : (dig B32 den).length ≤ 100000) (hn : 0 < num) (hd : 0 < den) (he : -1000000 ≤ e ∧ e ≤ 1000000) (G : j0i g) (hw1 : 1 ≤ way) (hw2 : way ≤ 5) :
 Calls Tryz.prog 106 #[.agg #[.bool ng, .slice p (dig B32 num).length c, .slice q (dig B32 den).length d, .int .i64 e], .agg #[.int .i64 g.rad, .int .i64 g.digs, .int .i64 g.lo, .int .i64 g.hi, .bool g.grad], .int .i64 way] w (w0u w (a0n ng num den e g way)) := by
 have h := v0f ng p q c d num den e g way (theK num den e (wid g) g.digs.toNat) w hp hq hl hl2 hn hd he G hw1 hw2 (n0b hn hd e (b0j g).1 (by have := G.d1; omega))
 unfold a0n
 rw [if_neg (by omega)]
 exact h
theorem o1n (f : Fm) (n way : Int) (ng : Bool) (p q : Option Addr) (c d : Nat) (num den : Nat) (e : Int) (u : Nat) (w : World) (U : Bt w u 139 #[.int .i64 n, .int .i64 way, .int .i64 f.g.rad, .int .i64 f.g.digs, .int .i64 f.g.lo, .int .i64 f.g.hi, .bool f.g.grad, .int .u8 (famB f), .int .i64 0]) (hp : Rd w .u32 p (dig B32 num)) (hq : Rd w .u32 q (dig B32 den))
 (hl : (dig B32 num).length ≤ 100000) (hl2 : (dig B32 den).length ≤ 100000) (hn : 0 < num) (hd : 0 < den) (he : -1000000 ≤ e ∧ e ≤ 1000000) (G : c0h f) (hw : 1 ≤ way ∧ way ≤ 5) :
 Calls Tryz.prog 62 #[.pointer (some ⟨u, 0, none⟩), .agg #[.bool ng, .slice p (dig B32 num).length c, .slice q (dig B32 den).length d, .int .i64 e]] w
  (m0c f n way (((f.placedM (a0n ng num den e f.g way) way).2 : Nat) : Int) u w (f.placedV (a0n ng num den e f.g way) way)) := by
 have GG := b0u G.g
 have HF := fun W h1 h2 => hi0 (d1d ng p q c d num den e f.g way W h1 h2 hl hl2 hn hd he GG hw.1 hw.2)
 have HP := fun pp cc base u W U h1 h2 => hi0 (k1f f n way (a0n ng num den e f.g way) pp cc base u W U h1 h2 G hw)
 have hR := v0l (neg := ng) (num := num) (e := e) (way := way) hd GG
 generalize (f.placedM (a0n ng num den e f.g way) way).2 = fl at *
 generalize f.placedV (a0n ng num den e f.g way) way = v at *
 generalize a0n ng num den e f.g way = P at *
 have I := Inv.startW w u 139 (uS f n way 0) [rdF .u32 p (dig B32 num), rdF .u32 q (dig B32 den)] U ⟨hp, hq, True.intro⟩ ⟨fun hf => hp.far U (by kernel_rfl) hf.1 hf.2, fun hf => hq.far U (by kernel_rfl) hf.1 hf.2, True.intro⟩
 refine a0d [.p 0 0, .v (.agg #[.bool ng, .slice p (dig B32 num).length c, .slice q (dig B32 den).length d, .int .i64 e])] I Tryz.func62 ?_
 refine zcut I none (fun fr bx gs => ∃ (U1 : Nat → Value) (p16 : Option Addr) (c16 : Nat), fr = (.p 0 0 :: .v (.agg #[.bool ng, .slice p (dig B32 num).length c, .slice q (dig B32 den).length d, .int .i64 e]) :: .v undef :: .p 1 0 :: .p 2 0 :: sw U1 5 12 [] : List SV) ∧ bx = [⟨139, (uS f n way (fl : Int)), false⟩, ⟨50, [.v (.bool ng), .v (.slice p (dig B32 num).length c), .v (.slice q (dig B32 den).length d), .v (.int .i64 e)], false⟩, ⟨70, [.v (.int .i64 (v.cls : Int)), .v (.bool v.neg), .v (.slice p16 (dig B32 v.d).length c16), .v (.int .i64 v.pow)], false⟩] ∧ gs = [ownF w.heap.size .u32 160 p16 c16 (dig B32 v.d), rdF .u32 p (dig B32 num), rdF .u32 q (dig B32 den)]) ?_ ?_
 · intro J hJ Al W I
   refine zd [0, 2] I fun Al W I => ?_
   refine zk [0, 1, 2, 3, 4, 6, 7, 8] I fun I => ?_
   refine zo2 5 9 I (fun I => ?_) (fun I => ?_)
   · refine zn I fun Al W I => ?_
     refine zo 9 I fun I => ?_
     refine zn I fun Al W I => ?_
     refine zo 10 I fun I => ?_
     refine zg I (fun Al W I => (HF W I.fa.1 I.fa.2.1).out) fun Al V Iv _ hB _ kz => ?_
     rintro _ W ⟨p15, c15, rfl, o15, hb⟩
     refine ⟨_, rfl, kz _ _ hb fun I => ?_⟩
     have I := I.own o15
     refine zo 11 I fun I => ?_
     refine zge I 0 139 (fun Al W I => have hzW := I.bel.size; (HP p15 c15 _ _ W (I.box 0 139 _) I.fa.1 (by omega)).out) fun Al V Iv _ _ kz => ?_
     rintro _ W ⟨p16, c16, rfl, o16, hO, hB⟩
     refine ⟨_, rfl, kz _ (uS f n way (fl : Int)) _ hO hB fun I => ?_⟩
     have I := I.own o16
     refine zo 12 I fun I => ?_
     refine zn I fun Al W I => ?_
     exact b0e I J fun Al W U I => hJ _ _ _ _ _ ⟨U, p16, c16, rfl, rfl, rfl⟩ (I.pick [0, 2, 3])
   refine zn I fun Al W I => ?_
   refine zo 5 I fun I => ?_
   refine zn I fun Al W I => ?_
   refine zo 10 I fun I => ?_
   refine zg I (fun Al W I => (HF W I.fa.1 I.fa.2.1).out) fun Al V Iv _ hB _ kz => ?_
   rintro _ W ⟨p15, c15, rfl, o15, hb⟩
   refine ⟨_, rfl, kz _ _ hb fun I => ?_⟩
   have I := I.own o15
   refine zo 11 I fun I => ?_
   refine zge I 0 139 (fun Al W I => have hzW := I.bel.size; (HP p15 c15 _ _ W (I.box 0 139 _) I.fa.1 (by omega)).out) fun Al V Iv _ _ kz => ?_
   rintro _ W ⟨p16, c16, rfl, o16, hO, hB⟩
   refine ⟨_, rfl, kz _ (uS f n way (fl : Int)) _ hO hB fun I => ?_⟩
   have I := I.own o16
   refine zo 12 I fun I => ?_
   refine zn I fun Al W I => ?_
   exact b0e I J fun Al W U I => hJ _ _ _ _ _ ⟨U, p16, c16, rfl, rfl, rfl⟩ (I.pick [0, 2, 3])
 rintro _ _ _ ⟨U1, p16, c16, rfl, rfl, rfl⟩ Al W I
 exact zret I fun Al W I => ⟨p16, c16, rfl, I.fa.1, I.bel, I.boxE 139 _⟩
structure VrOk (r : Vr) : Prop where
 c : 1 ≤ r.cls ∧ r.cls ≤ 5
 x0 : r.cls ≠ 2 → r.x = vz
 x2 : r.cls = 2 → r.x.m ≠ 0 ∧ r.x.neg = r.neg
 bare : Bare r.x
 len : (dig B32 r.x.m).length ≤ 20
 lo : -18000 ≤ r.x.e
 hi : r.x.e ≤ 18000
def f0s (f : Fm) (n way : Int) (u : Nat) (w : World) (base : Nat) (r : Vr × Nat) (en : Ending) (w' : World) : Prop :=
 ∃ v, VRep f v r.1 ∧ j0t f n way ((r.2 : Nat) : Int) u w base v en w'
theorem a0t {f : Fm} {n way : Int} {u k fl base : Nat} {g : Bool} {x : Dv} {w w' : World} {en : Ending} (hk2 : k ≠ 2) (h : en = .returned (.agg #[.int .i64 (k : Int), .bool g, .slice none 0 0, .int .i64 0])) (hk : Kp [u] w w') (hb : Bt w' u 139 #[.int .i64 n, .int .i64 way, .int .i64 f.g.rad, .int .i64 f.g.digs, .int .i64 f.g.lo, .int .i64 f.g.hi, .bool f.g.grad, .int .u8 (famB f), .int .i64 (fl : Int)]) : f0s f n way u w base (⟨k, g, x⟩, fl) en w' :=
 ⟨⟨k, g, 0, 0⟩, f0l hk2, f0z h hk hb⟩
theorem f0s.mono {f : Fm} {n way : Int} {u base b' : Nat} {w w' : World} {r : Vr × Nat} {en : Ending} (h : f0s f n way u w base r en w') (hb : b' ≤ base) : f0s f n way u w b' r en w' := by
 obtain ⟨v, h1, p, k, h2, h3, h4, h5⟩ := h
 exact ⟨v, h1, p, k, h2, h3.mono hb, h4, h5⟩
theorem d1e (f : Fm) (n way fl : Int) (v : Vl) (r : Vr) (p : Option Addr) (c b0 u : Nat) (w : World) (U : Bt w u 139 #[.int .i64 n, .int .i64 way, .int .i64 f.g.rad, .int .i64 f.g.digs, .int .i64 f.g.lo, .int .i64 f.g.hi, .bool f.g.grad, .int .u8 (famB f), .int .i64 fl]) (hp : Own w b0 .u32 160 p c (dig B32 v.d)) (V : VRep f v r) (R : VrOk r) (hT : TabW w) :
 Calls Tryz.prog 72 #[.pointer (some ⟨u, 0, none⟩), .agg #[.int .i64 (v.cls : Int), .bool v.neg, .slice p (dig B32 v.d).length c, .int .i64 v.pow]] w (f0p w w.heap.size r.x) := by
 have hx : bare ⟨v.neg, v.d, wid f.g * v.pow⟩ = r.x := by
  by_cases h2 : r.cls = 2
  · exact V.num h2
  · rw [R.x0 h2, (V.oth h2).1]; rfl
 have hl := V.len
 have hlo := V.lo
 have hhi := V.hi
 have wp := b0j f.g
 have hmu := k0t (wd := wid f.g) (k := v.pow) (B := 20000) wp.2 ⟨hlo, hhi⟩
 rw [← hx, ← s0s]
 clear hx R V
 obtain ⟨cls, g, d0, pw⟩ := v
 simp only at *
 generalize hmw : (wid f.g : Int) * pw = mw at *
 have HMW := hi0 hmw
 have HW := fun W u hU => hi0 (d1b f n way fl u W hU)
 have HH := fun W (c : Nat) h1 h0 h2 => hi0 (t0a p _ c mw d0 W h1 rfl h0 (by omega) (by omega) h2)
 clear hmw
 generalize hd : bare ⟨false, d0, mw⟩ = d at *
 clear hd
 cases g with
 | false =>
  rw [if_neg (by simp)]
  have I := Inv.startR w [u] [⟨139, (uS f n way fl), true⟩] [ownF b0 .u32 160 p c (dig B32 d0), tabF] ⟨U, True.intro⟩ ⟨hp, hT, True.intro⟩
  refine a0d [.p 0 0, .v (.agg #[.int .i64 (cls : Int), .bool false, .slice p (dig B32 d0).length c, .int .i64 pw])] I Tryz.func72 ?_
  refine zcut I none (fun fr bx gs => ∃ (U1 : Nat → Value) (p13 : Option Addr) (c13 : Nat), fr = (.p 0 0 :: .v (.agg #[.int .i64 (cls : Int), .bool false, .slice p (dig B32 d0).length c, .int .i64 pw]) :: .v undef :: .p 1 0 :: .p 2 0 :: .p 3 0 :: sw U1 6 9 (.v undef :: sw U1 16 3 []) : List SV) ∧ bx = [⟨139, (uS f n way fl), true⟩, ⟨70, [.v (.int .i64 (cls : Int)), .v (.bool false), .v (.slice p (dig B32 d0).length c), .v (.int .i64 pw)], false⟩, ⟨119, [.v (.bool false), .v (.slice none 0 0), .v (.int .i64 0)], false⟩, ⟨119, [.v (.bool d.neg), .v (.slice p13 (dig B32 d.m).length c13), .v (.int .i64 d.e)], false⟩] ∧ gs = [ownF w.heap.size .u32 160 p13 c13 (dig B32 d.m), ownF b0 .u32 160 p c (dig B32 d0), tabF]) ?_ ?_
  · intro J hJ Al W I
    refine zd [] I fun Al W I => ?_
    refine zk [0, 1, 2, 4, 5] I fun I => ?_
    refine zo2 3 8 I (fun I => ?_) (fun I => ?_)
    · refine zg I (fun Al W I => (HW W _ (I.box 0 139 _)).out) fun Al V Iv _ hB _ kz => ?_
      rintro _ W ⟨rfl, hb⟩
      refine ⟨_, rfl, kz _ _ hb fun I => ?_⟩
      refine zki 6 I .i64 (((wid f.g : Nat) : Int) * pw) (mw) ((by rw [HMW.out]; exact iwo)) fun I => ?_
      refine zo2 7 8 I (fun I => ?_) (fun I => ?_)
      · refine zg I (fun Al W I => (HH W c I.fa.1.rd I.fa.1.le_cap I.fa.2.1).out) fun Al V Iv _ hB _ kz => ?_
        rintro _ W ⟨p13, c13, rfl, o13, hb⟩
        refine ⟨_, rfl, kz _ _ hb fun I => ?_⟩
        have I := I.own o13
        refine zo 8 I fun I => ?_
        refine zn I fun Al W I => ?_
        refine zo 9 I fun I => ?_
        refine zn I fun Al W I => ?_
        exact b0e I J fun Al W U I => hJ _ _ _ _ _ ⟨U, p13, c13, rfl, rfl, rfl⟩ (I.pick [0, 1, 2])
      refine zn I fun Al W I => ?_
      refine zo 7 I fun I => ?_
      refine zg I (fun Al W I => (HH W c I.fa.1.rd I.fa.1.le_cap I.fa.2.1).out) fun Al V Iv _ hB _ kz => ?_
      rintro _ W ⟨p13, c13, rfl, o13, hb⟩
      refine ⟨_, rfl, kz _ _ hb fun I => ?_⟩
      have I := I.own o13
      refine zo 9 I fun I => ?_
      refine zn I fun Al W I => ?_
      exact b0e I J fun Al W U I => hJ _ _ _ _ _ ⟨U, p13, c13, rfl, rfl, rfl⟩ (I.pick [0, 1, 2])
    refine zn I fun Al W I => ?_
    refine zo 3 I fun I => ?_
    refine zg I (fun Al W I => (HW W _ (I.box 0 139 _)).out) fun Al V Iv _ hB _ kz => ?_
    rintro _ W ⟨rfl, hb⟩
    refine ⟨_, rfl, kz _ _ hb fun I => ?_⟩
    refine zki 6 I .i64 (((wid f.g : Nat) : Int) * pw) (mw) ((by rw [HMW.out]; exact iwo)) fun I => ?_
    refine zo 7 I fun I => ?_
    refine zg I (fun Al W I => (HH W c I.fa.1.rd I.fa.1.le_cap I.fa.2.1).out) fun Al V Iv _ hB _ kz => ?_
    rintro _ W ⟨p13, c13, rfl, o13, hb⟩
    refine ⟨_, rfl, kz _ _ hb fun I => ?_⟩
    have I := I.own o13
    refine zo 9 I fun I => ?_
    refine zn I fun Al W I => ?_
    exact b0e I J fun Al W U I => hJ _ _ _ _ _ ⟨U, p13, c13, rfl, rfl, rfl⟩ (I.pick [0, 1, 2])
  rintro _ _ _ ⟨U1, p13, c13, rfl, rfl, rfl⟩ Al W I
  exact zret I fun Al W I => ⟨p13, c13, rfl, I.fa.1.mono (by omega), I.below⟩
 | true =>
  rw [if_pos rfl]
  have I := Inv.startR w [u] [⟨139, (uS f n way fl), true⟩] [ownF b0 .u32 160 p c (dig B32 d0), tabF] ⟨U, True.intro⟩ ⟨hp, hT, True.intro⟩
  refine a0d [.p 0 0, .v (.agg #[.int .i64 (cls : Int), .bool true, .slice p (dig B32 d0).length c, .int .i64 pw])] I Tryz.func72 ?_
  refine zcut I none (fun fr bx gs => ∃ (U1 : Nat → Value) (p13 : Option Addr) (c13 : Nat), fr = (.p 0 0 :: .v (.agg #[.int .i64 (cls : Int), .bool true, .slice p (dig B32 d0).length c, .int .i64 pw]) :: .v undef :: .p 1 0 :: .p 2 0 :: .p 3 0 :: sw U1 6 9 (.v undef :: sw U1 16 3 []) : List SV) ∧ bx = [⟨139, (uS f n way fl), true⟩, ⟨70, [.v (.int .i64 (cls : Int)), .v (.bool true), .v (.slice p (dig B32 d0).length c), .v (.int .i64 pw)], false⟩, ⟨119, [.v (.bool false), .v (.slice none 0 0), .v (.int .i64 0)], false⟩, ⟨119, [.v (.bool d.neg), .v (.slice p13 (dig B32 d.m).length c13), .v (.int .i64 d.e)], false⟩] ∧ gs = [ownF w.heap.size .u32 160 p13 c13 (dig B32 d.m), ownF b0 .u32 160 p c (dig B32 d0), tabF]) ?_ ?_
  · intro J hJ Al W I
    refine zd [] I fun Al W I => ?_
    refine zk [0, 1, 2, 4, 5] I fun I => ?_
    refine zo2 3 8 I (fun I => ?_) (fun I => ?_)
    · refine zg I (fun Al W I => (HW W _ (I.box 0 139 _)).out) fun Al V Iv _ hB _ kz => ?_
      rintro _ W ⟨rfl, hb⟩
      refine ⟨_, rfl, kz _ _ hb fun I => ?_⟩
      refine zki 6 I .i64 (((wid f.g : Nat) : Int) * pw) (mw) ((by rw [HMW.out]; exact iwo)) fun I => ?_
      refine zo2 7 8 I (fun I => ?_) (fun I => ?_)
      · refine zg I (fun Al W I => (HH W c I.fa.1.rd I.fa.1.le_cap I.fa.2.1).out) fun Al V Iv _ hB _ kz => ?_
        rintro _ W ⟨p13, c13, rfl, o13, hb⟩
        refine ⟨_, rfl, kz _ _ hb fun I => ?_⟩
        have I := I.own o13
        refine zo 8 I fun I => ?_
        refine zn I fun Al W I => ?_
        refine zo 9 I fun I => ?_
        refine zn I fun Al W I => ?_
        exact b0e I J fun Al W U I => hJ _ _ _ _ _ ⟨U, p13, c13, rfl, rfl, rfl⟩ (I.pick [0, 1, 2])
      refine zn I fun Al W I => ?_
      refine zo 7 I fun I => ?_
      refine zg I (fun Al W I => (HH W c I.fa.1.rd I.fa.1.le_cap I.fa.2.1).out) fun Al V Iv _ hB _ kz => ?_
      rintro _ W ⟨p13, c13, rfl, o13, hb⟩
      refine ⟨_, rfl, kz _ _ hb fun I => ?_⟩
      have I := I.own o13
      refine zo 9 I fun I => ?_
      refine zn I fun Al W I => ?_
      exact b0e I J fun Al W U I => hJ _ _ _ _ _ ⟨U, p13, c13, rfl, rfl, rfl⟩ (I.pick [0, 1, 2])
    refine zn I fun Al W I => ?_
    refine zo 3 I fun I => ?_
    refine zg I (fun Al W I => (HW W _ (I.box 0 139 _)).out) fun Al V Iv _ hB _ kz => ?_
    rintro _ W ⟨rfl, hb⟩
    refine ⟨_, rfl, kz _ _ hb fun I => ?_⟩
    refine zki 6 I .i64 (((wid f.g : Nat) : Int) * pw) (mw) ((by rw [HMW.out]; exact iwo)) fun I => ?_
    refine zo 7 I fun I => ?_
    refine zg I (fun Al W I => (HH W c I.fa.1.rd I.fa.1.le_cap I.fa.2.1).out) fun Al V Iv _ hB _ kz => ?_
    rintro _ W ⟨p13, c13, rfl, o13, hb⟩
    refine ⟨_, rfl, kz _ _ hb fun I => ?_⟩
    have I := I.own o13
    refine zo 9 I fun I => ?_
    refine zn I fun Al W I => ?_
    exact b0e I J fun Al W U I => hJ _ _ _ _ _ ⟨U, p13, c13, rfl, rfl, rfl⟩ (I.pick [0, 1, 2])
  rintro _ _ _ ⟨U1, p13, c13, rfl, rfl, rfl⟩ Al W I
  refine zg I (fun Al W I => b1y d.neg p13 _ c13 d.e d.m W rfl) fun Al V Iv _ hB _ kz => ?_
  rintro _ W ⟨rfl, hb⟩
  refine ⟨_, rfl, kz _ _ hb fun I => ?_⟩
  exact zret I fun Al W I => ⟨p13, c13, rfl, I.fa.1.mono (by omega), I.below⟩
theorem n1e (f : Fm) (n way : Int) (u : Nat) (w : World) (U : Bt w u 139 #[.int .i64 n, .int .i64 way, .int .i64 f.g.rad, .int .i64 f.g.digs, .int .i64 f.g.lo, .int .i64 f.g.hi, .bool f.g.grad, .int .u8 (famB f), .int .i64 0]) (fl : Nat) (b : Int) (hc : bits .or .i64 0 b = (fl : Nat)) :
 Calls Tryz.prog 70 #[.pointer (some ⟨u, 0, none⟩), .int .i64 b] w (f0s f n way u w w.heap.size (f.nothM, fl)) := by
 have HR := fun W u hU => hi0 (c0s f n way 0 b (fl : Nat) u W hU hc)
 have HN := fun W u hU => hi0 (k0y f n way (fl : Nat) u W hU)
 have hk : f.nothM.cls ≠ 2 := by unfold Fm.nothM; simp only; split <;> (try split) <;> omega
 have e : f.nothM = ⟨f.nothM.cls, false, vz⟩ := rfl
 rw [e]
 generalize f.nothM.cls = k at *
 have I := Inv.startW w u 139 (uS f n way 0) [] U True.intro True.intro
 refine a0d [.p 0 0, .v (.int .i64 b)] I Tryz.func70 ?_
 refine zge I 0 139 (fun Al W I => (HR W _ (I.box 0 139 _)).out) fun Al V Iv _ _ kz => ?_
 rintro _ W ⟨rfl, hO, hB⟩
 refine ⟨_, rfl, kz _ (uS f n way (fl : Int)) _ hO hB fun I => ?_⟩
 refine zg I (fun Al W I => (HN W _ (I.box 0 139 _)).out) fun Al V Iv _ hB _ kz => ?_
 rintro _ W ⟨rfl, hb⟩
 refine ⟨_, rfl, kz _ _ hb fun I => ?_⟩
 exact zret I fun Al W I => a0t hk rfl I.bel (I.boxE 139 _)
theorem g1f (f : Fm) (n way : Int) (x : Dv) (p : Option Addr) (c u : Nat) (w : World) (U : Bt w u 139 #[.int .i64 n, .int .i64 way, .int .i64 f.g.rad, .int .i64 f.g.digs, .int .i64 f.g.lo, .int .i64 f.g.hi, .bool f.g.grad, .int .u8 (famB f), .int .i64 0]) (hp : Rd w .u32 p (dig B32 x.m))
 (hl : (dig B32 x.m).length ≤ 100000) (he : -1000000 ≤ x.e ∧ x.e ≤ 1000000) (G : c0h f) (hw : 1 ≤ way ∧ way ≤ 5) :
 Calls Tryz.prog 94 #[.pointer (some ⟨u, 0, none⟩), .agg #[.bool x.neg, .slice p (dig B32 x.m).length c, .int .i64 x.e]] w (f0s f n way u w w.heap.size (f.numM x way)) := by
 have hs : f0u ⟨x.neg, x.m, x.e⟩ = f0u x := rfl
 have HS := fun W => hi0 (d0c x.neg p _ c x.e x.m W rfl)
 rw [hs] at HS
 have h0 := n0f x
 by_cases hx : x.m = 0
 · have hn : f.numM x way = (⟨1, false, vz⟩, 0) := by unfold Fm.numM Fm.zeroM; rw [if_pos hx]; simp
   rw [hn]
   have HZ := fun W u hU => hi0 (d1c f n way 0 false u W hU)
   rw [Bool.false_and] at HZ
   have hd := h0.2 hx
   generalize f0u x = sx at *
   have I := Inv.startW w u 139 (uS f n way 0) [rdF .u32 p (dig B32 x.m)] U ⟨hp, True.intro⟩ ⟨fun hf => hp.far U (by kernel_rfl) hf.1 hf.2, True.intro⟩
   refine a0d [.p 0 0, .v (.agg #[.bool x.neg, .slice p (dig B32 x.m).length c, .int .i64 x.e])] I Tryz.func94 ?_
   refine zg I (fun Al W I => (HS W).out) fun Al V Iv _ hB _ kz => ?_
   rintro _ W ⟨rfl, hb⟩
   refine ⟨_, rfl, kz _ _ hb fun I => ?_⟩
   refine zb I 7 (sx == 0) (true) (beq_iff_eq.2 hd) fun Al W I => ?_
   refine zg I (fun Al W I => (HZ W _ (I.box 0 139 _)).out) fun Al V Iv _ hB _ kz => ?_
   rintro _ W ⟨rfl, hb⟩
   refine ⟨_, rfl, kz _ _ hb fun I => ?_⟩
   exact zret I fun Al W I => a0t (k := 1) (by decide) rfl I.bel (I.boxE 139 _)
 · have hn : f.numM x way = f.placedM (a0n x.neg x.m 1 x.e f.g way) way := by unfold Fm.numM; rw [if_neg hx]
   rw [hn]
   have hd : f0u x ≠ 0 := fun h => hx (h0.1 h)
   have l1 : (dig B32 1).length ≤ 1 := by rw [a0h a0b]; unfold B32; omega
   have HF := fun p q c d u W U h1 h2 => hi0 (o1n f n way x.neg p q c d x.m 1 x.e u W U h1 h2 hl (by omega) (by omega) (by omega) he G hw)
   have HV := (l0t G (neg := x.neg) (num := x.m) (den := 1) (e := x.e) (way := way) (by omega)).2
   have hm : f.placedM (a0n x.neg x.m 1 x.e f.g way) way = ((f.placedM (a0n x.neg x.m 1 x.e f.g way) way).1, (f.placedM (a0n x.neg x.m 1 x.e f.g way) way).2) := rfl
   rw [hm]
   generalize (f.placedM (a0n x.neg x.m 1 x.e f.g way) way).1 = r at *
   generalize (f.placedM (a0n x.neg x.m 1 x.e f.g way) way).2 = fl at *
   generalize f.placedV (a0n x.neg x.m 1 x.e f.g way) way = v at *
   generalize f0u x = sx at *
   have I := Inv.startW w u 139 (uS f n way 0) [rdF .u32 p (dig B32 x.m)] U ⟨hp, True.intro⟩ ⟨fun hf => hp.far U (by kernel_rfl) hf.1 hf.2, True.intro⟩
   refine a0d [.p 0 0, .v (.agg #[.bool x.neg, .slice p (dig B32 x.m).length c, .int .i64 x.e])] I Tryz.func94 ?_
   refine zg I (fun Al W I => (HS W).out) fun Al V Iv _ hB _ kz => ?_
   rintro _ W ⟨rfl, hb⟩
   refine ⟨_, rfl, kz _ _ hb fun I => ?_⟩
   refine zb I 7 (sx == 0) (false) (bFn hd) fun Al W I => ?_
   refine zd [0, 2] I fun Al W I => ?_
   refine zk [0, 1, 2, 3, 4, 5, 6, 8, 9, 10] I fun I => ?_
   refine zo 7 I fun I => ?_
   refine zg I (fun Al W I => have hzW := I.bel.size; sof 1 1 rfl (by omega) W) fun Al V Iv _ hB _ kz => ?_
   rintro _ W ⟨p17, c17, rfl, o17, hb⟩
   refine ⟨_, rfl, kz _ _ hb fun I => ?_⟩
   have I := I.own o17
   refine zk [11] I fun I => ?_
   refine zo 12 I fun I => ?_
   refine zge I 0 139 (fun Al W I => (HF p p17 c c17 _ W (I.box 0 139 _) I.fa.2.1 I.fa.1.rd).out) fun Al V Iv _ _ kz => ?_
   rintro _ W ⟨p22, c22, rfl, o22, hO, hB⟩
   refine ⟨_, rfl, kz _ (uS f n way (fl : Int)) _ hO hB fun I => ?_⟩
   have I := I.own o22
   refine zo 13 I fun I => ?_
   refine zn I fun Al W I => ?_
   exact zret I fun Al W I => ⟨v, HV, p22, c22, rfl, I.fa.1.mono (by omega), I.bel, I.boxE 139 _⟩
structure Vp where
 v : Vl
 p : Option Addr
 c : Nat
def Vp.cells (x : Vp) : List Value := [.int .i64 (x.v.cls : Int), .bool x.v.neg, .slice x.p (dig B32 x.v.d).length x.c, .int .i64 x.v.pow]
theorem Vp.len (x : Vp) : x.cells.length = 4 := rfl
theorem r0v : y0t Tryz.prog 68 70 4 48 := x0b (z := .agg #[.int .i64 0, .bool false, .slice none 0 0, .int .i64 0]) (by kernel_rfl) (by kernel_rfl) (by kernel_rfl) (by kernel_rfl) (by kernel_rfl)
theorem h0r : d0k Tryz.prog 70 4 := c0d (by kernel_rfl) (by kernel_rfl)
theorem h1v (f : Fm) (n way fl : Int) (xs : List Vp) (b m u : Nat) (w : World) (U : Bt w u 139 #[.int .i64 n, .int .i64 way, .int .i64 f.g.rad, .int .i64 f.g.digs, .int .i64 f.g.lo, .int .i64 f.g.hi, .bool f.g.grad, .int .u8 (famB f), .int .i64 fl]) (hB : Bt w b 70 (xs.flatMap Vp.cells).toArray) (hm : m = xs.length) (hl : xs.length ≤ 1000) (hno : ∀ x ∈ xs, x.v.cls < 4) :
 Calls Tryz.prog 68 #[.pointer (some ⟨u, 0, none⟩), .slice (some ⟨b, 0, none⟩) m m] w fun en w' => en = .returned (.tuple #[.agg #[.int .i64 0, .bool false, .slice none 0 0, .int .i64 0], .bool false]) ∧ Below w.heap.size w w' := by
 subst hm
 have HX : ∀ i, i < xs.length → ∃ x : Vp, xs[i]? = some x ∧ x.v.cls < 4 := fun i h => ⟨xs[i], List.getElem?_eq_getElem h, hno _ (List.getElem_mem h)⟩
 have I := Inv.startR w [u] [⟨139, (uS f n way fl), true⟩] [btF b 70 (xs.flatMap Vp.cells).toArray] ⟨U, True.intro⟩ ⟨hB, True.intro⟩
 refine a0d [.p 0 0, .v (.slice (some ⟨b, 0, none⟩) xs.length xs.length)] I Tryz.func68 ?_
 refine o0q I (fun gk fr bx gs => ∃ (U900 : Nat → Value) (i : Nat), fr = (.p 0 0 :: .v (.slice (some ⟨b, 0, none⟩) xs.length xs.length) :: su 2 (.p 1 0 :: .v (U900 5) :: .v undef :: .v (U900 7) :: .v (.slice (some ⟨b, 0, none⟩) xs.length xs.length) :: .v (.int .i64 (xs.length : Int)) :: .v (.int .i64 (i : Int)) :: sw U900 11 16 []) : List SV) ∧ bx = [⟨139, (uS f n way fl), true⟩, ⟨70, [.v (.int .i64 0), .v (.bool false), .v (.slice none 0 0), .v (.int .i64 0)], false⟩] ∧ gs = [btF b 70 (xs.flatMap Vp.cells).toArray] ∧ (gk + i = xs.length)) xs.length (fun Al W U I => ⟨_, ⟨U, 0, rfl, rfl, rfl, (by omega)⟩, I.pick [0]⟩) ?_
 rintro J gk0 _ _ _ ⟨U900, i, rfl, rfl, rfl, hgk⟩ hJ Al W I
 rcases Bool.eq_false_or_eq_true (decide ((i : Int) < (xs.length : Int))) with f11 | f11
 · refine zb I 11 (decide ((i : Int) < (xs.length : Int))) (true) (f11) fun Al W I => ?_
   obtain ⟨x, hx, hx4⟩ := HX i (by have := oTr f11; omega)
   refine zx I 12 (fun _ => .pointer (some (at_ (some ⟨b, 0, none⟩) (i * 4)))) (fun Al W I => (h0p (m := i) (n := xs.length) (c := xs.length) r0v (fun _ => ⟨rfl, rfl⟩) (by have := oTr f11; omega))) fun Al W I => ?_
   refine zx I 13 (fun _ => .agg #[.int .i64 (x.v.cls : Int), .bool x.v.neg, .slice x.p (dig B32 x.v.d).length x.c, .int .i64 x.v.pow]) (fun Al W I => (h1t I.fa.1 h0r x.cells (r0u Vp.len hx) rfl)) fun Al W I => ?_
   refine zg I (fun Al W I => i0l x.v.cls x.v.neg x.p (dig B32 x.v.d).length x.c x.v.pow W) fun Al V Iv _ hB _ kz => ?_
   rintro _ W ⟨rfl, hb⟩
   refine ⟨_, congrArg (fun b => Ending.returned (.bool b)) (show (decide (x.v.cls = 4) || decide (x.v.cls = 5)) = false from (by rw [decide_eq_false (by omega), decide_eq_false (by omega)]; rfl)), kz _ _ hb fun I => ?_⟩
   refine zi I 25 .i64 ((i : Int) + 1) (((i + 1 : Nat) : Int)) ((by rw [show ((i : Int) + 1) = ((i + 1 : Nat) : Int) by omega]; exact IntWalk.i64_in _ (by have := oTr f11; omega))) fun Al W I => ?_
   exact p0w 2 I J fun Al W U I => hJ (gk0 - 1) _ _ _ _ _ ((by have := oTr f11; omega)) ⟨U, i + 1, rfl, rfl, rfl, (by have := oTr f11; omega)⟩ (I.pick [0])
 refine zb I 11 (decide ((i : Int) < (xs.length : Int))) (false) (f11) fun Al W I => ?_
 exact zret I fun Al W I => ⟨rfl, I.below⟩
theorem d1f (f : Fm) (n way : Int) (xs : List Vp) (b m u : Nat) (w : World) (U : Bt w u 139 #[.int .i64 n, .int .i64 way, .int .i64 f.g.rad, .int .i64 f.g.digs, .int .i64 f.g.lo, .int .i64 f.g.hi, .bool f.g.grad, .int .u8 (famB f), .int .i64 0]) (hB : Bt w b 70 (xs.flatMap Vp.cells).toArray) (hm : m = xs.length) (hl : xs.length ≤ 1000) (hc : ∀ x ∈ xs, x.v.cls ≤ 5) (G : c0h f) (hyes : ∃ x ∈ xs, 4 ≤ x.v.cls) :
 Calls Tryz.prog 68 #[.pointer (some ⟨u, 0, none⟩), .slice (some ⟨b, 0, none⟩) m m] w fun en w' => en = .returned (.tuple #[.agg #[.int .i64 (f.nothM.cls : Int), .bool false, .slice none 0 0, .int .i64 0], .bool true]) ∧ Kp [u] w w' ∧ Bt w' u 139 #[.int .i64 n, .int .i64 way, .int .i64 f.g.rad, .int .i64 f.g.digs, .int .i64 f.g.lo, .int .i64 f.g.hi, .bool f.g.grad, .int .u8 (famB f), .int .i64 ((f.offM.2 : Nat) : Int)] := by
 subst hm
 have HX : ∀ i, i < xs.length → ∃ x : Vp, xs[i]? = some x ∧ x.v.cls ≤ 5 := fun i h => ⟨xs[i], List.getElem?_eq_getElem h, hc _ (List.getElem_mem h)⟩
 obtain ⟨y, hy, hy4⟩ := hyes
 obtain ⟨j, hj, hjy⟩ := List.getElem_of_mem hy
 have hYJ : xs[j]? = some y := by rw [List.getElem?_eq_getElem hj, hjy]
 clear hjy hy hc
 have HN := fun fl W u hU => hi0 (k0y f n way fl u W hU)
 have HR := fun W u hU => hi0 (c0s f n way 0 16 16 u W hU (by decide +kernel))
 have e2 : f.fam = 3 → ((f.offM.2 : Nat) : Int) = 16 ∧ famB f = 67 := fun h => ⟨by unfold Fm.offM; rw [if_pos h]; rfl, by unfold famB; rw [if_neg (by omega), if_neg (by omega)]⟩
 have e3 : f.fam ≠ 3 → ((f.offM.2 : Nat) : Int) = 0 := fun h => by unfold Fm.offM; rw [if_neg h]; rfl
 have e4 : f.fam ≠ 3 → famB f ≠ 67 := fun h => by have := G.fam; unfold famB; split; decide; rw [if_pos (by omega)]; decide
 generalize ((f.offM.2 : Nat) : Int) = fl at *
 generalize f.nothM.cls = kN at *
 have I := Inv.startW w u 139 (uS f n way 0) [btF b 70 (xs.flatMap Vp.cells).toArray] U ⟨hB, True.intro⟩ ⟨fun hf => hB.far U (by kernel_rfl) hf, True.intro⟩
 refine a0d [.p 0 0, .v (.slice (some ⟨b, 0, none⟩) xs.length xs.length)] I Tryz.func68 ?_
 refine o0q I (fun gk fr bx gs => ∃ (U900 : Nat → Value) (i : Nat), fr = (.p 0 0 :: .v (.slice (some ⟨b, 0, none⟩) xs.length xs.length) :: su 2 (.p 1 0 :: .v (U900 5) :: .v undef :: .v (U900 7) :: .v (.slice (some ⟨b, 0, none⟩) xs.length xs.length) :: .v (.int .i64 (xs.length : Int)) :: .v (.int .i64 (i : Int)) :: sw U900 11 16 []) : List SV) ∧ bx = [⟨139, (uS f n way 0), false⟩, ⟨70, [.v (.int .i64 0), .v (.bool false), .v (.slice none 0 0), .v (.int .i64 0)], false⟩] ∧ gs = [btF b 70 (xs.flatMap Vp.cells).toArray] ∧ (gk + i = xs.length) ∧ (∀ (j : Nat) (x : Vp), j < i → xs[j]? = some x → x.v.cls < 4)) xs.length (fun Al W U I => ⟨_, ⟨U, 0, rfl, rfl, rfl, (by omega), (fun _ _ h => absurd h (by omega))⟩, I.pick [0]⟩) ?_
 rintro J gk0 _ _ _ ⟨U900, i, rfl, rfl, rfl, hgk, hlt⟩ hJ Al W I
 rcases Bool.eq_false_or_eq_true (decide ((i : Int) < (xs.length : Int))) with f11 | f11
 · refine zb I 11 (decide ((i : Int) < (xs.length : Int))) (true) (f11) fun Al W I => ?_
   obtain ⟨x, hx, hx5⟩ := HX i (by have := oTr f11; omega)
   refine zx I 12 (fun _ => .pointer (some (at_ (some ⟨b, 0, none⟩) (i * 4)))) (fun Al W I => (h0p (m := i) (n := xs.length) (c := xs.length) r0v (fun _ => ⟨rfl, rfl⟩) (by have := oTr f11; omega))) fun Al W I => ?_
   refine zx I 13 (fun _ => .agg #[.int .i64 (x.v.cls : Int), .bool x.v.neg, .slice x.p (dig B32 x.v.d).length x.c, .int .i64 x.v.pow]) (fun Al W I => (h1t I.fa.1 h0r x.cells (r0u Vp.len hx) rfl)) fun Al W I => ?_
   by_cases hof : 4 ≤ x.v.cls
   · refine zg I (fun Al W I => i0l x.v.cls x.v.neg x.p (dig B32 x.v.d).length x.c x.v.pow W) fun Al V Iv _ hB _ kz => ?_
     rintro _ W ⟨rfl, hb⟩
     refine ⟨_, congrArg (fun b => Ending.returned (.bool b)) (show (decide (x.v.cls = 4) || decide (x.v.cls = 5)) = true from (by rcases (show x.v.cls = 4 ∨ x.v.cls = 5 by omega) with h | h <;> rw [h] <;> rfl)), kz _ _ hb fun I => ?_⟩
     by_cases hf3 : f.fam = 3
     · refine zb I 20 ((famB f) == 67) (true) (beq_iff_eq.2 (e2 hf3).2) fun Al W I => ?_
       refine zge I 0 139 (fun Al W I => (HR W _ (I.box 0 139 _)).out) fun Al V Iv _ _ kz => ?_
       rintro _ W ⟨rfl, hO, hB⟩
       refine ⟨_, rfl, kz _ (uS f n way 16) _ hO hB fun I => ?_⟩
       refine zg I (fun Al W I => (HN 16 W _ (I.box 0 139 _)).out) fun Al V Iv _ hB _ kz => ?_
       rintro _ W ⟨rfl, hb⟩
       refine ⟨_, rfl, kz _ _ hb fun I => ?_⟩
       refine zret I (v := fun Al => .tuple #[.agg #[.int .i64 (kN : Int), .bool false, .slice none 0 0, .int .i64 0], .bool true]) fun Al W I => ?_
       first | exact ⟨rfl, I.bel, by rw [(e2 hf3).1]; exact I.boxE 139 _⟩ | exact ⟨rfl, I.bel, by rw [e3 hf3]; exact I.boxE 139 _⟩
     refine zb I 20 ((famB f) == 67) (false) (bFn (e4 hf3)) fun Al W I => ?_
     refine zg I (fun Al W I => (HN 0 W _ (I.box 0 139 _)).out) fun Al V Iv _ hB _ kz => ?_
     rintro _ W ⟨rfl, hb⟩
     refine ⟨_, rfl, kz _ _ hb fun I => ?_⟩
     refine zret I (v := fun Al => .tuple #[.agg #[.int .i64 (kN : Int), .bool false, .slice none 0 0, .int .i64 0], .bool true]) fun Al W I => ?_
     first | exact ⟨rfl, I.bel, by rw [(e2 hf3).1]; exact I.boxE 139 _⟩ | exact ⟨rfl, I.bel, by rw [e3 hf3]; exact I.boxE 139 _⟩
   refine zg I (fun Al W I => i0l x.v.cls x.v.neg x.p (dig B32 x.v.d).length x.c x.v.pow W) fun Al V Iv _ hB _ kz => ?_
   rintro _ W ⟨rfl, hb⟩
   refine ⟨_, congrArg (fun b => Ending.returned (.bool b)) (show (decide (x.v.cls = 4) || decide (x.v.cls = 5)) = false from (by rw [decide_eq_false (by omega), decide_eq_false (by omega)]; rfl)), kz _ _ hb fun I => ?_⟩
   refine zi I 25 .i64 ((i : Int) + 1) (((i + 1 : Nat) : Int)) ((by rw [show ((i : Int) + 1) = ((i + 1 : Nat) : Int) by omega]; exact IntWalk.i64_in _ (by have := oTr f11; omega))) fun Al W I => ?_
   exact p0w 2 I J fun Al W U I => hJ (gk0 - 1) _ _ _ _ _ ((by have := oTr f11; omega)) ⟨U, i + 1, rfl, rfl, rfl, (by have := oTr f11; omega), (fun j' x' h h' => by rcases (show j' < i ∨ j' = i by omega) with q | rfl; exact hlt j' x' q h'; rw [hx] at h'; cases h'; omega)⟩ (I.pick [0])
 refine zb I 11 (decide ((i : Int) < (xs.length : Int))) (false) (f11) fun Al W I => ?_
 exact zret I (v := fun Al => .tuple #[.agg #[.int .i64 0, .bool false, .slice none 0 0, .int .i64 0], .bool false]) fun Al W I => absurd (hlt j y (by have := oFa f11; omega) hYJ) (by rw [Nat.not_lt]; omega)
theorem d1g (x y : Dv) (p q : Option Addr) (c d base : Nat) (w : World) (hx : Bare x) (hy : Bare y) (sx : SmD x) (sy : SmD y) (hp : Own w base .u32 160 p c (dig B32 x.m)) (hq : Own w base .u32 160 q d (dig B32 y.m)) (hT : TabW w) (hb : base ≤ w.heap.size) :
 Calls Tryz.prog 115 #[.agg #[.bool x.neg, .slice p (dig B32 x.m).length c, .int .i64 x.e], .agg #[.bool y.neg, .slice q (dig B32 y.m).length d, .int .i64 y.e]] w (f0p w base (e0x x y)) := by
 have h1 := sx.len
 have h2 := sy.len
 have h3 := sx.lo
 have h4 := sx.hi
 have h5 := sy.lo
 have h6 := sy.hi
 have := a1a x.neg y.neg p q _ c _ d base x.e y.e x.m y.m w hp hq rfl rfl (by omega) (by omega) (by omega) (by omega) hT hb
 rw [show (⟨x.neg, x.m, x.e⟩ : Dv) = x from rfl, show (⟨y.neg, y.m, y.e⟩ : Dv) = y from rfl, q0h hx hy] at this
 exact this
theorem n1f (f : Fm) (n way : Int) (x y : Dv) (g h : Bool) (p q : Option Addr) (c d base u : Nat) (w : World) (U : Bt w u 139 #[.int .i64 n, .int .i64 way, .int .i64 f.g.rad, .int .i64 f.g.digs, .int .i64 f.g.lo, .int .i64 f.g.hi, .bool f.g.grad, .int .u8 (famB f), .int .i64 0]) (hp : Own w base .u32 160 p c (dig B32 x.m)) (hq : Own w base .u32 160 q d (dig B32 y.m)) (hb : base ≤ w.heap.size)
 (hx : Bare x) (hy : Bare y) (sx : SmD x) (sy : SmD y) (G : c0h f) (hw : 1 ≤ way ∧ way ≤ 5) (hT : TabW w) :
 Calls Tryz.prog 71 #[.pointer (some ⟨u, 0, none⟩), .agg #[.bool x.neg, .slice p (dig B32 x.m).length c, .int .i64 x.e], .agg #[.bool y.neg, .slice q (dig B32 y.m).length d, .int .i64 y.e], .bool g, .bool h] w (f0s f n way u w w.heap.size (f.sumM x y g h way)) := by
 have HP := fun W h1 h2 h3 h4 => hi0 (d1g x y p q c d base W hx hy sx sy h1 h2 h3 h4)
 have hbd := f1a sx.len sy.len sx.lo sx.hi sy.lo sy.hi
 rw [q0h hx hy] at hbd
 have hS1 : (e0x x y).m ≠ 0 → f.sumM x y g h way = f.numM (e0x x y) way := fun k => by unfold Fm.sumM; rw [if_pos k]
 have hS2 : (e0x x y).m = 0 → x.m = 0 ∧ g = h → f.sumM x y g h way = (f.zeroM g, 0) := fun k k' => by unfold Fm.sumM; rw [if_neg (fun h => h k), if_pos k']
 have hS3 : (e0x x y).m = 0 → ¬ (x.m = 0 ∧ g = h) → f.sumM x y g h way = (f.zeroM (decide (way = 5)), 0) := fun k k' => by unfold Fm.sumM; rw [if_neg (fun h => h k), if_neg k']
 generalize e0x x y = s at *
 generalize f.sumM x y g h way = R at *
 have HN := fun W u (p : Option Addr) (c : Nat) hU h1 => hi0 (g1f f n way s p c u W hU h1 (by omega) (by omega) G hw)
 have HS := fun (W : World) (p : Option Addr) (c : Nat) => hi0 (d0c s.neg p _ c s.e s.m W rfl)
 have HX := fun (W : World) => hi0 (d0c x.neg p _ c x.e x.m W rfl)
 have HZ := fun g W u hU => hi0 (d1c f n way 0 g u W hU)
 rw [show (⟨s.neg, s.m, s.e⟩ : Dv) = s from rfl] at HS
 rw [show (⟨x.neg, x.m, x.e⟩ : Dv) = x from rfl] at HX
 have hs0 := n0f s
 have hx0 := n0f x
 generalize f0u s = ss at *
 generalize f0u x = xs at *
 obtain ⟨rN, flN, hN⟩ : ∃ rN flN, f.numM s way = (rN, flN) := ⟨_, _, rfl⟩
 rw [hN] at HN hS1
 clear hN
 have I := Inv.startW w u 139 (uS f n way 0) [ownF base .u32 160 p c (dig B32 x.m), ownF base .u32 160 q d (dig B32 y.m), tabF] U ⟨hp, hq, hT, True.intro⟩ ⟨fun hf => hp.far U (by kernel_rfl) hf.1 hf.2, fun hf => hq.far U (by kernel_rfl) hf.1 hf.2, fun hf => hT.far U (by kernel_rfl) hf, True.intro⟩
 refine a0d [.p 0 0, .v (.agg #[.bool x.neg, .slice p (dig B32 x.m).length c, .int .i64 x.e]), .v (.agg #[.bool y.neg, .slice q (dig B32 y.m).length d, .int .i64 y.e]), .v (.bool g), .v (.bool h)] I Tryz.func71 ?_
 refine zg I (fun Al W I => have hzW := I.bel.size; (HP W I.fa.1 I.fa.2.1 I.fa.2.2.1 (by omega)).out) fun Al V Iv _ hB _ kz => ?_
 rintro _ W ⟨p14, c14, rfl, o14, hb⟩
 refine ⟨_, rfl, kz _ _ hb fun I => ?_⟩
 have I := I.ownB base o14
 by_cases hs : s.m = 0
 · refine zg I (fun Al W I => (HS W p14 c14).out) fun Al V Iv _ hB _ kz => ?_
   rintro _ W ⟨rfl, hb⟩
   refine ⟨_, rfl, kz _ _ hb fun I => ?_⟩
   refine zb I 17 (ss != 0) (false) (bne_eq_false_iff_eq.2 (hs0.2 hs)) fun Al W I => ?_
   by_cases hx1 : x.m = 0
   · by_cases hgh : g = h
     · refine zg I (fun Al W I => (HX W).out) fun Al V Iv _ hB _ kz => ?_
       rintro _ W ⟨rfl, hb⟩
       refine ⟨_, rfl, kz _ _ hb fun I => ?_⟩
       refine zb I 23 (xs == 0) (true) (beq_iff_eq.2 (hx0.2 hx1)) fun Al W I => ?_
       refine zb I 27 (g == h) (true) ((by rw [hgh]; exact beq_self_eq_true h)) fun Al W I => ?_
       refine zg I (fun Al W I => (HZ g W _ (I.box 0 139 _)).out) fun Al V Iv _ hB _ kz => ?_
       rintro _ W ⟨rfl, hb⟩
       refine ⟨_, rfl, kz _ _ hb fun I => ?_⟩
       rw [hS2 hs ⟨hx1, hgh⟩]
       exact zret I fun Al W I => a0t (k := 1) (by decide) rfl I.bel (I.boxE 139 _)
     refine zg I (fun Al W I => (HX W).out) fun Al V Iv _ hB _ kz => ?_
     rintro _ W ⟨rfl, hb⟩
     refine ⟨_, rfl, kz _ _ hb fun I => ?_⟩
     refine zb I 23 (xs == 0) (true) (beq_iff_eq.2 (hx0.2 hx1)) fun Al W I => ?_
     refine zb I 27 (g == h) (false) (bFn hgh) fun Al W I => ?_
     refine zb I 37 (way == 5) ((decide (way = 5))) (rfl) fun Al W I => ?_
     refine zg I (fun Al W I => (HZ (decide (way = 5)) W _ (I.box 0 139 _)).out) fun Al V Iv _ hB _ kz => ?_
     rintro _ W ⟨rfl, hb⟩
     refine ⟨_, rfl, kz _ _ hb fun I => ?_⟩
     rw [hS3 hs (fun k => by first | exact hx1 k.1 | exact hgh k.2)]
     exact zret I fun Al W I => a0t (k := 1) (by decide) rfl I.bel (I.boxE 139 _)
   by_cases hgh : g = h
   · refine zg I (fun Al W I => (HX W).out) fun Al V Iv _ hB _ kz => ?_
     rintro _ W ⟨rfl, hb⟩
     refine ⟨_, rfl, kz _ _ hb fun I => ?_⟩
     refine zb I 23 (xs == 0) (false) (bFn (fun k => hx1 (hx0.1 k))) fun Al W I => ?_
     refine zb I 37 (way == 5) ((decide (way = 5))) (rfl) fun Al W I => ?_
     refine zg I (fun Al W I => (HZ (decide (way = 5)) W _ (I.box 0 139 _)).out) fun Al V Iv _ hB _ kz => ?_
     rintro _ W ⟨rfl, hb⟩
     refine ⟨_, rfl, kz _ _ hb fun I => ?_⟩
     rw [hS3 hs (fun k => by first | exact hx1 k.1 | exact hgh k.2)]
     exact zret I fun Al W I => a0t (k := 1) (by decide) rfl I.bel (I.boxE 139 _)
   refine zg I (fun Al W I => (HX W).out) fun Al V Iv _ hB _ kz => ?_
   rintro _ W ⟨rfl, hb⟩
   refine ⟨_, rfl, kz _ _ hb fun I => ?_⟩
   refine zb I 23 (xs == 0) (false) (bFn (fun k => hx1 (hx0.1 k))) fun Al W I => ?_
   refine zb I 37 (way == 5) ((decide (way = 5))) (rfl) fun Al W I => ?_
   refine zg I (fun Al W I => (HZ (decide (way = 5)) W _ (I.box 0 139 _)).out) fun Al V Iv _ hB _ kz => ?_
   rintro _ W ⟨rfl, hb⟩
   refine ⟨_, rfl, kz _ _ hb fun I => ?_⟩
   rw [hS3 hs (fun k => by first | exact hx1 k.1 | exact hgh k.2)]
   exact zret I fun Al W I => a0t (k := 1) (by decide) rfl I.bel (I.boxE 139 _)
 refine zg I (fun Al W I => (HS W p14 c14).out) fun Al V Iv _ hB _ kz => ?_
 rintro _ W ⟨rfl, hb⟩
 refine ⟨_, rfl, kz _ _ hb fun I => ?_⟩
 refine zb I 17 (ss != 0) (true) (bne_iff_ne.2 (fun k => hs (hs0.1 k))) fun Al W I => ?_
 refine zge I 0 139 (fun Al W I => (HN W _ p14 c14 (I.box 0 139 _) I.fa.1.rd).out) fun Al V Iv _ _ kz => ?_
 rintro _ W ⟨v20, hR20, p20, c20, rfl, o20, hO, hB⟩
 refine ⟨_, rfl, kz _ (uS f n way (flN : Int)) _ hO hB fun I => ?_⟩
 have I := I.own o20
 rw [hS1 hs]
 exact zret I fun Al W I => ⟨v20, hR20, p20, c20, rfl, I.fa.1, I.bel, I.boxE 139 _⟩
structure AtV (f : Fm) (a : Vp) (r : Vr) : Prop where
 rep : VRep f a.v r
 ok : VrOk r
 inf : r.cls = 3 → f.fam = 1
theorem VrOk.sm {r : Vr} (R : VrOk r) : SmD r.x := ⟨by have := R.len; omega, by have := R.lo; omega, by have := R.hi; omega⟩
theorem g1g {r s : Vr} (R : VrOk r) (S : VrOk s) : SmD (d0x r.x s.x) := by
 have h1 := R.len
 have h2 := S.len
 have h3 := R.lo
 have h4 := R.hi
 have h5 := S.lo
 have h6 := S.hi
 have h7 := p0h r.x s.x
 have h8 : (dig B32 (r.x.m * s.x.m)).length ≤ 1200 := Nat.le_trans (b0y a0b _ _) (by omega)
 have h9 := p0f ⟨xor r.x.neg s.x.neg, r.x.m * s.x.m, r.x.e + s.x.e⟩ (n := 1200) h8 (lo := -60000) (hi := 60000) (by simp only; omega) (by simp only; omega) (by omega) (by omega)
 have e : d0x r.x s.x = bare ⟨xor r.x.neg s.x.neg, r.x.m * s.x.m, r.x.e + s.x.e⟩ := rfl
 rw [← e] at h9
 exact ⟨by omega, by omega, by omega⟩
theorem k1g (f : Fm) (n way : Int) (u : Nat) (w : World) (U : Bt w u 139 #[.int .i64 n, .int .i64 way, .int .i64 f.g.rad, .int .i64 f.g.digs, .int .i64 f.g.lo, .int .i64 f.g.hi, .bool f.g.grad, .int .u8 (famB f), .int .i64 0]) :
 Calls Tryz.prog 70 #[.pointer (some ⟨u, 0, none⟩), .int .i64 16] w fun en w' => en = .returned (.agg #[.int .i64 (f.nothM.cls : Int), .bool false, .slice none 0 0, .int .i64 0]) ∧ Kp [u] w w' ∧ Bt w' u 139 #[.int .i64 n, .int .i64 way, .int .i64 f.g.rad, .int .i64 f.g.digs, .int .i64 f.g.lo, .int .i64 f.g.hi, .bool f.g.grad, .int .u8 (famB f), .int .i64 16] := by
 have HR := fun W u hU => hi0 (c0s f n way 0 16 16 u W hU (by decide +kernel))
 have HN := fun W u hU => hi0 (k0y f n way 16 u W hU)
 generalize f.nothM.cls = k at *
 have I := Inv.startW w u 139 (uS f n way 0) [] U True.intro True.intro
 refine a0d [.p 0 0, .v (.int .i64 16)] I Tryz.func70 ?_
 refine zge I 0 139 (fun Al W I => (HR W _ (I.box 0 139 _)).out) fun Al V Iv _ _ kz => ?_
 rintro _ W ⟨rfl, hO, hB⟩
 refine ⟨_, rfl, kz _ (uS f n way 16) _ hO hB fun I => ?_⟩
 refine zg I (fun Al W I => (HN W _ (I.box 0 139 _)).out) fun Al V Iv _ hB _ kz => ?_
 rintro _ W ⟨rfl, hb⟩
 refine ⟨_, rfl, kz _ _ hb fun I => ?_⟩
 exact zret I fun Al W I => ⟨rfl, I.bel, I.boxE 139 _⟩
theorem y0u (x y : Dv) (p q : Option Addr) (c d base : Nat) (w : World) (sx : SmD x) (sy : SmD y) (hp : Own w base .u32 160 p c (dig B32 x.m)) (hq : Own w base .u32 160 q d (dig B32 y.m)) (hT : TabW w) :
 Calls Tryz.prog 95 #[.agg #[.bool x.neg, .slice p (dig B32 x.m).length c, .int .i64 x.e], .agg #[.bool y.neg, .slice q (dig B32 y.m).length d, .int .i64 y.e]] w (f0p w w.heap.size (d0x x y)) := by
 have h1 := sx.len
 have h2 := sy.len
 have h3 := sx.lo
 have h4 := sx.hi
 have h5 := sy.lo
 have h6 := sy.hi
 exact x0r x.neg y.neg p q _ c _ d base x.e y.e x.m y.m w hp hq rfl rfl (by omega) (by omega) (by omega) (by omega) hT
def two (a b : Vp) : List Vp := [a, b]
theorem n1g (f : Fm) (n way : Int) (a b : Vp) (ra rb : Vr) (base u : Nat) (w : World) (U : Bt w u 139 #[.int .i64 n, .int .i64 way, .int .i64 f.g.rad, .int .i64 f.g.digs, .int .i64 f.g.lo, .int .i64 f.g.hi, .bool f.g.grad, .int .u8 (famB f), .int .i64 0]) (oa : Own w base .u32 160 a.p a.c (dig B32 a.v.d)) (ob : Own w base .u32 160 b.p b.c (dig B32 b.v.d)) (hb : base ≤ w.heap.size)
 (A1 : AtV f a ra) (B1 : AtV f b rb) (G : c0h f) (hw : 1 ≤ way ∧ way ≤ 5) (hT : TabW w) :
 Calls Tryz.prog 34 #[.pointer (some ⟨u, 0, none⟩), .agg #[.int .i64 (a.v.cls : Int), .bool a.v.neg, .slice a.p (dig B32 a.v.d).length a.c, .int .i64 a.v.pow], .agg #[.int .i64 (b.v.cls : Int), .bool b.v.neg, .slice b.p (dig B32 b.v.d).length b.c, .int .i64 b.v.pow]] w (f0s f n way u w base (f.addM ra rb way)) := by
 have hM : f.addM ra rb way = if 4 ≤ a.v.cls ∨ 4 ≤ b.v.cls then f.offM else if a.v.cls = 3 ∨ b.v.cls = 3 then (if a.v.cls = b.v.cls ∧ a.v.neg ≠ b.v.neg then f.lostM else if a.v.cls = 3 then (ra, 0) else (rb, 0)) else f.sumM ra.x rb.x a.v.neg b.v.neg way := by
  unfold Fm.addM; rw [A1.rep.cls, B1.rep.cls, A1.rep.neg, B1.rep.neg]
 have hca : a.v.cls ≤ 5 := by rw [A1.rep.cls]; exact A1.ok.c.2
 have hcb : b.v.cls ≤ 5 := by rw [B1.rep.cls]; exact B1.ok.c.2
 have HY := fun W b0 u h1 h2 h3 => hi0 (d1f f n way [a, b] b0 2 u W h1 h2 rfl (by simp) (by simp [hca, hcb]) G h3)
 have HN := fun W b0 u h1 h2 h3 => hi0 (h1v f n way 0 [a, b] b0 2 u W h1 h2 rfl (by simp) h3)
 have HL := fun W u h1 => hi0 (n1e f n way u W h1 16 16 (by decide +kernel))
 have HA := fun W u h1 h2 h3 => hi0 (d1e f n way 0 a.v ra a.p a.c base u W h1 h2 A1.rep A1.ok h3)
 have HB := fun W u h1 h2 h3 => hi0 (d1e f n way 0 b.v rb b.p b.c base u W h1 h2 B1.rep B1.ok h3)
 have HS := fun W p q c d base u h1 h2 h3 h4 h5 => hi0 (n1f f n way ra.x rb.x a.v.neg b.v.neg p q c d base u W h1 h2 h3 h4 A1.ok.bare B1.ok.bare A1.ok.sm B1.ok.sm G hw h5)
 have hoffm : f.offM = (⟨f.nothM.cls, false, vz⟩, f.offM.2) := rfl
 have hk2 := o0j G
 have hlostm : f.lostM = (f.nothM, 16) := rfl
 have VA := A1.rep
 have VB := B1.rep
 obtain ⟨rS, flS, hS⟩ : ∃ rS flS, f.sumM ra.x rb.x a.v.neg b.v.neg way = (rS, flS) := ⟨_, _, rfl⟩
 rw [hS] at HS hM
 generalize f.addM ra rb way = R at *
 generalize f.offM.2 = flo at *
 generalize f.nothM.cls = kN at *
 generalize f.nothM = rN at *
 have I := Inv.startW w u 139 (uS f n way 0) [ownF base .u32 160 a.p a.c (dig B32 a.v.d), ownF base .u32 160 b.p b.c (dig B32 b.v.d), tabF] U ⟨oa, ob, hT, True.intro⟩ ⟨fun hf => oa.far U (by kernel_rfl) hf.1 hf.2, fun hf => ob.far U (by kernel_rfl) hf.1 hf.2, fun hf => hT.far U (by kernel_rfl) hf, True.intro⟩
 refine a0d [.p 0 0, .v (.agg #[.int .i64 (a.v.cls : Int), .bool a.v.neg, .slice a.p (dig B32 a.v.d).length a.c, .int .i64 a.v.pow]), .v (.agg #[.int .i64 (b.v.cls : Int), .bool b.v.neg, .slice b.p (dig B32 b.v.d).length b.c, .int .i64 b.v.pow])] I Tryz.func34 ?_
 by_cases hof : 4 ≤ a.v.cls ∨ 4 ≤ b.v.cls
 · refine zge I 0 139 (fun Al W I => (HY W _ _ (I.box 0 139 _) (I.box 4 70 _) (by simpa using hof)).out) fun Al V Iv _ _ kz => ?_
   rintro _ W ⟨rfl, hO, hB⟩
   refine ⟨_, rfl, kz _ (uS f n way (flo : Int)) _ hO hB fun I => ?_⟩
   rw [hM]
   refine zret I (v := fun Al => .agg #[.int .i64 (kN : Int), .bool false, .slice none 0 0, .int .i64 0]) fun Al W I => ?_
   first | (rw [if_pos hof, hoffm]; exact a0t hk2 rfl I.bel (I.boxE 139 _)) | (rw [if_neg hof, if_pos (.inl h3a), if_neg (fun h => by first | exact h.2 hng | (have := h.1; omega)), if_pos h3a]; exact ⟨a.v, VA, a.p, a.c, rfl, I.fa.1, I.bel, I.boxE 139 _⟩) | (rw [if_neg hof, if_pos (.inr h3b), if_neg (fun h => h3a (by omega)), if_neg h3a]; exact ⟨b.v, VB, b.p, b.c, rfl, I.fa.2.1, I.bel, I.boxE 139 _⟩)
 refine zg I (fun Al W I => have hzW := I.bel.size; (HN W _ _ (I.box 0 139 _) (I.box 4 70 _) (by simp only [List.mem_cons, List.mem_nil_iff, or_false]; rintro x (rfl | rfl) <;> omega)).out) fun Al V Iv _ hB _ kz => ?_
 rintro _ W ⟨rfl, hb⟩
 refine ⟨_, rfl, kz _ _ hb fun I => ?_⟩
 by_cases h3a : a.v.cls = 3
 · by_cases h3b : b.v.cls = 3
   · by_cases hng : a.v.neg = b.v.neg
     · refine zg I (fun Al W I => a0g a.v.cls a.v.neg a.p (dig B32 a.v.d).length a.c a.v.pow W) fun Al V Iv _ hB _ kz => ?_
       rintro _ W ⟨rfl, hb⟩
       refine ⟨_, congrArg (fun b => Ending.returned (.bool b)) (show (decide (a.v.cls = 3)) = true from dTr h3a), kz _ _ hb fun I => ?_⟩
       refine zg I (fun Al W I => a0g b.v.cls b.v.neg b.p (dig B32 b.v.d).length b.c b.v.pow W) fun Al V Iv _ hB _ kz => ?_
       rintro _ W ⟨rfl, hb⟩
       refine ⟨_, congrArg (fun b => Ending.returned (.bool b)) (show (decide (b.v.cls = 3)) = true from dTr h3b), kz _ _ hb fun I => ?_⟩
       refine zb I 31 (a.v.neg != b.v.neg) (false) (bne_eq_false_iff_eq.2 hng) fun Al W I => ?_
       refine zg I (fun Al W I => a0g a.v.cls a.v.neg a.p (dig B32 a.v.d).length a.c a.v.pow W) fun Al V Iv _ hB _ kz => ?_
       rintro _ W ⟨rfl, hb⟩
       refine ⟨_, congrArg (fun b => Ending.returned (.bool b)) (show (decide (a.v.cls = 3)) = true from dTr h3a), kz _ _ hb fun I => ?_⟩
       rw [hM]
       refine zret I (v := fun Al => .agg #[.int .i64 (a.v.cls : Int), .bool a.v.neg, .slice a.p (dig B32 a.v.d).length a.c, .int .i64 a.v.pow]) fun Al W I => ?_
       first | (rw [if_pos hof, hoffm]; exact a0t hk2 rfl I.bel (I.boxE 139 _)) | (rw [if_neg hof, if_pos (.inl h3a), if_neg (fun h => by first | exact h.2 hng | (have := h.1; omega)), if_pos h3a]; exact ⟨a.v, VA, a.p, a.c, rfl, I.fa.1, I.bel, I.boxE 139 _⟩) | (rw [if_neg hof, if_pos (.inr h3b), if_neg (fun h => h3a (by omega)), if_neg h3a]; exact ⟨b.v, VB, b.p, b.c, rfl, I.fa.2.1, I.bel, I.boxE 139 _⟩)
     refine zg I (fun Al W I => a0g a.v.cls a.v.neg a.p (dig B32 a.v.d).length a.c a.v.pow W) fun Al V Iv _ hB _ kz => ?_
     rintro _ W ⟨rfl, hb⟩
     refine ⟨_, congrArg (fun b => Ending.returned (.bool b)) (show (decide (a.v.cls = 3)) = true from dTr h3a), kz _ _ hb fun I => ?_⟩
     refine zg I (fun Al W I => a0g b.v.cls b.v.neg b.p (dig B32 b.v.d).length b.c b.v.pow W) fun Al V Iv _ hB _ kz => ?_
     rintro _ W ⟨rfl, hb⟩
     refine ⟨_, congrArg (fun b => Ending.returned (.bool b)) (show (decide (b.v.cls = 3)) = true from dTr h3b), kz _ _ hb fun I => ?_⟩
     refine zb I 31 (a.v.neg != b.v.neg) (true) (bne_iff_ne.2 hng) fun Al W I => ?_
     refine zge I 0 139 (fun Al W I => (HL W _ (I.box 0 139 _)).out) fun Al V Iv _ _ kz => ?_
     rintro _ W ⟨v34, hR34, p34, c34, rfl, o34, hO, hB⟩
     refine ⟨_, rfl, kz _ (uS f n way 16) _ hO hB fun I => ?_⟩
     have I := I.ownB base o34
     rw [hM, if_neg hof, if_pos (.inl h3a), if_pos ⟨by omega, hng⟩, hlostm]
     exact zret I fun Al W I => ⟨v34, hR34, p34, c34, rfl, I.fa.1, I.bel, I.boxE 139 _⟩
   by_cases hng : a.v.neg = b.v.neg
   · refine zg I (fun Al W I => a0g a.v.cls a.v.neg a.p (dig B32 a.v.d).length a.c a.v.pow W) fun Al V Iv _ hB _ kz => ?_
     rintro _ W ⟨rfl, hb⟩
     refine ⟨_, congrArg (fun b => Ending.returned (.bool b)) (show (decide (a.v.cls = 3)) = true from dTr h3a), kz _ _ hb fun I => ?_⟩
     refine zg I (fun Al W I => a0g b.v.cls b.v.neg b.p (dig B32 b.v.d).length b.c b.v.pow W) fun Al V Iv _ hB _ kz => ?_
     rintro _ W ⟨rfl, hb⟩
     refine ⟨_, congrArg (fun b => Ending.returned (.bool b)) (show (decide (b.v.cls = 3)) = false from dFa h3b), kz _ _ hb fun I => ?_⟩
     refine zg I (fun Al W I => a0g a.v.cls a.v.neg a.p (dig B32 a.v.d).length a.c a.v.pow W) fun Al V Iv _ hB _ kz => ?_
     rintro _ W ⟨rfl, hb⟩
     refine ⟨_, congrArg (fun b => Ending.returned (.bool b)) (show (decide (a.v.cls = 3)) = true from dTr h3a), kz _ _ hb fun I => ?_⟩
     rw [hM]
     refine zret I (v := fun Al => .agg #[.int .i64 (a.v.cls : Int), .bool a.v.neg, .slice a.p (dig B32 a.v.d).length a.c, .int .i64 a.v.pow]) fun Al W I => ?_
     first | (rw [if_pos hof, hoffm]; exact a0t hk2 rfl I.bel (I.boxE 139 _)) | (rw [if_neg hof, if_pos (.inl h3a), if_neg (fun h => by first | exact h.2 hng | (have := h.1; omega)), if_pos h3a]; exact ⟨a.v, VA, a.p, a.c, rfl, I.fa.1, I.bel, I.boxE 139 _⟩) | (rw [if_neg hof, if_pos (.inr h3b), if_neg (fun h => h3a (by omega)), if_neg h3a]; exact ⟨b.v, VB, b.p, b.c, rfl, I.fa.2.1, I.bel, I.boxE 139 _⟩)
   refine zg I (fun Al W I => a0g a.v.cls a.v.neg a.p (dig B32 a.v.d).length a.c a.v.pow W) fun Al V Iv _ hB _ kz => ?_
   rintro _ W ⟨rfl, hb⟩
   refine ⟨_, congrArg (fun b => Ending.returned (.bool b)) (show (decide (a.v.cls = 3)) = true from dTr h3a), kz _ _ hb fun I => ?_⟩
   refine zg I (fun Al W I => a0g b.v.cls b.v.neg b.p (dig B32 b.v.d).length b.c b.v.pow W) fun Al V Iv _ hB _ kz => ?_
   rintro _ W ⟨rfl, hb⟩
   refine ⟨_, congrArg (fun b => Ending.returned (.bool b)) (show (decide (b.v.cls = 3)) = false from dFa h3b), kz _ _ hb fun I => ?_⟩
   refine zg I (fun Al W I => a0g a.v.cls a.v.neg a.p (dig B32 a.v.d).length a.c a.v.pow W) fun Al V Iv _ hB _ kz => ?_
   rintro _ W ⟨rfl, hb⟩
   refine ⟨_, congrArg (fun b => Ending.returned (.bool b)) (show (decide (a.v.cls = 3)) = true from dTr h3a), kz _ _ hb fun I => ?_⟩
   rw [hM]
   refine zret I (v := fun Al => .agg #[.int .i64 (a.v.cls : Int), .bool a.v.neg, .slice a.p (dig B32 a.v.d).length a.c, .int .i64 a.v.pow]) fun Al W I => ?_
   first | (rw [if_pos hof, hoffm]; exact a0t hk2 rfl I.bel (I.boxE 139 _)) | (rw [if_neg hof, if_pos (.inl h3a), if_neg (fun h => by first | exact h.2 hng | (have := h.1; omega)), if_pos h3a]; exact ⟨a.v, VA, a.p, a.c, rfl, I.fa.1, I.bel, I.boxE 139 _⟩) | (rw [if_neg hof, if_pos (.inr h3b), if_neg (fun h => h3a (by omega)), if_neg h3a]; exact ⟨b.v, VB, b.p, b.c, rfl, I.fa.2.1, I.bel, I.boxE 139 _⟩)
 by_cases h3b : b.v.cls = 3
 · by_cases hng : a.v.neg = b.v.neg
   · refine zg I (fun Al W I => a0g a.v.cls a.v.neg a.p (dig B32 a.v.d).length a.c a.v.pow W) fun Al V Iv _ hB _ kz => ?_
     rintro _ W ⟨rfl, hb⟩
     refine ⟨_, congrArg (fun b => Ending.returned (.bool b)) (show (decide (a.v.cls = 3)) = false from dFa h3a), kz _ _ hb fun I => ?_⟩
     refine zg I (fun Al W I => a0g a.v.cls a.v.neg a.p (dig B32 a.v.d).length a.c a.v.pow W) fun Al V Iv _ hB _ kz => ?_
     rintro _ W ⟨rfl, hb⟩
     refine ⟨_, congrArg (fun b => Ending.returned (.bool b)) (show (decide (a.v.cls = 3)) = false from dFa h3a), kz _ _ hb fun I => ?_⟩
     refine zg I (fun Al W I => a0g b.v.cls b.v.neg b.p (dig B32 b.v.d).length b.c b.v.pow W) fun Al V Iv _ hB _ kz => ?_
     rintro _ W ⟨rfl, hb⟩
     refine ⟨_, congrArg (fun b => Ending.returned (.bool b)) (show (decide (b.v.cls = 3)) = true from dTr h3b), kz _ _ hb fun I => ?_⟩
     rw [hM]
     refine zret I (v := fun Al => .agg #[.int .i64 (b.v.cls : Int), .bool b.v.neg, .slice b.p (dig B32 b.v.d).length b.c, .int .i64 b.v.pow]) fun Al W I => ?_
     first | (rw [if_pos hof, hoffm]; exact a0t hk2 rfl I.bel (I.boxE 139 _)) | (rw [if_neg hof, if_pos (.inl h3a), if_neg (fun h => by first | exact h.2 hng | (have := h.1; omega)), if_pos h3a]; exact ⟨a.v, VA, a.p, a.c, rfl, I.fa.1, I.bel, I.boxE 139 _⟩) | (rw [if_neg hof, if_pos (.inr h3b), if_neg (fun h => h3a (by omega)), if_neg h3a]; exact ⟨b.v, VB, b.p, b.c, rfl, I.fa.2.1, I.bel, I.boxE 139 _⟩)
   refine zg I (fun Al W I => a0g a.v.cls a.v.neg a.p (dig B32 a.v.d).length a.c a.v.pow W) fun Al V Iv _ hB _ kz => ?_
   rintro _ W ⟨rfl, hb⟩
   refine ⟨_, congrArg (fun b => Ending.returned (.bool b)) (show (decide (a.v.cls = 3)) = false from dFa h3a), kz _ _ hb fun I => ?_⟩
   refine zg I (fun Al W I => a0g a.v.cls a.v.neg a.p (dig B32 a.v.d).length a.c a.v.pow W) fun Al V Iv _ hB _ kz => ?_
   rintro _ W ⟨rfl, hb⟩
   refine ⟨_, congrArg (fun b => Ending.returned (.bool b)) (show (decide (a.v.cls = 3)) = false from dFa h3a), kz _ _ hb fun I => ?_⟩
   refine zg I (fun Al W I => a0g b.v.cls b.v.neg b.p (dig B32 b.v.d).length b.c b.v.pow W) fun Al V Iv _ hB _ kz => ?_
   rintro _ W ⟨rfl, hb⟩
   refine ⟨_, congrArg (fun b => Ending.returned (.bool b)) (show (decide (b.v.cls = 3)) = true from dTr h3b), kz _ _ hb fun I => ?_⟩
   rw [hM]
   refine zret I (v := fun Al => .agg #[.int .i64 (b.v.cls : Int), .bool b.v.neg, .slice b.p (dig B32 b.v.d).length b.c, .int .i64 b.v.pow]) fun Al W I => ?_
   first | (rw [if_pos hof, hoffm]; exact a0t hk2 rfl I.bel (I.boxE 139 _)) | (rw [if_neg hof, if_pos (.inl h3a), if_neg (fun h => by first | exact h.2 hng | (have := h.1; omega)), if_pos h3a]; exact ⟨a.v, VA, a.p, a.c, rfl, I.fa.1, I.bel, I.boxE 139 _⟩) | (rw [if_neg hof, if_pos (.inr h3b), if_neg (fun h => h3a (by omega)), if_neg h3a]; exact ⟨b.v, VB, b.p, b.c, rfl, I.fa.2.1, I.bel, I.boxE 139 _⟩)
 by_cases hng : a.v.neg = b.v.neg
 · refine zg I (fun Al W I => a0g a.v.cls a.v.neg a.p (dig B32 a.v.d).length a.c a.v.pow W) fun Al V Iv _ hB _ kz => ?_
   rintro _ W ⟨rfl, hb⟩
   refine ⟨_, congrArg (fun b => Ending.returned (.bool b)) (show (decide (a.v.cls = 3)) = false from dFa h3a), kz _ _ hb fun I => ?_⟩
   refine zg I (fun Al W I => a0g a.v.cls a.v.neg a.p (dig B32 a.v.d).length a.c a.v.pow W) fun Al V Iv _ hB _ kz => ?_
   rintro _ W ⟨rfl, hb⟩
   refine ⟨_, congrArg (fun b => Ending.returned (.bool b)) (show (decide (a.v.cls = 3)) = false from dFa h3a), kz _ _ hb fun I => ?_⟩
   refine zg I (fun Al W I => a0g b.v.cls b.v.neg b.p (dig B32 b.v.d).length b.c b.v.pow W) fun Al V Iv _ hB _ kz => ?_
   rintro _ W ⟨rfl, hb⟩
   refine ⟨_, congrArg (fun b => Ending.returned (.bool b)) (show (decide (b.v.cls = 3)) = false from dFa h3b), kz _ _ hb fun I => ?_⟩
   refine zd [0, 3] I fun Al W I => ?_
   refine zk [0, 1, 2, 4, 5, 7, 8, 9, 10] I fun I => ?_
   refine zo 3 I fun I => ?_
   refine zg I (fun Al W I => (HA W _ (I.box 0 139 _) I.fa.1 I.fa.2.2.1).out) fun Al V Iv _ hB _ kz => ?_
   rintro _ W ⟨p46, c46, rfl, o46, hb⟩
   refine ⟨_, rfl, kz _ _ hb fun I => ?_⟩
   have I := I.ownB base o46
   refine zo 6 I fun I => ?_
   refine zg I (fun Al W I => (HB W _ (I.box 0 139 _) I.fa.2.2.1 I.fa.2.2.2.1).out) fun Al V Iv _ hB _ kz => ?_
   rintro _ W ⟨p49, c49, rfl, o49, hb⟩
   refine ⟨_, rfl, kz _ _ hb fun I => ?_⟩
   have I := I.ownB base o49
   refine zo 11 I fun I => ?_
   refine zge I 0 139 (fun Al W I => have hzW := I.bel.size; (HS W p46 p49 c46 c49 _ _ (I.box 0 139 _) I.fa.2.1 I.fa.1 (by omega) I.fa.2.2.2.2.1).out) fun Al V Iv _ _ kz => ?_
   rintro _ W ⟨v54, hR54, p54, c54, rfl, o54, hO, hB⟩
   refine ⟨_, rfl, kz _ (uS f n way (flS : Int)) _ hO hB fun I => ?_⟩
   have I := I.ownB base o54
   refine zo 12 I fun I => ?_
   refine zn I fun Al W I => ?_
   rw [hM, if_neg hof, if_neg (by rintro (h | h); exact h3a h; exact h3b h)]
   exact zret I fun Al W I => ⟨v54, hR54, p54, c54, rfl, I.fa.1, I.bel, I.boxE 139 _⟩
 refine zg I (fun Al W I => a0g a.v.cls a.v.neg a.p (dig B32 a.v.d).length a.c a.v.pow W) fun Al V Iv _ hB _ kz => ?_
 rintro _ W ⟨rfl, hb⟩
 refine ⟨_, congrArg (fun b => Ending.returned (.bool b)) (show (decide (a.v.cls = 3)) = false from dFa h3a), kz _ _ hb fun I => ?_⟩
 refine zg I (fun Al W I => a0g a.v.cls a.v.neg a.p (dig B32 a.v.d).length a.c a.v.pow W) fun Al V Iv _ hB _ kz => ?_
 rintro _ W ⟨rfl, hb⟩
 refine ⟨_, congrArg (fun b => Ending.returned (.bool b)) (show (decide (a.v.cls = 3)) = false from dFa h3a), kz _ _ hb fun I => ?_⟩
 refine zg I (fun Al W I => a0g b.v.cls b.v.neg b.p (dig B32 b.v.d).length b.c b.v.pow W) fun Al V Iv _ hB _ kz => ?_
 rintro _ W ⟨rfl, hb⟩
 refine ⟨_, congrArg (fun b => Ending.returned (.bool b)) (show (decide (b.v.cls = 3)) = false from dFa h3b), kz _ _ hb fun I => ?_⟩
 refine zd [0, 3] I fun Al W I => ?_
 refine zk [0, 1, 2, 4, 5, 7, 8, 9, 10] I fun I => ?_
 refine zo 3 I fun I => ?_
 refine zg I (fun Al W I => (HA W _ (I.box 0 139 _) I.fa.1 I.fa.2.2.1).out) fun Al V Iv _ hB _ kz => ?_
 rintro _ W ⟨p46, c46, rfl, o46, hb⟩
 refine ⟨_, rfl, kz _ _ hb fun I => ?_⟩
 have I := I.ownB base o46
 refine zo 6 I fun I => ?_
 refine zg I (fun Al W I => (HB W _ (I.box 0 139 _) I.fa.2.2.1 I.fa.2.2.2.1).out) fun Al V Iv _ hB _ kz => ?_
 rintro _ W ⟨p49, c49, rfl, o49, hb⟩
 refine ⟨_, rfl, kz _ _ hb fun I => ?_⟩
 have I := I.ownB base o49
 refine zo 11 I fun I => ?_
 refine zge I 0 139 (fun Al W I => have hzW := I.bel.size; (HS W p46 p49 c46 c49 _ _ (I.box 0 139 _) I.fa.2.1 I.fa.1 (by omega) I.fa.2.2.2.2.1).out) fun Al V Iv _ _ kz => ?_
 rintro _ W ⟨v54, hR54, p54, c54, rfl, o54, hO, hB⟩
 refine ⟨_, rfl, kz _ (uS f n way (flS : Int)) _ hO hB fun I => ?_⟩
 have I := I.ownB base o54
 refine zo 12 I fun I => ?_
 refine zn I fun Al W I => ?_
 rw [hM, if_neg hof, if_neg (by rintro (h | h); exact h3a h; exact h3b h)]
 exact zret I fun Al W I => ⟨v54, hR54, p54, c54, rfl, I.fa.1, I.bel, I.boxE 139 _⟩
theorem k1h (f : Fm) (n way fl : Int) (a b : Vp) (u : Nat) (w : World) (U : Bt w u 139 #[.int .i64 n, .int .i64 way, .int .i64 f.g.rad, .int .i64 f.g.digs, .int .i64 f.g.lo, .int .i64 f.g.hi, .bool f.g.grad, .int .u8 (famB f), .int .i64 fl]) (h3a : a.v.cls ≠ 3) (h3b : b.v.cls ≠ 3) :
 Calls Tryz.prog 93 #[.pointer (some ⟨u, 0, none⟩), .agg #[.int .i64 (a.v.cls : Int), .bool a.v.neg, .slice a.p (dig B32 a.v.d).length a.c, .int .i64 a.v.pow], .agg #[.int .i64 (b.v.cls : Int), .bool b.v.neg, .slice b.p (dig B32 b.v.d).length b.c, .int .i64 b.v.pow]] w fun en w' => en = .returned (.tuple #[.agg #[.int .i64 0, .bool false, .slice none 0 0, .int .i64 0], .bool false]) ∧ Below w.heap.size w w' := by
 have I := Inv.startR w [u] [⟨139, (uS f n way fl), true⟩] [] ⟨U, True.intro⟩ True.intro
 refine a0d [.p 0 0, .v (.agg #[.int .i64 (a.v.cls : Int), .bool a.v.neg, .slice a.p (dig B32 a.v.d).length a.c, .int .i64 a.v.pow]), .v (.agg #[.int .i64 (b.v.cls : Int), .bool b.v.neg, .slice b.p (dig B32 b.v.d).length b.c, .int .i64 b.v.pow])] I Tryz.func93 ?_
 refine zg I (fun Al W I => a0g a.v.cls a.v.neg a.p (dig B32 a.v.d).length a.c a.v.pow W) fun Al V Iv _ hB _ kz => ?_
 rintro _ W ⟨rfl, hb⟩
 refine ⟨_, congrArg (fun b => Ending.returned (.bool b)) (show (decide (a.v.cls = 3)) = false from dFa h3a), kz _ _ hb fun I => ?_⟩
 refine zg I (fun Al W I => a0g b.v.cls b.v.neg b.p (dig B32 b.v.d).length b.c b.v.pow W) fun Al V Iv _ hB _ kz => ?_
 rintro _ W ⟨rfl, hb⟩
 refine ⟨_, congrArg (fun b => Ending.returned (.bool b)) (show (decide (b.v.cls = 3)) = false from dFa h3b), kz _ _ hb fun I => ?_⟩
 exact zret I fun Al W I => ⟨rfl, I.below⟩
theorem g1h (f : Fm) (n way fl : Int) (a b : Vp) (u : Nat) (w : World) (U : Bt w u 139 #[.int .i64 n, .int .i64 way, .int .i64 f.g.rad, .int .i64 f.g.digs, .int .i64 f.g.lo, .int .i64 f.g.hi, .bool f.g.grad, .int .u8 (famB f), .int .i64 fl]) (h3 : a.v.cls = 3 ∨ b.v.cls = 3) (h1 : ¬ (a.v.cls = 1 ∨ b.v.cls = 1)) :
 Calls Tryz.prog 93 #[.pointer (some ⟨u, 0, none⟩), .agg #[.int .i64 (a.v.cls : Int), .bool a.v.neg, .slice a.p (dig B32 a.v.d).length a.c, .int .i64 a.v.pow], .agg #[.int .i64 (b.v.cls : Int), .bool b.v.neg, .slice b.p (dig B32 b.v.d).length b.c, .int .i64 b.v.pow]] w fun en w' => en = .returned (.tuple #[.agg #[.int .i64 3, .bool (a.v.neg != b.v.neg), .slice none 0 0, .int .i64 0], .bool true]) ∧ Below w.heap.size w w' := by
 have I := Inv.startR w [u] [⟨139, (uS f n way fl), true⟩] [] ⟨U, True.intro⟩ True.intro
 refine a0d [.p 0 0, .v (.agg #[.int .i64 (a.v.cls : Int), .bool a.v.neg, .slice a.p (dig B32 a.v.d).length a.c, .int .i64 a.v.pow]), .v (.agg #[.int .i64 (b.v.cls : Int), .bool b.v.neg, .slice b.p (dig B32 b.v.d).length b.c, .int .i64 b.v.pow])] I Tryz.func93 ?_
 by_cases ha : a.v.cls = 3
 · refine zg I (fun Al W I => a0g a.v.cls a.v.neg a.p (dig B32 a.v.d).length a.c a.v.pow W) fun Al V Iv _ hB _ kz => ?_
   rintro _ W ⟨rfl, hb⟩
   refine ⟨_, congrArg (fun b => Ending.returned (.bool b)) (show (decide (a.v.cls = 3)) = true from dTr ha), kz _ _ hb fun I => ?_⟩
   refine zg I (fun Al W I => e0d a.v.cls a.v.neg a.p (dig B32 a.v.d).length a.c a.v.pow W) fun Al V Iv _ hB _ kz => ?_
   rintro _ W ⟨rfl, hb⟩
   refine ⟨_, congrArg (fun b => Ending.returned (.bool b)) (show (decide (a.v.cls = 1)) = false from dFa (by omega)), kz _ _ hb fun I => ?_⟩
   refine zg I (fun Al W I => e0d b.v.cls b.v.neg b.p (dig B32 b.v.d).length b.c b.v.pow W) fun Al V Iv _ hB _ kz => ?_
   rintro _ W ⟨rfl, hb⟩
   refine ⟨_, congrArg (fun b => Ending.returned (.bool b)) (show (decide (b.v.cls = 1)) = false from dFa (by omega)), kz _ _ hb fun I => ?_⟩
   refine zb I 31 (a.v.neg != b.v.neg) ((a.v.neg != b.v.neg)) (rfl) fun Al W I => ?_
   refine zg I (fun Al W I => i0k (a.v.neg != b.v.neg) W) fun Al V Iv _ hB _ kz => ?_
   rintro _ W ⟨rfl, hb⟩
   refine ⟨_, rfl, kz _ _ hb fun I => ?_⟩
   exact zret I fun Al W I => ⟨rfl, I.below⟩
 refine zg I (fun Al W I => a0g a.v.cls a.v.neg a.p (dig B32 a.v.d).length a.c a.v.pow W) fun Al V Iv _ hB _ kz => ?_
 rintro _ W ⟨rfl, hb⟩
 refine ⟨_, congrArg (fun b => Ending.returned (.bool b)) (show (decide (a.v.cls = 3)) = false from dFa ha), kz _ _ hb fun I => ?_⟩
 refine zg I (fun Al W I => a0g b.v.cls b.v.neg b.p (dig B32 b.v.d).length b.c b.v.pow W) fun Al V Iv _ hB _ kz => ?_
 rintro _ W ⟨rfl, hb⟩
 refine ⟨_, congrArg (fun b => Ending.returned (.bool b)) (show (decide (b.v.cls = 3)) = true from dTr (by omega)), kz _ _ hb fun I => ?_⟩
 refine zg I (fun Al W I => e0d a.v.cls a.v.neg a.p (dig B32 a.v.d).length a.c a.v.pow W) fun Al V Iv _ hB _ kz => ?_
 rintro _ W ⟨rfl, hb⟩
 refine ⟨_, congrArg (fun b => Ending.returned (.bool b)) (show (decide (a.v.cls = 1)) = false from dFa (by omega)), kz _ _ hb fun I => ?_⟩
 refine zg I (fun Al W I => e0d b.v.cls b.v.neg b.p (dig B32 b.v.d).length b.c b.v.pow W) fun Al V Iv _ hB _ kz => ?_
 rintro _ W ⟨rfl, hb⟩
 refine ⟨_, congrArg (fun b => Ending.returned (.bool b)) (show (decide (b.v.cls = 1)) = false from dFa (by omega)), kz _ _ hb fun I => ?_⟩
 refine zb I 31 (a.v.neg != b.v.neg) ((a.v.neg != b.v.neg)) (rfl) fun Al W I => ?_
 refine zg I (fun Al W I => i0k (a.v.neg != b.v.neg) W) fun Al V Iv _ hB _ kz => ?_
 rintro _ W ⟨rfl, hb⟩
 refine ⟨_, rfl, kz _ _ hb fun I => ?_⟩
 exact zret I fun Al W I => ⟨rfl, I.below⟩
theorem d1h (f : Fm) (n way : Int) (a b : Vp) (u : Nat) (w : World) (U : Bt w u 139 #[.int .i64 n, .int .i64 way, .int .i64 f.g.rad, .int .i64 f.g.digs, .int .i64 f.g.lo, .int .i64 f.g.hi, .bool f.g.grad, .int .u8 (famB f), .int .i64 0]) (h3 : a.v.cls = 3 ∨ b.v.cls = 3) (h1 : a.v.cls = 1 ∨ b.v.cls = 1) :
 Calls Tryz.prog 93 #[.pointer (some ⟨u, 0, none⟩), .agg #[.int .i64 (a.v.cls : Int), .bool a.v.neg, .slice a.p (dig B32 a.v.d).length a.c, .int .i64 a.v.pow], .agg #[.int .i64 (b.v.cls : Int), .bool b.v.neg, .slice b.p (dig B32 b.v.d).length b.c, .int .i64 b.v.pow]] w fun en w' => en = .returned (.tuple #[.agg #[.int .i64 (f.nothM.cls : Int), .bool false, .slice none 0 0, .int .i64 0], .bool true]) ∧ Kp [u] w w' ∧ Bt w' u 139 #[.int .i64 n, .int .i64 way, .int .i64 f.g.rad, .int .i64 f.g.digs, .int .i64 f.g.lo, .int .i64 f.g.hi, .bool f.g.grad, .int .u8 (famB f), .int .i64 16] := by
 have HL := fun W u h1 => hi0 (k1g f n way u W h1)
 generalize f.nothM.cls = kN at *
 have I := Inv.startW w u 139 (uS f n way 0) [] U True.intro True.intro
 refine a0d [.p 0 0, .v (.agg #[.int .i64 (a.v.cls : Int), .bool a.v.neg, .slice a.p (dig B32 a.v.d).length a.c, .int .i64 a.v.pow]), .v (.agg #[.int .i64 (b.v.cls : Int), .bool b.v.neg, .slice b.p (dig B32 b.v.d).length b.c, .int .i64 b.v.pow])] I Tryz.func93 ?_
 by_cases ha : a.v.cls = 3
 · refine zg I (fun Al W I => a0g a.v.cls a.v.neg a.p (dig B32 a.v.d).length a.c a.v.pow W) fun Al V Iv _ hB _ kz => ?_
   rintro _ W ⟨rfl, hb⟩
   refine ⟨_, congrArg (fun b => Ending.returned (.bool b)) (show (decide (a.v.cls = 3)) = true from dTr ha), kz _ _ hb fun I => ?_⟩
   refine zg I (fun Al W I => e0d a.v.cls a.v.neg a.p (dig B32 a.v.d).length a.c a.v.pow W) fun Al V Iv _ hB _ kz => ?_
   rintro _ W ⟨rfl, hb⟩
   refine ⟨_, congrArg (fun b => Ending.returned (.bool b)) (show (decide (a.v.cls = 1)) = false from dFa (by omega)), kz _ _ hb fun I => ?_⟩
   refine zg I (fun Al W I => e0d b.v.cls b.v.neg b.p (dig B32 b.v.d).length b.c b.v.pow W) fun Al V Iv _ hB _ kz => ?_
   rintro _ W ⟨rfl, hb⟩
   refine ⟨_, congrArg (fun b => Ending.returned (.bool b)) (show (decide (b.v.cls = 1)) = true from dTr (by omega)), kz _ _ hb fun I => ?_⟩
   refine zge I 0 139 (fun Al W I => (HL W _ (I.box 0 139 _)).out) fun Al V Iv _ _ kz => ?_
   rintro _ W ⟨rfl, hO, hB⟩
   refine ⟨_, rfl, kz _ (uS f n way 16) _ hO hB fun I => ?_⟩
   exact zret I fun Al W I => ⟨rfl, I.bel, I.boxE 139 _⟩
 refine zg I (fun Al W I => a0g a.v.cls a.v.neg a.p (dig B32 a.v.d).length a.c a.v.pow W) fun Al V Iv _ hB _ kz => ?_
 rintro _ W ⟨rfl, hb⟩
 refine ⟨_, congrArg (fun b => Ending.returned (.bool b)) (show (decide (a.v.cls = 3)) = false from dFa ha), kz _ _ hb fun I => ?_⟩
 refine zg I (fun Al W I => a0g b.v.cls b.v.neg b.p (dig B32 b.v.d).length b.c b.v.pow W) fun Al V Iv _ hB _ kz => ?_
 rintro _ W ⟨rfl, hb⟩
 refine ⟨_, congrArg (fun b => Ending.returned (.bool b)) (show (decide (b.v.cls = 3)) = true from dTr (by omega)), kz _ _ hb fun I => ?_⟩
 refine zg I (fun Al W I => e0d a.v.cls a.v.neg a.p (dig B32 a.v.d).length a.c a.v.pow W) fun Al V Iv _ hB _ kz => ?_
 rintro _ W ⟨rfl, hb⟩
 refine ⟨_, congrArg (fun b => Ending.returned (.bool b)) (show (decide (a.v.cls = 1)) = true from dTr (by omega)), kz _ _ hb fun I => ?_⟩
 refine zge I 0 139 (fun Al W I => (HL W _ (I.box 0 139 _)).out) fun Al V Iv _ _ kz => ?_
 rintro _ W ⟨rfl, hO, hB⟩
 refine ⟨_, rfl, kz _ (uS f n way 16) _ hO hB fun I => ?_⟩
 exact zret I fun Al W I => ⟨rfl, I.bel, I.boxE 139 _⟩
def _root_.Go.Slip.Fm.fusedM (f : Fm) (a b c : Vr) (way : Int) : Vr × Nat :=
 if 4 ≤ a.cls ∨ 4 ≤ b.cls ∨ 4 ≤ c.cls then f.offM
 else if a.cls = 3 ∨ b.cls = 3 then (if a.cls = 1 ∨ b.cls = 1 then f.lostM else f.addM (infM (a.neg != b.neg)) c way)
 else if c.cls = 3 then (c, 0)
 else f.sumM (d0x a.x b.x) c.x (a.neg != b.neg) c.neg way
theorem n1h {f : Fm} (h : f.fam = 1) (g : Bool) : AtV f ⟨⟨3, g, 0, 0⟩, none, 0⟩ (infM g) :=
 ⟨f0l (by decide), ⟨by show 1 ≤ 3 ∧ 3 ≤ 5; omega, fun _ => rfl, fun h => (by cases h), .inr rfl, by show (dig B32 0).length ≤ _; rw [a0c]; decide, by show (-18000 : Int) ≤ 0; decide, by show (0 : Int) ≤ 18000; decide⟩, fun _ => h⟩
theorem n1i (f : Fm) (n way : Int) (g : Bool) (b : Vp) (rb : Vr) (base u : Nat) (w : World) (U : Bt w u 139 #[.int .i64 n, .int .i64 way, .int .i64 f.g.rad, .int .i64 f.g.digs, .int .i64 f.g.lo, .int .i64 f.g.hi, .bool f.g.grad, .int .u8 (famB f), .int .i64 0]) (ob : Own w base .u32 160 b.p b.c (dig B32 b.v.d)) (hb : base ≤ w.heap.size)
 (h1 : f.fam = 1) (B1 : AtV f b rb) (G : c0h f) (hw : 1 ≤ way ∧ way ≤ 5) (hT : TabW w) :
 Calls Tryz.prog 34 #[.pointer (some ⟨u, 0, none⟩), .agg #[.int .i64 3, .bool g, .slice none 0 0, .int .i64 0], .agg #[.int .i64 (b.v.cls : Int), .bool b.v.neg, .slice b.p (dig B32 b.v.d).length b.c, .int .i64 b.v.pow]] w (f0s f n way u w base (f.addM (infM g) rb way)) := by
 have := n1g f n way ⟨⟨3, g, 0, 0⟩, none, 0⟩ b (infM g) rb base u w U (by show Own _ _ _ _ _ _ (dig B32 0); rw [a0c]; exact Own.nil _ _ _ _) ob hb (n1h h1 g) B1 G hw hT
 simp only at this
 rw [a0c] at this
 exact this
theorem k1i (f : Fm) (n way : Int) (a b c : Vp) (ra rb rc : Vr) (base u : Nat) (w : World) (U : Bt w u 139 #[.int .i64 n, .int .i64 way, .int .i64 f.g.rad, .int .i64 f.g.digs, .int .i64 f.g.lo, .int .i64 f.g.hi, .bool f.g.grad, .int .u8 (famB f), .int .i64 0]) (oa : Own w base .u32 160 a.p a.c (dig B32 a.v.d)) (ob : Own w base .u32 160 b.p b.c (dig B32 b.v.d)) (oc : Own w base .u32 160 c.p c.c (dig B32 c.v.d)) (hb : base ≤ w.heap.size)
 (A1 : AtV f a ra) (B1 : AtV f b rb) (C1 : AtV f c rc) (G : c0h f) (hw : 1 ≤ way ∧ way ≤ 5) (hT : TabW w) :
 Calls Tryz.prog 57 #[.pointer (some ⟨u, 0, none⟩), .agg #[.int .i64 (a.v.cls : Int), .bool a.v.neg, .slice a.p (dig B32 a.v.d).length a.c, .int .i64 a.v.pow], .agg #[.int .i64 (b.v.cls : Int), .bool b.v.neg, .slice b.p (dig B32 b.v.d).length b.c, .int .i64 b.v.pow], .agg #[.int .i64 (c.v.cls : Int), .bool c.v.neg, .slice c.p (dig B32 c.v.d).length c.c, .int .i64 c.v.pow]] w (f0s f n way u w base (f.fusedM ra rb rc way)) := by
 have hM : f.fusedM ra rb rc way = if 4 ≤ a.v.cls ∨ 4 ≤ b.v.cls ∨ 4 ≤ c.v.cls then f.offM else if a.v.cls = 3 ∨ b.v.cls = 3 then (if a.v.cls = 1 ∨ b.v.cls = 1 then f.lostM else f.addM (infM (a.v.neg != b.v.neg)) rc way) else if c.v.cls = 3 then (rc, 0) else f.sumM (d0x ra.x rb.x) rc.x (a.v.neg != b.v.neg) c.v.neg way := by
  unfold Fm.fusedM; rw [A1.rep.cls, B1.rep.cls, C1.rep.cls, A1.rep.neg, B1.rep.neg, C1.rep.neg]
 have hca : a.v.cls ≤ 5 := by rw [A1.rep.cls]; exact A1.ok.c.2
 have hcb : b.v.cls ≤ 5 := by rw [B1.rep.cls]; exact B1.ok.c.2
 have hcc : c.v.cls ≤ 5 := by rw [C1.rep.cls]; exact C1.ok.c.2
 have hfi : a.v.cls = 3 ∨ b.v.cls = 3 → f.fam = 1 := fun h => h.elim (fun h => A1.inf (by rw [← A1.rep.cls]; exact h)) (fun h => B1.inf (by rw [← B1.rep.cls]; exact h))
 have hk4 : f.fam = 1 → f.nothM.cls = 4 := fun h => by unfold Fm.nothM; simp [h]
 have HY := fun W b0 u h1 h2 h3 => hi0 (d1f f n way [a, b, c] b0 3 u W h1 h2 rfl (by simp) (by simp [hca, hcb, hcc]) G h3)
 have HN := fun W b0 u h1 h2 h3 => hi0 (h1v f n way 0 [a, b, c] b0 3 u W h1 h2 rfl (by simp) h3)
 have HPN := fun W u h1 h2 h3 => hi0 (k1h f n way 0 a b u W h1 h2 h3)
 have HPI := fun W u h1 h2 h3 => hi0 (g1h f n way 0 a b u W h1 h2 h3)
 have HPL := fun W u h1 h2 h3 => hi0 (d1h f n way a b u W h1 h2 h3)
 have HAD := fun W u h1 h2 h3 h4 h5 => hi0 (n1i f n way (a.v.neg != b.v.neg) c rc base u W h1 h2 h3 h4 C1 G hw h5)
 have HA := fun W u h1 h2 h3 => hi0 (d1e f n way 0 a.v ra a.p a.c base u W h1 h2 A1.rep A1.ok h3)
 have HB := fun W u h1 h2 h3 => hi0 (d1e f n way 0 b.v rb b.p b.c base u W h1 h2 B1.rep B1.ok h3)
 have HC := fun W u h1 h2 h3 => hi0 (d1e f n way 0 c.v rc c.p c.c base u W h1 h2 C1.rep C1.ok h3)
 have sa := A1.ok.sm
 have sb := B1.ok.sm
 have st := g1g A1.ok B1.ok
 have bt := m0w ra.x rb.x
 have HT := fun W p q c d base h1 h2 h3 => hi0 (y0u ra.x rb.x p q c d base W sa sb h1 h2 h3)
 generalize d0x ra.x rb.x = t at *
 have HS := fun W p q cc d base u h1 h2 h3 h4 h5 => hi0 (n1f f n way t rc.x (a.v.neg != b.v.neg) c.v.neg p q cc d base u W h1 h2 h3 h4 bt C1.ok.bare st C1.ok.sm G hw h5)
 have VC := C1.rep
 have hoffm : f.offM = (⟨f.nothM.cls, false, vz⟩, f.offM.2) := rfl
 have hk2 := o0j G
 have hlostm : f.lostM = (⟨f.nothM.cls, false, vz⟩, 16) := rfl
 obtain ⟨rS, flS, hS⟩ : ∃ rS flS, f.sumM t rc.x (a.v.neg != b.v.neg) c.v.neg way = (rS, flS) := ⟨_, _, rfl⟩
 obtain ⟨rD, flD, hD⟩ : ∃ rD flD, f.addM (infM (a.v.neg != b.v.neg)) rc way = (rD, flD) := ⟨_, _, rfl⟩
 rw [hS] at HS hM
 rw [hD] at HAD hM
 generalize f.fusedM ra rb rc way = R at *
 generalize f.offM.2 = flo at *
 generalize f.nothM.cls = kN at *
 generalize hng : (a.v.neg != b.v.neg) = ng at *
 have HNG := hi0 hng
 clear hng hS hD st bt
 have I := Inv.startW w u 139 (uS f n way 0) [ownF base .u32 160 a.p a.c (dig B32 a.v.d), ownF base .u32 160 b.p b.c (dig B32 b.v.d), ownF base .u32 160 c.p c.c (dig B32 c.v.d), tabF] U ⟨oa, ob, oc, hT, True.intro⟩ ⟨fun hf => oa.far U (by kernel_rfl) hf.1 hf.2, fun hf => ob.far U (by kernel_rfl) hf.1 hf.2, fun hf => oc.far U (by kernel_rfl) hf.1 hf.2, fun hf => hT.far U (by kernel_rfl) hf, True.intro⟩
 refine a0d [.p 0 0, .v (.agg #[.int .i64 (a.v.cls : Int), .bool a.v.neg, .slice a.p (dig B32 a.v.d).length a.c, .int .i64 a.v.pow]), .v (.agg #[.int .i64 (b.v.cls : Int), .bool b.v.neg, .slice b.p (dig B32 b.v.d).length b.c, .int .i64 b.v.pow]), .v (.agg #[.int .i64 (c.v.cls : Int), .bool c.v.neg, .slice c.p (dig B32 c.v.d).length c.c, .int .i64 c.v.pow])] I Tryz.func57 ?_
 by_cases hof : 4 ≤ a.v.cls ∨ 4 ≤ b.v.cls ∨ 4 ≤ c.v.cls
 · refine zge I 0 139 (fun Al W I => (HY W _ _ (I.box 0 139 _) (I.box 5 70 _) (by simpa using hof)).out) fun Al V Iv _ _ kz => ?_
   rintro _ W ⟨rfl, hO, hB⟩
   refine ⟨_, rfl, kz _ (uS f n way (flo : Int)) _ hO hB fun I => ?_⟩
   rw [hM]
   refine zret I (v := fun Al => .agg #[.int .i64 (kN : Int), .bool false, .slice none 0 0, .int .i64 0]) fun Al W I => ?_
   first | (rw [if_pos hof, hoffm]; exact a0t hk2 rfl I.bel (I.boxE 139 _)) | (rw [if_neg hof, if_pos h3, if_pos h1, hlostm]; exact a0t hk2 rfl I.bel (I.boxE 139 _)) | (rw [if_neg hof, if_neg h3, if_pos hc3]; exact ⟨c.v, VC, c.p, c.c, rfl, I.fa.2.2.1, I.bel, I.boxE 139 _⟩)
 refine zg I (fun Al W I => have hzW := I.bel.size; (HN W _ _ (I.box 0 139 _) (I.box 5 70 _) (by simp only [List.mem_cons, List.mem_nil_iff, or_false]; rintro x (rfl | rfl | rfl) <;> omega)).out) fun Al V Iv _ hB _ kz => ?_
 rintro _ W ⟨rfl, hb⟩
 refine ⟨_, rfl, kz _ _ hb fun I => ?_⟩
 by_cases h3 : a.v.cls = 3 ∨ b.v.cls = 3
 · by_cases h1 : a.v.cls = 1 ∨ b.v.cls = 1
   · refine zge I 0 139 (fun Al W I => (HPL W _ (I.box 0 139 _) h3 h1).out) fun Al V Iv _ _ kz => ?_
     rintro _ W ⟨rfl, hO, hB⟩
     refine ⟨_, rfl, kz _ (uS f n way 16) _ hO hB fun I => ?_⟩
     refine zg I (fun Al W I => i0l kN false none 0 0 0 W) fun Al V Iv _ hB _ kz => ?_
     rintro _ W ⟨rfl, hb⟩
     refine ⟨_, congrArg (fun b => Ending.returned (.bool b)) (show (decide (kN = 4) || decide (kN = 5)) = true from (by rw [hk4 (hfi h3)]; rfl)), kz _ _ hb fun I => ?_⟩
     rw [hM]
     refine zret I (v := fun Al => .agg #[.int .i64 (kN : Int), .bool false, .slice none 0 0, .int .i64 0]) fun Al W I => ?_
     first | (rw [if_pos hof, hoffm]; exact a0t hk2 rfl I.bel (I.boxE 139 _)) | (rw [if_neg hof, if_pos h3, if_pos h1, hlostm]; exact a0t hk2 rfl I.bel (I.boxE 139 _)) | (rw [if_neg hof, if_neg h3, if_pos hc3]; exact ⟨c.v, VC, c.p, c.c, rfl, I.fa.2.2.1, I.bel, I.boxE 139 _⟩)
   refine zg I (fun Al W I => (HPI W _ (I.box 0 139 _) h3 h1).out) fun Al V Iv _ hB _ kz => ?_
   rintro _ W ⟨rfl, hb⟩
   refine ⟨_, rfl, kz _ _ hb fun I => ?_⟩
   refine zg I (fun Al W I => i0l 3 ng none 0 0 0 W) fun Al V Iv _ hB _ kz => ?_
   rintro _ W ⟨rfl, hb⟩
   refine ⟨_, congrArg (fun b => Ending.returned (.bool b)) (show (decide (3 = 4) || decide (3 = 5)) = false from rfl), kz _ _ hb fun I => ?_⟩
   refine zge I 0 139 (fun Al W I => have hzW := I.bel.size; (HAD W _ (I.box 0 139 _) I.fa.2.2.1 (by omega) (hfi h3) I.fa.2.2.2.1).out) fun Al V Iv _ _ kz => ?_
   rintro _ W ⟨v38, hR38, p38, c38, rfl, o38, hO, hB⟩
   refine ⟨_, rfl, kz _ (uS f n way (flD : Int)) _ hO hB fun I => ?_⟩
   have I := I.ownB base o38
   rw [hM, if_neg hof, if_pos h3, if_neg h1]
   exact zret I fun Al W I => ⟨v38, hR38, p38, c38, rfl, I.fa.1, I.bel, I.boxE 139 _⟩
 refine zg I (fun Al W I => have hzW := I.bel.size; (HPN W _ (I.box 0 139 _) (by omega) (by omega)).out) fun Al V Iv _ hB _ kz => ?_
 rintro _ W ⟨rfl, hb⟩
 refine ⟨_, rfl, kz _ _ hb fun I => ?_⟩
 by_cases hc3 : c.v.cls = 3
 · refine zg I (fun Al W I => a0g c.v.cls c.v.neg c.p (dig B32 c.v.d).length c.c c.v.pow W) fun Al V Iv _ hB _ kz => ?_
   rintro _ W ⟨rfl, hb⟩
   refine ⟨_, congrArg (fun b => Ending.returned (.bool b)) (show (decide (c.v.cls = 3)) = true from dTr hc3), kz _ _ hb fun I => ?_⟩
   rw [hM]
   refine zret I (v := fun Al => .agg #[.int .i64 (c.v.cls : Int), .bool c.v.neg, .slice c.p (dig B32 c.v.d).length c.c, .int .i64 c.v.pow]) fun Al W I => ?_
   first | (rw [if_pos hof, hoffm]; exact a0t hk2 rfl I.bel (I.boxE 139 _)) | (rw [if_neg hof, if_pos h3, if_pos h1, hlostm]; exact a0t hk2 rfl I.bel (I.boxE 139 _)) | (rw [if_neg hof, if_neg h3, if_pos hc3]; exact ⟨c.v, VC, c.p, c.c, rfl, I.fa.2.2.1, I.bel, I.boxE 139 _⟩)
 refine zg I (fun Al W I => a0g c.v.cls c.v.neg c.p (dig B32 c.v.d).length c.c c.v.pow W) fun Al V Iv _ hB _ kz => ?_
 rintro _ W ⟨rfl, hb⟩
 refine ⟨_, congrArg (fun b => Ending.returned (.bool b)) (show (decide (c.v.cls = 3)) = false from dFa hc3), kz _ _ hb fun I => ?_⟩
 refine zd [0, 4] I fun Al W I => ?_
 refine zk [0, 1, 2, 4, 5, 8, 9, 11, 12, 13, 14] I fun I => ?_
 refine zkb 15 I (a.v.neg != b.v.neg) (ng) (HNG.out) fun I => ?_
 refine zk [16, 17] I fun I => ?_
 refine zo 3 I fun I => ?_
 refine zg I (fun Al W I => (HA W _ (I.box 0 139 _) I.fa.1 I.fa.2.2.2.1).out) fun Al V Iv _ hB _ kz => ?_
 rintro _ W ⟨p45, c45, rfl, o45, hb⟩
 refine ⟨_, rfl, kz _ _ hb fun I => ?_⟩
 have I := I.ownB base o45
 refine zo 6 I fun I => ?_
 refine zg I (fun Al W I => (HB W _ (I.box 0 139 _) I.fa.2.2.1 I.fa.2.2.2.2.1).out) fun Al V Iv _ hB _ kz => ?_
 rintro _ W ⟨p48, c48, rfl, o48, hb⟩
 refine ⟨_, rfl, kz _ _ hb fun I => ?_⟩
 have I := I.ownB base o48
 refine zo 7 I fun I => ?_
 refine zg I (fun Al W I => (HT W p45 p48 c45 c48 _ I.fa.2.1 I.fa.1 I.fa.2.2.2.2.2.1).out) fun Al V Iv _ hB _ kz => ?_
 rintro _ W ⟨p49, c49, rfl, o49, hb⟩
 refine ⟨_, rfl, kz _ _ hb fun I => ?_⟩
 have I := I.ownB base o49
 refine zo 10 I fun I => ?_
 refine zg I (fun Al W I => (HC W _ (I.box 0 139 _) I.fa.2.2.2.2.2.1 I.fa.2.2.2.2.2.2.1).out) fun Al V Iv _ hB _ kz => ?_
 rintro _ W ⟨p52, c52, rfl, o52, hb⟩
 refine ⟨_, rfl, kz _ _ hb fun I => ?_⟩
 have I := I.ownB base o52
 refine zo 18 I fun I => ?_
 refine zge I 0 139 (fun Al W I => have hzW := I.bel.size; (HS W p49 p52 c49 c52 _ _ (I.box 0 139 _) I.fa.2.1 I.fa.1 (by omega) I.fa.2.2.2.2.2.2.2.1).out) fun Al V Iv _ _ kz => ?_
 rintro _ W ⟨v60, hR60, p60, c60, rfl, o60, hO, hB⟩
 refine ⟨_, rfl, kz _ (uS f n way (flS : Int)) _ hO hB fun I => ?_⟩
 have I := I.ownB base o60
 refine zo 19 I fun I => ?_
 refine zn I fun Al W I => ?_
 rw [hM, if_neg hof, if_neg h3, if_neg hc3]
 exact zret I fun Al W I => ⟨v60, hR60, p60, c60, rfl, I.fa.1, I.bel, I.boxE 139 _⟩
theorem t0r (n : Int) (w : World) : Calls Tryz.prog 58 #[.int .i64 n] w fun en w' => en = .returned (.tuple #[.agg #[.int .i64 (fmt n).g.rad, .int .i64 (fmt n).g.digs, .int .i64 (fmt n).g.lo, .int .i64 (fmt n).g.hi, .bool (fmt n).g.grad], .int .i64 (n0y n)]) ∧ Below w.heap.size w w' := by
 by_cases hn : IsFm n
 · have h0 : n0y n = 0 := by unfold n0y; rw [if_pos hn]
   rw [h0]
   have HF := fun W => hi0 (k0p n hn W)
   generalize fmt n = f at *
   have I := Inv.start w [] True.intro
   refine a0d [.v (.int .i64 n)] I Tryz.func58 ?_
   refine zg I (fun Al W I => (HF W).out) fun Al V Iv _ hB _ kz => ?_
   rintro _ W ⟨rfl, hb⟩
   refine ⟨_, rfl, kz _ _ hb fun I => ?_⟩
   exact zret I fun Al W I => ⟨rfl, I.below⟩
 · have h0 : n0y n = 6 := by unfold n0y; rw [if_neg hn]
   rw [h0, c1n hn]
   have HF := fun W => hi0 (n0s n hn W)
   have I := Inv.start w [] True.intro
   refine a0d [.v (.int .i64 n)] I Tryz.func58 ?_
   refine zg I (fun Al W I => (HF W).out) fun Al V Iv _ hB _ kz => ?_
   rintro _ W ⟨rfl, hb⟩
   refine ⟨_, rfl, kz _ _ hb fun I => ?_⟩
   exact zret I fun Al W I => ⟨rfl, I.below⟩
theorem x0c (n way : Int) (w : World) (h : ¬ (IsFm n ∧ 1 ≤ way ∧ way ≤ 5)) : Calls Tryz.prog 50 #[.int .i64 n, .int .i64 way] w fun en w' => en = .returned (.tuple #[.pointer none, .int .i64 6]) ∧ Below w.heap.size w w' := by
 have HG := fun W => hi0 (t0r n W)
 by_cases hn : IsFm n
 · have he : n0y n = 0 := by unfold n0y; rw [if_pos hn]
   have h' : way < 1 ∨ 5 < way := by by_cases k : 1 ≤ way ∧ way ≤ 5; exact absurd ⟨hn, k⟩ h; omega
   rw [he] at HG
   generalize fmt n = f at *
   have I := Inv.start w [] True.intro
   refine a0d [.v (.int .i64 n), .v (.int .i64 way)] I Tryz.func50 ?_
   refine zg I (fun Al W I => (HG W).out) fun Al V Iv _ hB _ kz => ?_
   rintro _ W ⟨rfl, hb⟩
   refine ⟨_, rfl, kz _ _ hb fun I => ?_⟩
   by_cases h1 : way < 1
   · refine zb I 18 (decide (way < 1)) (true) (dTr h1) fun Al W I => ?_
     exact zret I fun Al W I => ⟨rfl, I.below⟩
   refine zb I 18 (decide (way < 1)) (false) (dFa h1) fun Al W I => ?_
   refine zb I 21 (decide (way > 5)) (true) (dTr (by omega)) fun Al W I => ?_
   exact zret I fun Al W I => ⟨rfl, I.below⟩
 · have he : n0y n = 6 := by unfold n0y; rw [if_neg hn]
   rw [he] at HG
   generalize fmt n = f at *
   have I := Inv.start w [] True.intro
   refine a0d [.v (.int .i64 n), .v (.int .i64 way)] I Tryz.func50 ?_
   refine zg I (fun Al W I => (HG W).out) fun Al V Iv _ hB _ kz => ?_
   rintro _ W ⟨rfl, hb⟩
   refine ⟨_, rfl, kz _ _ hb fun I => ?_⟩
   exact zret I fun Al W I => ⟨rfl, I.below⟩
def o0l (f : Fm) (n way : Int) (w : World) (en : Ending) (w' : World) : Prop :=
 ∃ u, en = .returned (.tuple #[.pointer (some ⟨u, 0, none⟩), .int .i64 0]) ∧ w.heap.size ≤ u ∧ Bt w' u 139 #[.int .i64 n, .int .i64 way, .int .i64 f.g.rad, .int .i64 f.g.digs, .int .i64 f.g.lo, .int .i64 f.g.hi, .bool f.g.grad, .int .u8 (famB f), .int .i64 0] ∧ Below w.heap.size w w'
theorem v0p (n way : Int) (w : World) (hn : IsFm n) (hw : 1 ≤ way ∧ way ≤ 5) : Calls Tryz.prog 50 #[.int .i64 n, .int .i64 way] w (o0l (fmt n) n way w) := by
 have HG := fun W => hi0 (t0r n W)
 have he : n0y n = 0 := by unfold n0y; rw [if_pos hn]
 rw [he] at HG
 have G := c0a hn
 generalize fmt n = f at *
 have hrad := G.rad
 have hgr := G.grad
 by_cases f2 : f.fam = 2
 · have hBf : famB f = 66 := by unfold famB; rw [if_neg (by omega), if_pos f2]
   rw [if_pos f2] at hrad
   have I := Inv.start w [] True.intro
   refine a0d [.v (.int .i64 n), .v (.int .i64 way)] I Tryz.func50 ?_
   refine zg I (fun Al W I => (HG W).out) fun Al V Iv _ hB _ kz => ?_
   rintro _ W ⟨rfl, hb⟩
   refine ⟨_, rfl, kz _ _ hb fun I => ?_⟩
   refine zb I 18 (decide (way < 1)) (false) (dFa (by omega)) fun Al W I => ?_
   refine zb I 21 (decide (way > 5)) (false) (dFa (by omega)) fun Al W I => ?_
   refine zb I 31 (f.g.rad == 16) (true) (beq_iff_eq.2 hrad) fun Al W I => ?_
   exact zret I (v := fun Al => .tuple #[.pointer (some ⟨(lk 0 Al 1), 0, none⟩), .int .i64 0]) fun Al W I => ⟨_, rfl, (I.geB 1), by rw [hBf]; exact (I.box 1 139 _), I.below⟩
 · rw [if_neg f2] at hrad
   by_cases f1 : f.fam = 1
   · have hBf : famB f = 65 := by unfold famB; rw [if_pos f1]
     rw [decide_eq_true f1] at hgr
     unfold o0l
     rw [hBf, hgr]
     simp only [hgr] at HG
     have I := Inv.start w [] True.intro
     refine a0d [.v (.int .i64 n), .v (.int .i64 way)] I Tryz.func50 ?_
     refine zg I (fun Al W I => (HG W).out) fun Al V Iv _ hB _ kz => ?_
     rintro _ W ⟨rfl, hb⟩
     refine ⟨_, rfl, kz _ _ hb fun I => ?_⟩
     refine zb I 18 (decide (way < 1)) (false) (dFa (by omega)) fun Al W I => ?_
     refine zb I 21 (decide (way > 5)) (false) (dFa (by omega)) fun Al W I => ?_
     refine zb I 31 (f.g.rad == 16) (false) (bFn (by omega)) fun Al W I => ?_
     exact zret I fun Al W I => ⟨_, rfl, (I.geB 1), (I.box 1 139 _), I.below⟩
   · have hBf : famB f = 67 := by unfold famB; rw [if_neg f1, if_neg f2]
     rw [decide_eq_false f1] at hgr
     unfold o0l
     rw [hBf, hgr]
     simp only [hgr] at HG
     have I := Inv.start w [] True.intro
     refine a0d [.v (.int .i64 n), .v (.int .i64 way)] I Tryz.func50 ?_
     refine zg I (fun Al W I => (HG W).out) fun Al V Iv _ hB _ kz => ?_
     rintro _ W ⟨rfl, hb⟩
     refine ⟨_, rfl, kz _ _ hb fun I => ?_⟩
     refine zb I 18 (decide (way < 1)) (false) (dFa (by omega)) fun Al W I => ?_
     refine zb I 21 (decide (way > 5)) (false) (dFa (by omega)) fun Al W I => ?_
     refine zb I 31 (f.g.rad == 16) (false) (bFn (by omega)) fun Al W I => ?_
     exact zret I fun Al W I => ⟨_, rfl, (I.geB 1), (I.box 1 139 _), I.below⟩
theorem n1j (n way fl : Int) (a : Vp) (r : Vr) (base u : Nat) (w : World) (U : Bt w u 139 #[.int .i64 n, .int .i64 way, .int .i64 (fmt n).g.rad, .int .i64 (fmt n).g.digs, .int .i64 (fmt n).g.lo, .int .i64 (fmt n).g.hi, .bool (fmt n).g.grad, .int .u8 (famB (fmt n)), .int .i64 fl]) (oa : Own w base .u32 160 a.p a.c (dig B32 a.v.d)) (hn : IsFm n) (V : VRep (fmt n) a.v r) (R : ResF (fmt n) r) (hT : TabW w) :
 Calls Tryz.prog 60 #[.pointer (some ⟨u, 0, none⟩), .agg #[.int .i64 (a.v.cls : Int), .bool a.v.neg, .slice a.p (dig B32 a.v.d).length a.c, .int .i64 a.v.pow]] w fun en w' => en = .returned (.tuple #[.string (b0m ((fmt n).strP ((fmt n).encP r.cls r.neg r.x))), .int .i64 fl, .int .i64 0]) ∧ Below w.heap.size w w' := by
 have HE := fun W (h1 : Own W base .u32 160 a.p a.c (dig B32 a.v.d)) h2 => hi0 (y0r n (a.v.cls : Int) (dinV a.v a.p a.c) W (k1c h1 V.len) h2)
 obtain ⟨e1, e2⟩ := n1a R V a.p a.c
 unfold v0o t0o at HE
 rw [if_pos hn, e1, e2] at HE
 simp only [if_true] at HE
 have HE2 : ∀ W, Own W base .u32 160 a.p a.c (dig B32 a.v.d) → TabW W → Hid (Calls Tryz.prog 107 #[.int .i64 n, .agg #[.int .i64 (a.v.cls : Int), .bool a.v.neg, .slice a.p (dig B32 a.v.d).length a.c, .int .i64 a.v.pow]] W fun en w' => en = .returned (.tuple #[.string (b0m ((fmt n).strP ((fmt n).encP r.cls r.neg r.x))), .int .i64 0]) ∧ Below W.heap.size W w') := HE
 clear HE e1 e2 V R
 generalize b0m ((fmt n).strP ((fmt n).encP r.cls r.neg r.x)) = s at *
 generalize fmt n = f at *
 have I := Inv.startR w [u] [⟨139, (uS f n way fl), true⟩] [ownF base .u32 160 a.p a.c (dig B32 a.v.d), tabF] ⟨U, True.intro⟩ ⟨oa, hT, True.intro⟩
 refine a0d [.p 0 0, .v (.agg #[.int .i64 (a.v.cls : Int), .bool a.v.neg, .slice a.p (dig B32 a.v.d).length a.c, .int .i64 a.v.pow])] I Tryz.func60 ?_
 refine zd [] I fun Al W I => ?_
 refine zk [0, 1, 2, 3, 4] I fun I => ?_
 refine zo 5 I fun I => ?_
 refine zg I (fun Al W I => (HE2 W I.fa.1 I.fa.2.1).out) fun Al V Iv _ hB _ kz => ?_
 rintro _ W ⟨rfl, hb⟩
 refine ⟨_, rfl, kz _ _ hb fun I => ?_⟩
 refine zk [6, 7, 8, 9, 10] I fun I => ?_
 refine zd [] I fun Al W I => ?_
 refine zk [0, 1, 2, 3, 4, 5, 6, 7] I fun I => ?_
 exact zret I fun Al W I => ⟨rfl, I.below⟩
end Go.Proofs.YtlcdfnaaenibgaaGreatDoor
namespace Go.Slip
open Go.RowKit
theorem i0m {P : Program} {w : World} {b : Nat} {t : TypeId} {vs : Array Value} (h : Bt w b t vs) {ty : TypeId} (hT : d0d P ty) {m : Nat} (v : Value) (hv : vs[m]? = some v) : (VO.ld ty (.pointer (some (at_ (some ⟨b, 0, none⟩) m)))).sem.run P w = .ok v w := by
 have := u0r h hT m v hv
 show (Instr.loadAt _ _).run P w = _
 unfold at_
 simpa using this
end Go.Slip
namespace Go.Proofs.YtlcdfnaaenibgaaGreatDoor
open Go.RowKit Go.Slip
def y0v (b : Nat) (xs : List Vp) : PF :=
 ⟨fun w => ∀ x, x ∈ xs → Own w b .u32 160 x.p x.c (dig B32 x.v.d), fun a => ∃ x, x ∈ xs ∧ x.p.isSome = true ∧ blk x.p = a, fun _ _ h hb _ x hx => (h x hx).same fun hp => hb _ ((h x hx).blk_lt hp).2 ⟨x, hx, hp, rfl⟩, fun _ _ h ⟨x, hx, hp, hf⟩ => hf ▸ ((h x hx).blk_lt hp).2⟩
theorem d1i {w : World} {b : Nat} {xs : List Vp} {v : Vl} {p : Option Addr} {c : Nat} (h : ∀ x, x ∈ xs → Own w b .u32 160 x.p x.c (dig B32 x.v.d)) (o : Own w b .u32 160 p c (dig B32 v.d)) : ∀ x, x ∈ xs ++ [⟨v, p, c⟩] → Own w b .u32 160 x.p x.c (dig B32 x.v.d) := fun x hx => by
 rw [List.mem_append, List.mem_singleton] at hx
 rcases hx with hx | rfl
 · exact h x hx
 · exact o
theorem g1i {b a : Nat} {xs : List Vp} {v : Vl} {p : Option Addr} {c : Nat} (h : (y0v b (xs ++ [⟨v, p, c⟩])).foot a) (h1 : ∀ x, (x ∈ xs ∧ x.p.isSome = true ∧ blk x.p = a) → False) (h2 : p.isSome = true → blk p = a → False) : False := by
 obtain ⟨x, hx, h3, h4⟩ := h
 rw [List.mem_append, List.mem_singleton] at hx
 rcases hx with hx | rfl
 · exact h1 x ⟨hx, h3, h4⟩
 · exact h2 h3 h4
theorem y0w : g0u Tryz.prog 73 9 (.string ByteArray.empty) 16 := tyV (by kernel_rfl) (by kernel_rfl) (by omega) rfl rfl
theorem y0x : d0d Tryz.prog 9 := c0e (by kernel_rfl) (by kernel_rfl)
def errL (n : Int) : List ByteArray → Int
 | [] => 0
 | s :: r => if a0w n s = 0 then errL n r else a0w n s
theorem v0q (n : Int) : ∀ (L : List ByteArray), errL n L ≠ 0 → ∃ (j : Nat) (s : ByteArray), L[j]? = some s ∧ errL n L = a0w n s ∧ a0w n s ≠ 0 ∧ ∀ i t, i < j → L[i]? = some t → a0w n t = 0
 | [], h => absurd rfl h
 | s :: r, h => by
  unfold errL at h ⊢
  by_cases hs : a0w n s = 0
  · rw [if_pos hs] at h ⊢
    obtain ⟨j, t, h1, h2, h3, h4⟩ := v0q n r h
    refine ⟨j + 1, t, by simpa using h1, h2, h3, fun i u hi hu => ?_⟩
    cases i with
    | zero => simp only [List.getElem?_cons_zero, Option.some.injEq] at hu; rw [← hu]; exact hs
    | succ i => exact h4 i u (by omega) (by simpa using hu)
  · rw [if_neg hs]
    exact ⟨0, s, rfl, rfl, hs, fun i t hi => by omega⟩
theorem d0w (n : Int) : ∀ {L : List ByteArray}, errL n L = 0 → ∀ s, s ∈ L → a0w n s = 0
 | [], _, s, h => by simp at h
 | t :: r, h, s, hs => by
  unfold errL at h
  by_cases ht : a0w n t = 0
  · rw [if_pos ht] at h
    rcases List.mem_cons.1 hs with rfl | hs
    · exact ht
    · exact d0w n h s hs
  · rw [if_neg ht] at h
    exact absurd h ht
def k1j (n : Int) (w : World) (L : List ByteArray) (en : Ending) (w' : World) : Prop :=
 ∃ (xs : List Vp) (vs : List Value) (p : Option Addr) (c : Nat), en = .returned (.tuple #[.slice p L.length c, .int .i64 0]) ∧ xs.map (·.v) = L.map (decP n) ∧ vs = xs.flatMap Vp.cells ∧ OwnS w' w.heap.size 70 4 p c L.length vs ∧ (∀ x, x ∈ xs → Own w' w.heap.size .u32 160 x.p x.c (dig B32 x.v.d)) ∧ Below w.heap.size w w'
theorem x0d (n way fl : Int) (L : List ByteArray) (b m u : Nat) (w : World) (U : Bt w u 139 #[.int .i64 n, .int .i64 way, .int .i64 (fmt n).g.rad, .int .i64 (fmt n).g.digs, .int .i64 (fmt n).g.lo, .int .i64 (fmt n).g.hi, .bool (fmt n).g.grad, .int .u8 (famB (fmt n)), .int .i64 fl]) (hB0 : Bt w b 9 (L.map Value.string).toArray) (hm : m = L.length) (hl : L.length ≤ 1000) (h0 : errL n L = 0) (hT : TabW w) :
 Calls Tryz.prog 51 #[.pointer (some ⟨u, 0, none⟩), .slice (some ⟨b, 0, none⟩) m m] w (k1j n w L) := by
 subst hm
 have HX : ∀ i, i < L.length → ∃ s : ByteArray, L[i]? = some s ∧ a0w n s = 0 ∧ (L.map Value.string).toArray[i]? = some (.string s) ∧ L.take (i + 1) = L.take i ++ [s] := fun i h => ⟨L[i], List.getElem?_eq_getElem h, d0w n h0 _ (List.getElem_mem h), by simp [h], by rw [List.take_add_one, List.getElem?_eq_getElem h]; rfl⟩
 have HD := fun s W h => hi0 (p0q n s W h)
 generalize fmt n = f at *
 have I := Inv.startW w u 139 (uS f n way fl) [btF b 9 (L.map Value.string).toArray, tabF] U ⟨hB0, hT, True.intro⟩ ⟨fun hf => hB0.far U (by kernel_rfl) hf, fun hf => hT.far U (by kernel_rfl) hf, True.intro⟩
 refine a0d [.p 0 0, .v (.slice (some ⟨b, 0, none⟩) L.length L.length)] I Tryz.func51 ?_
 have I := I.add (h0q w.heap.size 70 4 none 0 0 []) (OwnS.nil _ _ _ _) (fun _ _ h => by cases h.1)
 have I := I.add (y0v w.heap.size []) (fun _ h => by cases h) (fun _ _ ⟨_, h, _⟩ => by cases h)
 refine o0q I (fun gk fr bx gs => ∃ (U900 : Nat → Value) (i : Nat) (p6 : Option Addr) (c6 : Nat) (xs : List Vp) (vs : List Value), fr = (.p 0 0 :: .v (.slice (some ⟨b, 0, none⟩) L.length L.length) :: su 2 (sw U900 4 2 (.v (.slice p6 i c6) :: .v undef :: sw U900 8 3 (.v (.slice (some ⟨b, 0, none⟩) L.length L.length) :: .v (.int .i64 (L.length : Int)) :: .v (.int .i64 (i : Int)) :: sw U900 14 21 []))) : List SV) ∧ bx = [⟨139, (uS f n way fl), false⟩] ∧ gs = [y0v w.heap.size xs, h0q w.heap.size 70 4 p6 c6 i vs, btF b 9 (L.map Value.string).toArray, tabF] ∧ (gk + i = L.length) ∧ (vs = xs.flatMap Vp.cells) ∧ (xs.map (·.v) = (L.take i).map (decP n))) L.length (fun Al W U I => ⟨_, ⟨U, 0, none, 0, [], [], rfl, rfl, rfl, (by omega), rfl, rfl⟩, I.pick [0, 1, 2, 3]⟩) ?_
 rintro J gk0 _ _ _ ⟨U900, i, p6, c6, xs, vs, rfl, rfl, rfl, hgk, hvs, hxs⟩ hJ Al W I
 rcases Bool.eq_false_or_eq_true (decide ((i : Int) < (L.length : Int))) with f14 | f14
 · refine zb I 14 (decide ((i : Int) < (L.length : Int))) (true) (f14) fun Al W I => ?_
   obtain ⟨s, hs, hse, hsv, hst⟩ := HX i (by have := oTr f14; omega)
   refine zx I 15 (fun _ => .pointer (some (at_ (some ⟨b, 0, none⟩) i))) (fun Al W I => (i0d (m := i) (n := L.length) (c := L.length) y0w (fun _ => ⟨rfl, rfl⟩) (by have := oTr f14; omega))) fun Al W I => ?_
   refine zx I 16 (fun _ => .string s) (fun Al W I => (i0m I.fa.2.2.1 y0x _ hsv)) fun Al W I => ?_
   refine zg I (fun Al W I => (HD s W I.fa.2.2.2.1).out) fun Al V Iv _ hB _ kz => ?_
   rintro _ W ⟨p23, c23, rfl, o23, hb⟩
   refine ⟨_, rfl, kz _ _ hb fun I => ?_⟩
   have I := I.own o23
   refine zb I 27 ((a0w n s) != 0) (false) (bne_eq_false_iff_eq.2 hse) fun Al W I => ?_
   have I := I.pick [2, 0, 1, 3, 4]
   refine zap I r0v 2 1 (fun Al => [.int .i64 (((decP n s).cls : Nat) : Int), .bool ((decP n s).neg), .slice p23 (dig B32 (decP n s).d).length c23, .int .i64 ((decP n s).pow)]) (fun Al W I => I.box 2 70 _) (by omega) (fun Al W I hp => ⟨I.fa.1.apart I.fa.2.1 (by kernel_rfl) hp, fun ⟨x, hx, h⟩ => I.fa.1.apart (I.fa.2.2.1 x hx) (by kernel_rfl) hp h, fun e => I.fa.1.far I.fa.2.2.2.1 (by kernel_rfl) hp (Eq.symm e), fun e => by have h1 := (I.fa.1.blk_lt hp).1; have h2 := hT.2; have e : 0 = _ := e; omega, True.intro⟩) fun Al W p32 c32 hq_32 I => ?_
   have I := I.add (y0v w.heap.size (xs ++ [(⟨decP n s, p23, c23⟩ : Vp)])) (d1i I.fa.2.2.1 I.fa.2.1) (fun a ha h => g1i h ((fun a ha h0 e => (I.far a ha).2.2.1 ⟨h0, e⟩) a ha) ((fun a ha h0 e => (I.far a ha).2.1 ⟨h0, e⟩) a ha))
   refine zi I 33 .i64 ((i : Int) + 1) (((i + 1 : Nat) : Int)) ((by rw [show ((i : Int) + 1) = ((i + 1 : Nat) : Int) by omega]; exact IntWalk.i64_in _ (by have := oTr f14; omega))) fun Al W I => ?_
   exact p0w 1 I J fun Al W U I => hJ (gk0 - 1) _ _ _ _ _ ((by have := oTr f14; omega)) ⟨U, i + 1, p32, c32, xs ++ [(⟨decP n s, p23, c23⟩ : Vp)], _, rfl, rfl, rfl, (by have := oTr f14; omega), (by rw [hvs, List.flatMap_append]; rfl), (by rw [hst, List.map_append, List.map_append, hxs]; rfl)⟩ (I.pick [0, 1, 4, 5])
 refine zb I 14 (decide ((i : Int) < (L.length : Int))) (false) (f14) fun Al W I => ?_
 have hi : i = L.length := by have := oFa f14; omega
 exact zret I (v := fun Al => .tuple #[.slice p6 i c6, .int .i64 0]) fun Al W I => ⟨xs, vs, p6, c6, by rw [hi], by rw [hxs, hi, List.take_length], hvs, hi ▸ I.fa.2.1, I.fa.1, I.bel.toBelow U (I.boxE 139 _)⟩
theorem _root_.Go.Slip.Inv.ownl {E : List Nat} {w0 : World} {A : List Nat} {bx : List Box} {fs : List PF} {W : World} (I : Inv E w0 A bx fs W) {b : Nat} {xs : List Vp} (o : ∀ x, x ∈ xs → Own W b .u32 160 x.p x.c (dig B32 x.v.d)) (hb : w0.heap.size ≤ b := by first | exact Nat.le_refl _ | assumption | omega) (hne : s0w 160 bx = true := by kernel_rfl) :
 Inv E w0 A bx (y0v w0.heap.size xs :: fs) W :=
 I.add (y0v w0.heap.size xs) (fun x hx => (o x hx).mono hb) fun a ha ⟨x, hx, hf1, hf2⟩ => by
  obtain ⟨j, hj, _, rfl⟩ := ha
  exact (o x hx).far (I.bt j hj) (g0v hne j hj) hf1 hf2
theorem t0s (n way fl : Int) (L : List ByteArray) (b m u : Nat) (w : World) (U : Bt w u 139 #[.int .i64 n, .int .i64 way, .int .i64 (fmt n).g.rad, .int .i64 (fmt n).g.digs, .int .i64 (fmt n).g.lo, .int .i64 (fmt n).g.hi, .bool (fmt n).g.grad, .int .u8 (famB (fmt n)), .int .i64 fl]) (hB0 : Bt w b 9 (L.map Value.string).toArray) (hm : m = L.length) (hl : L.length ≤ 1000) (h0 : errL n L ≠ 0) (hT : TabW w) :
 Calls Tryz.prog 51 #[.pointer (some ⟨u, 0, none⟩), .slice (some ⟨b, 0, none⟩) m m] w fun en w' => en = .returned (.tuple #[.slice none 0 0, .int .i64 (errL n L)]) ∧ Below w.heap.size w w' := by
 subst hm
 obtain ⟨j, sj, hj, he, hne, hlt⟩ := v0q n L h0
 have hjl : j < L.length := (List.getElem?_eq_some_iff.1 hj).1
 rw [he]
 have HX : ∀ i, i < L.length → ∃ s : ByteArray, (L.map Value.string).toArray[i]? = some (.string s) ∧ (i < j → a0w n s = 0) ∧ (i = j → a0w n s = a0w n sj) := fun i h => ⟨L[i], by simp [h], fun k => hlt i _ k (List.getElem?_eq_getElem h), fun k => by subst k; rw [List.getElem?_eq_getElem h] at hj; cases hj; rfl⟩
 have HD := fun s W h => hi0 (p0q n s W h)
 clear he h0 hlt hj
 generalize a0w n sj = er at *
 generalize fmt n = f at *
 have I := Inv.startW w u 139 (uS f n way fl) [btF b 9 (L.map Value.string).toArray, tabF] U ⟨hB0, hT, True.intro⟩ ⟨fun hf => hB0.far U (by kernel_rfl) hf, fun hf => hT.far U (by kernel_rfl) hf, True.intro⟩
 refine a0d [.p 0 0, .v (.slice (some ⟨b, 0, none⟩) L.length L.length)] I Tryz.func51 ?_
 have I := I.add (h0q w.heap.size 70 4 none 0 0 []) (OwnS.nil _ _ _ _) (fun _ _ h => by cases h.1)
 refine o0q I (fun gk fr bx gs => ∃ (U900 : Nat → Value) (i : Nat) (p6 : Option Addr) (c6 : Nat) (vs : List Value), fr = (.p 0 0 :: .v (.slice (some ⟨b, 0, none⟩) L.length L.length) :: su 2 (sw U900 4 2 (.v (.slice p6 i c6) :: .v undef :: sw U900 8 3 (.v (.slice (some ⟨b, 0, none⟩) L.length L.length) :: .v (.int .i64 (L.length : Int)) :: .v (.int .i64 (i : Int)) :: sw U900 14 21 []))) : List SV) ∧ bx = [⟨139, (uS f n way fl), false⟩] ∧ gs = [h0q w.heap.size 70 4 p6 c6 i vs, btF b 9 (L.map Value.string).toArray, tabF] ∧ (gk + i = L.length) ∧ (i ≤ j)) L.length (fun Al W U I => ⟨_, ⟨U, 0, none, 0, [], rfl, rfl, rfl, (by omega), (by omega)⟩, I.pick [0, 1, 2]⟩) ?_
 rintro J gk0 _ _ _ ⟨U900, i, p6, c6, vs, rfl, rfl, rfl, hgk, hij⟩ hJ Al W I
 rcases Bool.eq_false_or_eq_true (decide ((i : Int) < (L.length : Int))) with f14 | f14
 · refine zb I 14 (decide ((i : Int) < (L.length : Int))) (true) (f14) fun Al W I => ?_
   obtain ⟨s, hsv, hs0, hse⟩ := HX i (by have := oTr f14; omega)
   refine zx I 15 (fun _ => .pointer (some (at_ (some ⟨b, 0, none⟩) i))) (fun Al W I => (i0d (m := i) (n := L.length) (c := L.length) y0w (fun _ => ⟨rfl, rfl⟩) (by have := oTr f14; omega))) fun Al W I => ?_
   refine zx I 16 (fun _ => .string s) (fun Al W I => (i0m I.fa.2.1 y0x _ hsv)) fun Al W I => ?_
   refine zg I (fun Al W I => (HD s W I.fa.2.2.1).out) fun Al V Iv _ hB _ kz => ?_
   rintro _ W ⟨p23, c23, rfl, o23, hb⟩
   refine ⟨_, rfl, kz _ _ hb fun I => ?_⟩
   have I := I.own o23
   by_cases hij2 : i = j
   · refine zb I 27 ((a0w n s) != 0) (true) (bne_iff_ne.2 (by rw [hse hij2]; exact hne)) fun Al W I => ?_
     exact zret I (v := fun Al => .tuple #[.slice none 0 0, .int .i64 (a0w n s)]) fun Al W I => ⟨by rw [hse hij2], I.bel.toBelow U (I.boxE 139 _)⟩
   refine zb I 27 ((a0w n s) != 0) (false) (bne_eq_false_iff_eq.2 (hs0 (by omega))) fun Al W I => ?_
   have I := I.pick [1, 0, 2, 3]
   refine zap I r0v 2 1 (fun Al => [.int .i64 (((decP n s).cls : Nat) : Int), .bool ((decP n s).neg), .slice p23 (dig B32 (decP n s).d).length c23, .int .i64 ((decP n s).pow)]) (fun Al W I => I.box 2 70 _) (by omega) (fun Al W I hp => ⟨I.fa.1.apart I.fa.2.1 (by kernel_rfl) hp, fun e => I.fa.1.far I.fa.2.2.1 (by kernel_rfl) hp (Eq.symm e), fun e => by have h1 := (I.fa.1.blk_lt hp).1; have h2 := hT.2; have e : 0 = _ := e; omega, True.intro⟩) fun Al W p32 c32 hq_32 I => ?_
   refine zi I 33 .i64 ((i : Int) + 1) (((i + 1 : Nat) : Int)) ((by rw [show ((i : Int) + 1) = ((i + 1 : Nat) : Int) by omega]; exact IntWalk.i64_in _ (by have := oTr f14; omega))) fun Al W I => ?_
   exact p0w 1 I J fun Al W U I => hJ (gk0 - 1) _ _ _ _ _ ((by have := oTr f14; omega)) ⟨U, i + 1, p32, c32, _, rfl, rfl, rfl, (by have := oTr f14; omega), (by omega)⟩ (I.pick [0, 2, 3])
 refine zb I 14 (decide ((i : Int) < (L.length : Int))) (false) (f14) fun Al W I => ?_
 exact zret I (v := fun Al => .tuple #[.slice p6 i c6, .int .i64 0]) fun Al W I => absurd (oFa f14) (by rw [Classical.not_not]; omega)
end Go.Proofs.YtlcdfnaaenibgaaGreatDoor
namespace Go.Slip
open Go.RowKit
theorem Inv.rdN {E : List Nat} {w0 : World} {A : List Nat} {bx bx' : List Box} {fs fs' : List PF} {W V : World} (I : Inv E w0 A bx fs W) {k : IntKind} {p : Option Addr} {xs : List Nat} (o : Rd W k p xs) (hat : 0 < xs.length → V.heap.size ≤ blk p) (hB : ∀ a, Fa A bx a → Fa A bx' a) (J : Inv E w0 A bx' fs' V) : Inv E w0 A bx (rdF k p xs :: fs) W :=
 I.add (rdF k p xs) o fun a ha hf => by
  have h1 := J.lt a (hB a ha)
  have h2 := hat hf.1
  have h3 := hf.2
  omega
theorem x0e {α : Type} {s : Nat} {f : α → List Value} (hf : ∀ x, (f x).length = s) {xs : List α} {i j : Nat} {x : α} {v : Value} (h : xs[i]? = some x) (hv : (f x)[j]? = some v) : (xs.flatMap f).toArray[i * s + j]? = some v := by
 have h1 := r0u hf h
 have hj := (List.getElem?_eq_some_iff.1 hv).1
 rw [← h1, List.getElem?_take, if_pos hj, List.getElem?_drop] at hv
 simpa using hv
end Go.Slip
namespace Go.Proofs.YtlcdfnaaenibgaaGreatDoor
open Go.RowKit Go.Slip
structure Wp where
 r : Vr
 p : Option Addr
 c : Nat
def Wp.cells (x : Wp) : List Value := [.int .i64 (x.r.cls : Int), .bool x.r.neg, .bool x.r.x.neg, .slice x.p (dig B16 x.r.x.m).length x.c, .int .i64 x.r.x.e]
theorem Wp.len (x : Wp) : x.cells.length = 5 := rfl
theorem tvV : y0t Tryz.prog 25 32 5 56 := x0b (z := .agg #[.int .i64 0, .bool false, .bool false, .slice none 0 0, .int .i64 0]) (by kernel_rfl) (by kernel_rfl) (by kernel_rfl) (by kernel_rfl) (by kernel_rfl)
theorem agV : d0k Tryz.prog 32 5 := c0d (by kernel_rfl) (by kernel_rfl)
theorem n1k : d0d Tryz.prog 3 := c0e (by kernel_rfl) (by kernel_rfl)
theorem g1j {neg : Bool} {num den : Nat} {e way : Int} {f : Fm} (G : c0h f) (hd : 0 < den) (ho : (a0n neg num den e f.g way).over = false) (hz : ¬ ((a0n neg num den e f.g way).under = true ∧ f.fam ≠ 1 ∧ (a0n neg num den e f.g way).pow < f.g.lo)) :
 -20000 ≤ (a0n neg num den e f.g way).pow ∧ (a0n neg num den e f.g way).pow ≤ 20000 := by
 by_cases h0 : (a0n neg num den e f.g way).d = 0
 · have : (a0n neg num den e f.g way).pow = 0 := by
    unfold a0n at *
    by_cases hn : num = 0
    · rw [if_pos hn]
    · rw [if_neg hn] at *
      generalize theK num den e (wid f.g) f.g.digs.toNat = K at *
      have h0 : digP neg num den e (wid f.g) f.g.digs.toNat way (powK f.g K) = 0 := h0
      show (if digP neg num den e (wid f.g) f.g.digs.toNat way (powK f.g K) = 0 then 0 else powP neg num den e (wid f.g) f.g.digs.toNat way (powK f.g K)) = 0
      rw [if_pos h0]
   omega
 · have V := (l0t G (neg := neg) (num := num) (den := den) (e := e) (way := way) hd).2
   have hl := V.lo
   have hh := V.hi
   have e : f.placedV (a0n neg num den e f.g way) way = ⟨2, (a0n neg num den e f.g way).neg, (a0n neg num den e f.g way).d, (a0n neg num den e f.g way).pow⟩ := by
    unfold Fm.placedV
    rw [if_neg (by rw [ho]; simp), if_neg hz, if_neg h0]
   rw [e] at hl hh
   exact ⟨hl, hh⟩
theorem y0y (a : Dv) (p : Option Addr) (c base : Nat) (w : World) (hp : Rf w base p c (dig B16 a.m)) :
 Calls Tryz.prog 96 #[.agg #[.bool a.neg, .slice p (dig B16 a.m).length c, .int .i64 a.e]] w fun en w' => ∃ q, en = .returned (.agg #[.bool a.neg, .slice p (dig B16 a.m).length c, .slice q 1 1, .int .i64 a.e]) ∧ Rf w' w.heap.size q 1 (dig B16 1) ∧ Below w.heap.size w w' := by
 have I := Inv.start w [rfF base p c (dig B16 a.m)] ⟨hp, True.intro⟩
 refine a0d [.v (.agg #[.bool a.neg, .slice p (dig B16 a.m).length c, .int .i64 a.e])] I Tryz.func96 ?_
 exact zret I fun Al W I => ⟨some ⟨(lk 0 Al 2), 0, none⟩, rfl, (w0v (I.box 2 3 _)).mono (I.geB 2), I.below⟩
theorem r0w (n way : Int) (ng : Bool) (p q : Option Addr) (c d b1 b2 : Nat) (num den : Nat) (e : Int) (w : World) (hn : IsFm n) (hw : 1 ≤ way ∧ way ≤ 5) (hp : Rf w b1 p c (dig B16 num)) (hq : Rf w b2 q d (dig B16 den))
 (hl : (dig B16 num).length ≤ 20000) (hl2 : (dig B16 den).length ≤ 20000) (hd : 0 < den) (he : -200000 ≤ e ∧ e ≤ 200000) :
 Calls Tryz.prog 30 #[.int .i64 n, .agg #[.bool ng, .slice p (dig B16 num).length c, .slice q (dig B16 den).length d, .int .i64 e], .int .i64 way] w (GVf w w.heap.size ((fmt n).placedM (a0n ng num den e (fmt n).g way) way)) := by
 have HF := fun W => hi0 (b0g n W)
 rw [decide_eq_true hn] at HF
 have G := c0a hn
 have GG := b0u G.g
 have HR := fun W h1 h2 => hi0 (o0u ng p q c d num den e (fmt n).g way W h1 h2 hl hl2 hd he GG hw.1 hw.2)
 have hlen := v0l (neg := ng) (num := num) (e := e) (way := way) hd GG
 have HP := fun W pp cc h1 => hi0 (r0t n way (a0n ng num den e (fmt n).g way) pp cc W hn hw h1 (by have := k0e (a0n ng num den e (fmt n).g way).d; omega) (g1j G hd))
 generalize a0n ng num den e (fmt n).g way = P at *
 obtain ⟨r, fl, hr⟩ : ∃ r fl, (fmt n).placedM P way = (r, fl) := ⟨_, _, rfl⟩
 rw [hr] at HP ⊢
 unfold GVf at HP
 simp only at HP
 clear hr
 generalize fmt n = f at *
 have I := Inv.start w [rfF b1 p c (dig B16 num), rfF b2 q d (dig B16 den)] ⟨hp, hq, True.intro⟩
 refine a0d [.v (.int .i64 n), .v (.agg #[.bool ng, .slice p (dig B16 num).length c, .slice q (dig B16 den).length d, .int .i64 e]), .v (.int .i64 way)] I Tryz.func30 ?_
 refine zg I (fun Al W I => (HF W).out) fun Al V Iv _ hB _ kz => ?_
 rintro _ W ⟨rfl, hb⟩
 refine ⟨_, rfl, kz _ _ hb fun I => ?_⟩
 refine zg I (fun Al W I => (HR W I.fa.1.rd I.fa.2.1.rd).out) fun Al V Iv _ hB _ kz => ?_
 rintro _ W ⟨p20, c20, rfl, o20, a20, hb⟩
 refine ⟨_, rfl, kz _ _ hb fun I => ?_⟩
 have I := I.rdN o20 a20 (hB _) Iv
 refine zg I (fun Al W I => (HP W p20 c20 I.fa.1).out) fun Al V Iv _ hB _ kz => ?_
 rintro _ W ⟨p22, c22, rfl, o22, hb⟩
 refine ⟨_, rfl, kz _ _ hb fun I => ?_⟩
 have I := I.rf o22 (hB _) Iv
 exact zret I fun Al W I => ⟨p22, c22, rfl, I.fa.1, I.below⟩
theorem v0r (n way : Int) (a : Dv) (p : Option Addr) (c base : Nat) (w : World) (hn : IsFm n) (hw : 1 ≤ way ∧ way ≤ 5) (hp : Rf w base p c (dig B16 a.m)) (hl : (dig B16 a.m).length ≤ 20000) (he : -200000 ≤ a.e ∧ a.e ≤ 200000) :
 Calls Tryz.prog 48 #[.int .i64 n, .agg #[.bool a.neg, .slice p (dig B16 a.m).length c, .int .i64 a.e], .int .i64 way] w (GVf w w.heap.size ((fmt n).numM a way)) := by
 have h0 := a0f a0e a.m
 have HZ := fun W => hi0 (i0h n false W hn)
 rw [Bool.false_and] at HZ
 have HO := fun W h => hi0 (y0y a p c base W h)
 by_cases ha : a.m = 0
 · have hM : (fmt n).numM a way = (⟨1, false, vz⟩, 0) := by unfold Fm.numM Fm.zeroM; rw [if_pos ha]; simp
   rw [hM]
   have hl0 := h0.2 ha
   generalize (dig B16 a.m).length = L at *
   have I := Inv.start w [] True.intro
   refine a0d [.v (.int .i64 n), .v (.agg #[.bool a.neg, .slice p L c, .int .i64 a.e]), .v (.int .i64 way)] I Tryz.func48 ?_
   refine zb I 11 ((L : Int) == 0) (true) (beq_iff_eq.2 (by omega)) fun Al W I => ?_
   refine zg I (fun Al W I => (HZ W).out) fun Al V Iv _ hB _ kz => ?_
   rintro _ W ⟨rfl, hb⟩
   refine ⟨_, rfl, kz _ _ hb fun I => ?_⟩
   exact zret I fun Al W I => a0m (k := 1) (fl := 0) rfl I.below
 · have hM : (fmt n).numM a way = (fmt n).placedM (a0n a.neg a.m 1 a.e (fmt n).g way) way := by unfold Fm.numM; rw [if_neg ha]
   rw [hM]
   have HFt := fun W q h1 h2 => hi0 (r0w n way a.neg p q c 1 base w.heap.size a.m 1 a.e W hn hw h1 h2 hl (by rw [← i0f]; omega) (by omega) he)
   rw [← i0f] at HFt
   obtain ⟨r, fl, hr⟩ : ∃ r fl, (fmt n).placedM (a0n a.neg a.m 1 a.e (fmt n).g way) way = (r, fl) := ⟨_, _, rfl⟩
   rw [hr] at HFt ⊢
   unfold GVf at HFt
   simp only at HFt
   clear hr hM
   have I := Inv.start w [rfF base p c (dig B16 a.m)] ⟨hp, True.intro⟩
   refine a0d [.v (.int .i64 n), .v (.agg #[.bool a.neg, .slice p (dig B16 a.m).length c, .int .i64 a.e]), .v (.int .i64 way)] I Tryz.func48 ?_
   refine zb I 11 ((((dig B16 a.m).length : Nat) : Int) == 0) (false) (bFn (fun h => ha (h0.1 (by omega)))) fun Al W I => ?_
   refine zg I (fun Al W I => (HO W I.fa.1).out) fun Al V Iv _ hB _ kz => ?_
   rintro _ W ⟨q16, rfl, o16, hb⟩
   refine ⟨_, rfl, kz _ _ hb fun I => ?_⟩
   have I := I.rf o16 (hB _) Iv
   refine zg I (fun Al W I => (HFt W q16 I.fa.2.1 I.fa.1).out) fun Al V Iv _ hB _ kz => ?_
   rintro _ W ⟨p18, c18, rfl, o18, hb⟩
   refine ⟨_, rfl, kz _ _ hb fun I => ?_⟩
   have I := I.rf o18 (hB _) Iv
   exact zret I fun Al W I => ⟨p18, c18, rfl, I.fa.1, I.below⟩
theorem o0m (n : Int) (w : World) (hn : IsFm n) : Calls Tryz.prog 38 #[.int .i64 n] w fun en w' => en = .returned (.tuple #[.agg #[.int .i64 (((fmt n).nothM.cls : Nat) : Int), .bool false, .bool false, .slice none 0 0, .int .i64 0], .int .i64 16]) ∧ Below w.heap.size w w' := by
 have HN := fun W => hi0 (g0j n W hn)
 generalize (fmt n).nothM.cls = k at *
 have I := Inv.start w [] True.intro
 refine a0d [.v (.int .i64 n)] I Tryz.func38 ?_
 refine zg I (fun Al W I => (HN W).out) fun Al V Iv _ hB _ kz => ?_
 rintro _ W ⟨rfl, hb⟩
 refine ⟨_, rfl, kz _ _ hb fun I => ?_⟩
 exact zret I fun Al W I => ⟨rfl, I.below⟩
def errR (n way : Int) (L : List ByteArray) : Int := if IsFm n then (if errL n L = 0 then (if 1 ≤ way ∧ way ≤ 5 then 0 else 6) else errL n L) else 6
def k1k (n way : Int) (L : List ByteArray) (fn : FuncId) (R : Vr × Nat) : Prop :=
 ∀ (xs : List Vp) (vs : List Value) (p : Option Addr) (c base u : Nat) (W : World), xs.map (·.v) = L.map (decP n) → vs = xs.flatMap Vp.cells → OwnS W base 70 4 p c L.length vs → (∀ x, x ∈ xs → Own W base .u32 160 x.p x.c (dig B32 x.v.d)) →
  Bt W u 139 #[.int .i64 n, .int .i64 way, .int .i64 (fmt n).g.rad, .int .i64 (fmt n).g.digs, .int .i64 (fmt n).g.lo, .int .i64 (fmt n).g.hi, .bool (fmt n).g.grad, .int .u8 (famB (fmt n)), .int .i64 0] → TabW W → base ≤ W.heap.size →
  Calls Tryz.prog fn #[.pointer (some ⟨u, 0, none⟩), .slice p L.length c] W (f0s (fmt n) n way u W base R)
def strR (n : Int) (r : Vr) : ByteArray := b0m ((fmt n).strP ((fmt n).encP r.cls r.neg r.x))
theorem h1w (n way : Int) (L : List ByteArray) (fn : FuncId) (R : Vr × Nat) (b m : Nat) (w : World) (hB0 : Bt w b 9 (L.map Value.string).toArray) (hm : m = L.length) (hl : L.length ≤ 1000) (hT : TabW w)
 (hfn : ∀ args w, (callFunc fn args).run Tryz.prog w = .ok (.enter fn args) w) (h0 : errR n way L = 0) (HD : k1k n way L fn R) (HR : ResF (fmt n) R.1) :
 Calls Tryz.prog 32 #[.int .i64 n, .int .i64 way, .func (.func fn) #[] #[], .slice (some ⟨b, 0, none⟩) m m] w fun en w' => en = .returned (.tuple #[.string (strR n R.1), .int .i64 ((R.2 : Nat) : Int), .int .i64 0]) ∧ Below w.heap.size w w' := by
 subst hm
 have hn : IsFm n := by unfold errR at h0; split at h0; assumption; omega
 unfold errR at h0
 rw [if_pos hn] at h0
 have hL : errL n L = 0 := by split at h0; assumption; contradiction
 rw [if_pos hL] at h0
 have hw : 1 ≤ way ∧ way ≤ 5 := by split at h0; assumption; omega
 clear h0
 obtain ⟨r, fl⟩ := R
 simp only at HR ⊢
 have HO1 := fun W => hi0 (v0p n 1 W hn (by omega))
 have HO2 := fun W => hi0 (v0p n way W hn hw)
 have HDe := fun W u h1 h2 h3 => hi0 (x0d n 1 0 L b L.length u W h1 h2 rfl hl hL h3)
 have HDo := fun xs vs p c base u W h1 h2 h3 h4 h5 h6 h7 => hi0 (HD xs vs p c base u W h1 h2 h3 h4 h5 h6 h7)
 have HT := fun W (v : Vl) p c base u h1 h2 h3 h4 => hi0 (n1j n way (fl : Int) ⟨v, p, c⟩ r base u W h1 h2 hn h3 HR h4)
 have hs : strR n r = b0m ((fmt n).strP ((fmt n).encP r.cls r.neg r.x)) := rfl
 rw [← hs] at HT
 clear hs
 generalize strR n r = s at *
 generalize fmt n = f at *
 have I := Inv.start w [btF b 9 (L.map Value.string).toArray, tabF] ⟨hB0, hT, True.intro⟩
 refine a0d [.v (.int .i64 n), .v (.int .i64 way), .v (.func (.func fn) #[] #[]), .v (.slice (some ⟨b, 0, none⟩) L.length L.length)] I Tryz.func32 ?_
 refine zg I (fun Al W I => (HO1 W).out) fun Al V Iv _ hB _ kz => ?_
 rintro _ W ⟨u16, rfl, hge, hB, hb⟩
 refine ⟨_, rfl, kz _ _ hb fun I => ?_⟩
 refine f1z Iv hb 0 u16 139 [(.int .i64 n), (.int .i64 1), (.int .i64 f.g.rad), (.int .i64 f.g.digs), (.int .i64 f.g.lo), (.int .i64 f.g.hi), (.bool f.g.grad), (.int .u8 (famB f)), (.int .i64 0)] hge hB fun Al hAl_16 I => ?_
 refine g1a I 17 0 u16 hAl_16 fun Al W I => ?_
 refine zg I (fun Al W I => (HDe W _ (I.box 0 139 _) I.fa.1 I.fa.2.1).out) fun Al V Iv _ hB _ kz => ?_
 rintro _ W ⟨xs, vs, p25, c25, rfl, hxs, hvs, oS, oL, hb⟩
 refine ⟨_, rfl, kz _ _ hb fun I => ?_⟩
 have I := I.owns oS
 have I := I.ownl oL
 refine zg I (fun Al W I => (HO2 W).out) fun Al V Iv _ hB _ kz => ?_
 rintro _ W ⟨u34, rfl, hge, hB, hb⟩
 refine ⟨_, rfl, kz _ _ hb fun I => ?_⟩
 refine f1z Iv hb 1 u34 139 [(.int .i64 n), (.int .i64 way), (.int .i64 f.g.rad), (.int .i64 f.g.digs), (.int .i64 f.g.lo), (.int .i64 f.g.hi), (.bool f.g.grad), (.int .u8 (famB f)), (.int .i64 0)] hge hB fun Al hAl_34 I => ?_
 refine g1a I 35 1 u34 hAl_34 fun Al W I => ?_
 refine zgfe (hf := hfn) I 1 139 (fun Al W I => (HDo xs vs p25 c25 _ _ W hxs hvs I.fa.2.1 I.fa.1 (I.box 1 139 _) I.fa.2.2.2.1 I.bel.size).out) fun Al V Iv _ _ kz => ?_
 rintro _ W ⟨v44, hR44, p44, c44, rfl, o44, hO, hB⟩
 refine ⟨_, rfl, kz _ (uS f n way (fl : Int)) _ hO hB fun I => ?_⟩
 have I := I.own o44
 refine zg I (fun Al W I => (HT W v44 p44 c44 _ _ (I.box 1 139 _) I.fa.1 hR44 I.fa.2.2.2.2.1).out) fun Al V Iv _ hB _ kz => ?_
 rintro _ W ⟨rfl, hb⟩
 refine ⟨_, rfl, kz _ _ hb fun I => ?_⟩
 exact zret I fun Al W I => ⟨rfl, I.below⟩
theorem d1j (n way : Int) (L : List ByteArray) (fn : FuncId) (b m : Nat) (w : World) (hB0 : Bt w b 9 (L.map Value.string).toArray) (hm : m = L.length) (hl : L.length ≤ 1000) (hT : TabW w) (h0 : errR n way L ≠ 0) :
 Calls Tryz.prog 32 #[.int .i64 n, .int .i64 way, .func (.func fn) #[] #[], .slice (some ⟨b, 0, none⟩) m m] w fun en w' => en = .returned (.tuple #[.string (b0m []), .int .i64 0, .int .i64 (errR n way L)]) ∧ Below w.heap.size w w' := by
 subst hm
 unfold errR at h0 ⊢
 by_cases hn : IsFm n
 · rw [if_pos hn] at h0 ⊢
   have HO1 := fun W => hi0 (v0p n 1 W hn (by omega))
   by_cases hL : errL n L = 0
   · rw [if_pos hL] at h0 ⊢
     have hw : ¬ (1 ≤ way ∧ way ≤ 5) := fun h => h0 (if_pos h)
     rw [if_neg hw]
     have HO2 := fun W => hi0 (x0c n way W (fun h => hw h.2))
     have HDe := fun W u h1 h2 h3 => hi0 (x0d n 1 0 L b L.length u W h1 h2 rfl hl hL h3)
     generalize fmt n = f at *
     have I := Inv.start w [btF b 9 (L.map Value.string).toArray, tabF] ⟨hB0, hT, True.intro⟩
     refine a0d [.v (.int .i64 n), .v (.int .i64 way), .v (.func (.func fn) #[] #[]), .v (.slice (some ⟨b, 0, none⟩) L.length L.length)] I Tryz.func32 ?_
     refine zg I (fun Al W I => (HO1 W).out) fun Al V Iv _ hB _ kz => ?_
     rintro _ W ⟨u16, rfl, hge, hB, hb⟩
     refine ⟨_, rfl, kz _ _ hb fun I => ?_⟩
     refine f1z Iv hb 0 u16 139 [(.int .i64 n), (.int .i64 1), (.int .i64 f.g.rad), (.int .i64 f.g.digs), (.int .i64 f.g.lo), (.int .i64 f.g.hi), (.bool f.g.grad), (.int .u8 (famB f)), (.int .i64 0)] hge hB fun Al hAl_16 I => ?_
     refine g1a I 17 0 u16 hAl_16 fun Al W I => ?_
     refine zg I (fun Al W I => (HDe W _ (I.box 0 139 _) I.fa.1 I.fa.2.1).out) fun Al V Iv _ hB _ kz => ?_
     rintro _ W ⟨xs, vs, p25, c25, rfl, hxs, hvs, oS, oL, hb⟩
     refine ⟨_, rfl, kz _ _ hb fun I => ?_⟩
     have I := I.owns oS
     have I := I.ownl oL
     refine zg I (fun Al W I => (HO2 W).out) fun Al V Iv _ hB _ kz => ?_
     rintro _ W ⟨rfl, hb⟩
     refine ⟨_, rfl, kz _ _ hb fun I => ?_⟩
     exact zret I fun Al W I => ⟨rfl, I.below⟩
   · rw [if_neg hL] at h0 ⊢
     have HDe := fun W u h1 h2 h3 => hi0 (t0s n 1 0 L b L.length u W h1 h2 rfl hl hL h3)
     generalize errL n L = er at *
     generalize fmt n = f at *
     have I := Inv.start w [btF b 9 (L.map Value.string).toArray, tabF] ⟨hB0, hT, True.intro⟩
     refine a0d [.v (.int .i64 n), .v (.int .i64 way), .v (.func (.func fn) #[] #[]), .v (.slice (some ⟨b, 0, none⟩) L.length L.length)] I Tryz.func32 ?_
     refine zg I (fun Al W I => (HO1 W).out) fun Al V Iv _ hB _ kz => ?_
     rintro _ W ⟨u16, rfl, hge, hB, hb⟩
     refine ⟨_, rfl, kz _ _ hb fun I => ?_⟩
     refine f1z Iv hb 0 u16 139 [(.int .i64 n), (.int .i64 1), (.int .i64 f.g.rad), (.int .i64 f.g.digs), (.int .i64 f.g.lo), (.int .i64 f.g.hi), (.bool f.g.grad), (.int .u8 (famB f)), (.int .i64 0)] hge hB fun Al hAl_16 I => ?_
     refine g1a I 17 0 u16 hAl_16 fun Al W I => ?_
     refine zg I (fun Al W I => (HDe W _ (I.box 0 139 _) I.fa.1 I.fa.2.1).out) fun Al V Iv _ hB _ kz => ?_
     rintro _ W ⟨rfl, hb⟩
     refine ⟨_, rfl, kz _ _ hb fun I => ?_⟩
     refine zb I 29 (er != 0) (true) (bne_iff_ne.2 hL) fun Al W I => ?_
     exact zret I fun Al W I => ⟨rfl, I.below⟩
 · rw [if_neg hn]
   have HO1 := fun W => hi0 (x0c n 1 W (fun h => hn h.1))
   have I := Inv.start w [] True.intro
   refine a0d [.v (.int .i64 n), .v (.int .i64 way), .v (.func (.func fn) #[] #[]), .v (.slice (some ⟨b, 0, none⟩) L.length L.length)] I Tryz.func32 ?_
   refine zg I (fun Al W I => (HO1 W).out) fun Al V Iv _ hB _ kz => ?_
   rintro _ W ⟨rfl, hb⟩
   refine ⟨_, rfl, kz _ _ hb fun I => ?_⟩
   exact zret I fun Al W I => ⟨rfl, I.below⟩
structure VrF (f : Fm) (r : Vr) : Prop where
 ok : VrOk r
 inf : r.cls = 3 → f.fam = 1
def refD (n : Int) (s : ByteArray) : Vr := (fmt n).refN (b0a (fmt n) s)
theorem n1l {f : Fm} (G : c0h f) (neg : Bool) {e frac : Nat} (h : e < 2 ^ f.E) : (f.dec neg e frac).p = 0 ∨ (f.g.lo ≤ (f.dec neg e frac).p ∧ (f.dec neg e frac).p ≤ f.g.hi + 1) := by
 have h3 := G.hi1
 have h4 := G.hi2
 have h5 := G.hi3
 have h6 := G.fam
 have gg := (b0u G.g).le
 have e1 := G.e1
 have hE1 : (2 : Nat) ^ 7 ≤ 2 ^ f.E := Nat.pow_le_pow_right (by omega) e1
 unfold Fm.dec
 generalize 2 ^ f.E = T at *
 repeat' split
 all_goals first | exact .inl rfl | (right; simp only; omega)
theorem k1l {f : Fm} (neg : Bool) {e frac : Nat} (h : (f.dec neg e frac).c = 3) : f.fam = 1 := by
 have h : (f.dec neg e frac).cls = 3 := by
  unfold Dc.c at h
  split at h <;> omega
 unfold Fm.dec at h
 split at h
 · simp at h
 · split at h
   · rename_i k
     exact k.1
   · split at h
     · split at h <;> simp at h
     · split at h
       · simp at h
       · split at h
         · simp at h
         · split at h <;> simp at h
theorem f0a {n : Int} {s : ByteArray} (hn : IsFm n) : VrF (fmt n) (refD n s) := by
 have G := c0a hn
 have GG := b0u G.g
 obtain ⟨w1, w2, w3⟩ := l0h G.g
 have he : (fmt n).exp (b0a (fmt n) s) < 2 ^ (fmt n).E := Nat.mod_lt _ (Nat.pow_pos (by omega))
 have hx : (fmt n).frac (b0a (fmt n) s) < 2 ^ (fmt n).F := Nat.mod_lt _ (Nat.pow_pos (by omega))
 have hm := i1o (f := fmt n) ((fmt n).neg (b0a (fmt n) s)) (e := (fmt n).exp (b0a (fmt n) s)) hx
 have hp := n1l G ((fmt n).neg (b0a (fmt n) s)) (frac := (fmt n).frac (b0a (fmt n) s)) he
 have hi := fun h => k1l (f := fmt n) ((fmt n).neg (b0a (fmt n) s)) (e := (fmt n).exp (b0a (fmt n) s)) (frac := (fmt n).frac (b0a (fmt n) s)) h
 have hcls := a1r (fmt n) ((fmt n).neg (b0a (fmt n) s)) ((fmt n).exp (b0a (fmt n) s)) ((fmt n).frac (b0a (fmt n) s))
 have z2 := G.f2
 unfold refD Fm.refN Fm.decN
 generalize (fmt n).dec ((fmt n).neg (b0a (fmt n) s)) ((fmt n).exp (b0a (fmt n) s)) ((fmt n).frac (b0a (fmt n) s)) = D at *
 generalize (fmt n).neg (b0a (fmt n) s) = g at *
 generalize fmt n = f at *
 have hc : 1 ≤ D.c ∧ D.c ≤ 5 := by unfold Dc.c; split <;> omega
 have hml : (dig B32 D.m).length ≤ 3 := a0y hm (by omega)
 have wp := b0j f.g
 have hwp : -17010 ≤ (wid f.g : Int) * D.p ∧ (wid f.g : Int) * D.p ≤ 17010 := by
  rcases hp with h | ⟨h1, h2⟩
  · rw [h, Int.mul_zero]; omega
  · have a1 : (wid f.g : Int) * f.g.lo ≤ wid f.g * D.p := Int.mul_le_mul_of_nonneg_left h1 (by omega)
    have a2 : (wid f.g : Int) * D.p ≤ wid f.g * (f.g.hi + 1) := Int.mul_le_mul_of_nonneg_left h2 (by omega)
    rw [Int.mul_add, Int.mul_one] at a2
    omega
 refine ⟨⟨hc, fun h => ?_, fun h => ?_, ?_, ?_, ?_, ?_⟩, hi⟩
 · have h : ¬ D.c = 2 := h
   unfold Fm.vr
   simp only [if_neg h]
   rfl
 · have h : D.c = 2 := h
   have hm0 := g1w h
   unfold Fm.vr
   simp only [h, if_true]
   obtain ⟨b1, b2⟩ := r0r (g := g) (e := (wid f.g : Int) * D.p) hm0
   exact ⟨b2, by rw [b1]; rfl⟩
 · unfold Fm.vr
   simp only
   split
   · exact h0v _
   · exact .inr rfl
 · unfold Fm.vr
   simp only
   split
   · exact Nat.le_trans (k0d a0b _) (by show (dig B32 D.m).length ≤ _; omega)
   · show (dig B32 0).length ≤ _; rw [a0c]; decide
 · unfold Fm.vr
   simp only
   split
   · have := p0f (⟨g, D.m, wid f.g * D.p⟩ : Dv) (n := 3) hml (lo := -17100) (hi := 17100) (by simp only; omega) (by simp only; omega) (by omega) (by omega)
     omega
   · show (-18000 : Int) ≤ 0; decide
 · unfold Fm.vr
   simp only
   split
   · have := p0f (⟨g, D.m, wid f.g * D.p⟩ : Dv) (n := 3) hml (lo := -17100) (hi := 17100) (by simp only; omega) (by simp only; omega) (by omega) (by omega)
     omega
   · show (0 : Int) ≤ 18000; decide
theorem g1k {n : Int} {s : ByteArray} (h0 : a0w n s = 0) : VRep (fmt n) (decP n s) (refD n s) := by
 obtain ⟨hn, hs⟩ := c0q.1 h0
 have G := c0a hn
 have hd : decP n s = (fmt n).valN (b0a (fmt n) s) := by unfold decP; rw [if_pos h0]
 have he : (fmt n).exp (b0a (fmt n) s) < 2 ^ (fmt n).E := Nat.mod_lt _ (Nat.pow_pos (by omega))
 have hx : (fmt n).frac (b0a (fmt n) s) < 2 ^ (fmt n).F := Nat.mod_lt _ (Nat.pow_pos (by omega))
 have hb := n1o G ((fmt n).neg (b0a (fmt n) s)) he hx ((fmt n).neg (b0a (fmt n) s))
 have hk := e1k (fmt n) ((fmt n).neg (b0a (fmt n) s)) ((fmt n).decN (b0a (fmt n) s))
 have ho := e1l (fmt n) ((fmt n).neg (b0a (fmt n) s)) ((fmt n).decN (b0a (fmt n) s))
 rw [hd]
 exact ⟨rfl, rfl, fun _ => hk, fun h => ho h, hb.1, hb.2.1, hb.2.2⟩
theorem t0t {n : Int} {s : ByteArray} (h0 : a0w n s = 0) {x : Vp} (hx : x.v = decP n s) : AtV (fmt n) x (refD n s) := by
 have F := f0a (s := s) (c0q.1 h0).1
 exact ⟨by rw [hx]; exact g1k h0, F.ok, F.inf⟩
/-! ### Results -/
theorem n1m {f : Fm} (G : c0h f) (x : Dv) (way : Int) : ResF f (f.numM x way).1 := by
 unfold Fm.numM
 split
 · exact r0s G _
 · exact (l0t G (by omega)).1
theorem h1x {f : Fm} (G : c0h f) (x y : Dv) (g h : Bool) (way : Int) : ResF f (f.sumM x y g h way).1 := by
 unfold Fm.sumM
 split
 · exact n1m G _ _
 · split <;> exact r0s G _
theorem v0s {f : Fm} {r : Vr} (h : r.cls = 3) (R : VrF f r) : ResF f r :=
 ⟨by omega, fun k => by omega, fun k => by omega, fun _ => R.inf h, fun k => by omega, fun k => by omega, fun _ => R.ok.x0 (by omega)⟩
theorem h1y {f : Fm} (G : c0h f) {a b : Vr} (A : VrF f a) (B : VrF f b) (way : Int) : ResF f (f.addM a b way).1 := by
 unfold Fm.addM
 split
 · exact g0y G
 · split
   · rename_i h
     split
     · exact g0y G
     · split
       · rename_i h3; exact v0s h3 A
       · rename_i h3; exact v0s (show b.cls = 3 by omega) B
   · exact h1x G _ _ _ _ _
theorem d1k (g : Bool) : VrOk (infM g) := ⟨by show 1 ≤ 3 ∧ 3 ≤ 5; omega, fun _ => rfl, fun h => (by cases h), .inr rfl, by show (dig B32 0).length ≤ _; rw [a0c]; decide, by show (-18000 : Int) ≤ 0; decide, by show (0 : Int) ≤ 18000; decide⟩
theorem x0f {f : Fm} (G : c0h f) {a b c : Vr} (A : a.cls = 3 → f.fam = 1) (B : b.cls = 3 → f.fam = 1) (C : VrF f c) (way : Int) : ResF f (f.fusedM a b c way).1 := by
 unfold Fm.fusedM
 split
 · exact g0y G
 · split
   · rename_i h
     split
     · exact g0y G
     · exact h1y G ⟨d1k _, fun _ => h.elim A B⟩ C way
   · split
     · rename_i h; exact v0s h C
     · exact h1x G _ _ _ _ _
theorem t0u (n : Int) (xs : List Wp) (b m : Nat) (w : World) (hn : IsFm n) (hB : Bt w b 32 (xs.flatMap Wp.cells).toArray) (hm : m = xs.length) (hl : xs.length ≤ 1000) (hno : ∀ x ∈ xs, x.r.cls < 4) :
 Calls Tryz.prog 37 #[.int .i64 n, .slice (some ⟨b, 0, none⟩) m m] w fun en w' => en = .returned (.tuple #[.agg #[.int .i64 0, .bool false, .bool false, .slice none 0 0, .int .i64 0], .int .i64 0, .bool false]) ∧ Below w.heap.size w w' := by
 subst hm
 have HF := fun W => hi0 (b0g n W)
 rw [decide_eq_true hn] at HF
 have HX : ∀ i, i < xs.length → ∃ x : Wp, xs[i]? = some x ∧ x.r.cls < 4 := fun i h => ⟨xs[i], List.getElem?_eq_getElem h, hno _ (List.getElem_mem h)⟩
 generalize fmt n = f at *
 have I := Inv.start w [btF b 32 (xs.flatMap Wp.cells).toArray] ⟨hB, True.intro⟩
 refine a0d [.v (.int .i64 n), .v (.slice (some ⟨b, 0, none⟩) xs.length xs.length)] I Tryz.func37 ?_
 refine zg I (fun Al W I => (HF W).out) fun Al V Iv _ hB _ kz => ?_
 rintro _ W ⟨rfl, hb⟩
 refine ⟨_, rfl, kz _ _ hb fun I => ?_⟩
 refine o0q I (fun gk fr bx gs => ∃ (U900 : Nat → Value) (i : Nat), fr = (.v (.int .i64 n) :: .v (.slice (some ⟨b, 0, none⟩) xs.length xs.length) :: su 2 (.p 0 0 :: sw U900 5 2 (.p 1 0 :: .v (U900 8) :: .v (.int .i64 (i : Int)) :: sw U900 10 25 [])) : List SV) ∧ bx = [⟨32, [.v (.int .i64 0), .v (.bool false), .v (.bool false), .v (.slice none 0 0), .v (.int .i64 0)], false⟩, ⟨55, [.v (.int .i64 (f.size : Int)), .v (.int .i64 (f.E : Int)), .v (.int .i64 (f.F : Int)), .v (.int .i64 f.g.rad), .v (.int .i64 f.g.digs), .v (.int .i64 f.g.lo), .v (.int .i64 f.g.hi), .v (.bool f.g.grad), .v (.int .i64 (f.fam : Int))], false⟩] ∧ gs = [btF b 32 (xs.flatMap Wp.cells).toArray] ∧ (gk + i = xs.length)) xs.length (fun Al W U I => ⟨_, ⟨U, 0, rfl, rfl, rfl, (by omega)⟩, I.pick [0]⟩) ?_
 rintro J gk0 _ _ _ ⟨U900, i, rfl, rfl, rfl, hgk⟩ hJ Al W I
 rcases Bool.eq_false_or_eq_true (decide ((i : Int) < (xs.length : Int))) with f18 | f18
 · refine zb I 18 (decide ((i : Int) < (xs.length : Int))) (true) (f18) fun Al W I => ?_
   obtain ⟨x, hx, hx4⟩ := HX i (by have := oTr f18; omega)
   refine zx I 23 (fun _ => .pointer (some (at_ (some ⟨b, 0, none⟩) (i * 5)))) (fun Al W I => (h0p (m := i) (n := xs.length) (c := xs.length) tvV (fun _ => ⟨rfl, rfl⟩) (by have := oTr f18; omega))) fun Al W I => ?_
   refine zx I 25 (fun _ => .int .i64 (x.r.cls : Int)) (fun Al W I => (i0m (m := i * 5) I.fa.1 n1k _ (x0e (j := 0) Wp.len hx rfl))) fun Al W I => ?_
   refine zb I 26 (decide ((x.r.cls : Int) ≥ 4)) (false) (dFa (by omega)) fun Al W I => ?_
   refine zi I 20 .i64 ((i : Int) + 1) (((i + 1 : Nat) : Int)) ((by rw [show ((i : Int) + 1) = ((i + 1 : Nat) : Int) by omega]; exact IntWalk.i64_in _ (by have := oTr f18; omega))) fun Al W I => ?_
   exact b0e I J fun Al W U I => hJ (gk0 - 1) _ _ _ _ _ ((by have := oTr f18; omega)) ⟨U, i + 1, rfl, rfl, rfl, (by have := oTr f18; omega)⟩ (I.pick [0])
 refine zb I 18 (decide ((i : Int) < (xs.length : Int))) (false) (f18) fun Al W I => ?_
 exact zret I fun Al W I => ⟨rfl, I.below⟩
theorem p0x (n : Int) (xs : List Wp) (b m : Nat) (w : World) (hn : IsFm n) (hB : Bt w b 32 (xs.flatMap Wp.cells).toArray) (hm : m = xs.length) (hl : xs.length ≤ 1000) (hyes : ∃ x ∈ xs, 4 ≤ x.r.cls) :
 Calls Tryz.prog 37 #[.int .i64 n, .slice (some ⟨b, 0, none⟩) m m] w fun en w' => en = .returned (.tuple #[.agg #[.int .i64 (((fmt n).nothM.cls : Nat) : Int), .bool false, .bool false, .slice none 0 0, .int .i64 0], .int .i64 (((fmt n).offM.2 : Nat) : Int), .bool true]) ∧ Below w.heap.size w w' := by
 subst hm
 have HF := fun W => hi0 (b0g n W)
 rw [decide_eq_true hn] at HF
 have HX : ∀ i, i < xs.length → ∃ x : Wp, xs[i]? = some x := fun i h => ⟨xs[i], List.getElem?_eq_getElem h⟩
 obtain ⟨y, hy, hy4⟩ := hyes
 obtain ⟨j, hj, hjy⟩ := List.getElem_of_mem hy
 have hYJ : xs[j]? = some y := by rw [List.getElem?_eq_getElem hj, hjy]
 clear hjy hy
 have HN := fun W => hi0 (g0j n W hn)
 generalize (fmt n).nothM.cls = kN at *
 have e2 : (fmt n).fam = 3 → (((fmt n).offM.2 : Nat) : Int) = 16 := fun h => by unfold Fm.offM; rw [if_pos h]; rfl
 have e3 : (fmt n).fam ≠ 3 → (((fmt n).offM.2 : Nat) : Int) = 0 := fun h => by unfold Fm.offM; rw [if_neg h]; rfl
 generalize (((fmt n).offM.2 : Nat) : Int) = fl at *
 generalize fmt n = f at *
 have I := Inv.start w [btF b 32 (xs.flatMap Wp.cells).toArray] ⟨hB, True.intro⟩
 refine a0d [.v (.int .i64 n), .v (.slice (some ⟨b, 0, none⟩) xs.length xs.length)] I Tryz.func37 ?_
 refine zg I (fun Al W I => (HF W).out) fun Al V Iv _ hB _ kz => ?_
 rintro _ W ⟨rfl, hb⟩
 refine ⟨_, rfl, kz _ _ hb fun I => ?_⟩
 refine o0q I (fun gk fr bx gs => ∃ (U900 : Nat → Value) (i : Nat), fr = (.v (.int .i64 n) :: .v (.slice (some ⟨b, 0, none⟩) xs.length xs.length) :: su 2 (.p 0 0 :: sw U900 5 2 (.p 1 0 :: .v (U900 8) :: .v (.int .i64 (i : Int)) :: sw U900 10 25 [])) : List SV) ∧ bx = [⟨32, [.v (.int .i64 0), .v (.bool false), .v (.bool false), .v (.slice none 0 0), .v (.int .i64 0)], false⟩, ⟨55, [.v (.int .i64 (f.size : Int)), .v (.int .i64 (f.E : Int)), .v (.int .i64 (f.F : Int)), .v (.int .i64 f.g.rad), .v (.int .i64 f.g.digs), .v (.int .i64 f.g.lo), .v (.int .i64 f.g.hi), .v (.bool f.g.grad), .v (.int .i64 (f.fam : Int))], false⟩] ∧ gs = [btF b 32 (xs.flatMap Wp.cells).toArray] ∧ (gk + i = xs.length) ∧ (∀ (j : Nat) (x : Wp), j < i → xs[j]? = some x → x.r.cls < 4)) xs.length (fun Al W U I => ⟨_, ⟨U, 0, rfl, rfl, rfl, (by omega), (fun _ _ h => absurd h (by omega))⟩, I.pick [0]⟩) ?_
 rintro J gk0 _ _ _ ⟨U900, i, rfl, rfl, rfl, hgk, hlt⟩ hJ Al W I
 rcases Bool.eq_false_or_eq_true (decide ((i : Int) < (xs.length : Int))) with f18 | f18
 · refine zb I 18 (decide ((i : Int) < (xs.length : Int))) (true) (f18) fun Al W I => ?_
   obtain ⟨x, hx⟩ := HX i (by have := oTr f18; omega)
   refine zx I 23 (fun _ => .pointer (some (at_ (some ⟨b, 0, none⟩) (i * 5)))) (fun Al W I => (h0p (m := i) (n := xs.length) (c := xs.length) tvV (fun _ => ⟨rfl, rfl⟩) (by have := oTr f18; omega))) fun Al W I => ?_
   refine zx I 25 (fun _ => .int .i64 (x.r.cls : Int)) (fun Al W I => (i0m (m := i * 5) I.fa.1 n1k _ (x0e (j := 0) Wp.len hx rfl))) fun Al W I => ?_
   rcases Bool.eq_false_or_eq_true (decide ((x.r.cls : Int) ≥ 4)) with f26 | f26
   · refine zb I 26 (decide ((x.r.cls : Int) ≥ 4)) (true) (f26) fun Al W I => ?_
     by_cases hf3 : f.fam = 3
     · refine zb I 29 ((f.fam : Int) == 3) (true) (beq_iff_eq.2 (by omega)) fun Al W I => ?_
       refine zg I (fun Al W I => (HN W).out) fun Al V Iv _ hB _ kz => ?_
       rintro _ W ⟨rfl, hb⟩
       refine ⟨_, rfl, kz _ _ hb fun I => ?_⟩
       exact zret I (v := fun Al => .tuple #[.agg #[.int .i64 (kN : Int), .bool false, .bool false, .slice none 0 0, .int .i64 0], .int .i64 16, .bool true]) fun Al W I => ⟨by rw [e2 hf3], I.below⟩
     refine zb I 29 ((f.fam : Int) == 3) (false) (bFn (by omega)) fun Al W I => ?_
     refine zg I (fun Al W I => (HN W).out) fun Al V Iv _ hB _ kz => ?_
     rintro _ W ⟨rfl, hb⟩
     refine ⟨_, rfl, kz _ _ hb fun I => ?_⟩
     exact zret I (v := fun Al => .tuple #[.agg #[.int .i64 (kN : Int), .bool false, .bool false, .slice none 0 0, .int .i64 0], .int .i64 0, .bool true]) fun Al W I => ⟨by rw [e3 hf3], I.below⟩
   refine zb I 26 (decide ((x.r.cls : Int) ≥ 4)) (false) (f26) fun Al W I => ?_
   refine zi I 20 .i64 ((i : Int) + 1) (((i + 1 : Nat) : Int)) ((by rw [show ((i : Int) + 1) = ((i + 1 : Nat) : Int) by omega]; exact IntWalk.i64_in _ (by have := oTr f18; omega))) fun Al W I => ?_
   exact b0e I J fun Al W U I => hJ (gk0 - 1) _ _ _ _ _ ((by have := oTr f18; omega)) ⟨U, i + 1, rfl, rfl, rfl, (by have := oTr f18; omega), (fun j' x' h h' => by rcases (show j' < i ∨ j' = i by omega) with q | rfl; exact hlt j' x' q h'; rw [hx] at h'; cases h'; have := oFa f26; omega)⟩ (I.pick [0])
 refine zb I 18 (decide ((i : Int) < (xs.length : Int))) (false) (f18) fun Al W I => ?_
 exact zret I (v := fun Al => .tuple #[.agg #[.int .i64 0, .bool false, .bool false, .slice none 0 0, .int .i64 0], .int .i64 0, .bool false]) fun Al W I => absurd (hlt j y (by have := oFa f18; omega) hYJ) (by rw [Nat.not_lt]; omega)
theorem r0x {x : Dv} (h : SmD x) : FitR x := by
 have h1 := h.len
 have h2 := h.lo
 have h3 := h.hi
 have h4 := k0e x.m
 exact ⟨by omega, by omega, by omega⟩
theorem g1l (a b : Dv) (p q : Option Addr) (c c' : Nat) (w : World) (hp : Rd w .i64 p (dig B16 a.m)) (hq : Rd w .i64 q (dig B16 b.m)) (fa : FitR a) (fb : FitR b) :
 Calls Tryz.prog 49 #[.agg #[.bool a.neg, .slice p (dig B16 a.m).length c, .int .i64 a.e], .agg #[.bool b.neg, .slice q (dig B16 b.m).length c', .int .i64 b.e]] w (GNf w w.heap.size (d0x a b)) :=
 (r0j a.neg b.neg p q _ c _ c' a.e b.e a.m b.m w hp hq rfl rfl fa.len fb.len ⟨fa.lo, fa.hi⟩ ⟨fb.lo, fb.hi⟩).mono fun _ _ => c1q
structure TnD (a : Dv) : Prop where
 len : (dig B32 a.m).length ≤ 40
 lo : -38000 ≤ a.e
 hi : a.e ≤ 38000
theorem VrOk.tn {r : Vr} (R : VrOk r) : TnD r.x := ⟨by have := R.len; omega, by have := R.lo; omega, by have := R.hi; omega⟩
theorem TnD.sm {a : Dv} (h : TnD a) : SmD a := ⟨by have := h.len; omega, by have := h.lo; omega, by have := h.hi; omega⟩
theorem g1m {r s : Vr} (R : VrOk r) (S : VrOk s) : TnD (d0x r.x s.x) := by
 have h1 := R.len
 have h2 := S.len
 have h3 := R.lo
 have h4 := R.hi
 have h5 := S.lo
 have h6 := S.hi
 have h7 := p0h r.x s.x
 have h8 : (dig B32 (r.x.m * s.x.m)).length ≤ 40 := Nat.le_trans (b0y a0b _ _) (by omega)
 have h9 := p0f ⟨xor r.x.neg s.x.neg, r.x.m * s.x.m, r.x.e + s.x.e⟩ (n := 40) h8 (lo := -36000) (hi := 36000) (by simp only; omega) (by simp only; omega) (by omega) (by omega)
 have e : d0x r.x s.x = bare ⟨xor r.x.neg s.x.neg, r.x.m * s.x.m, r.x.e + s.x.e⟩ := rfl
 rw [← e] at h9
 exact ⟨by omega, by omega, by omega⟩
theorem k1m {a b : Dv} (ha : Bare a) (hb : Bare b) (sa : TnD a) (sb : TnD b) : (dig B16 (e0x a b).m).length ≤ 6000 ∧ -200000 ≤ (e0x a b).e ∧ (e0x a b).e ≤ 200000 := by
 have hal := sa.len
 have hbl := sb.len
 have ha1 := sa.lo
 have ha2 := sa.hi
 have hb1 := sb.lo
 have hb2 := sb.hi
 rw [← q0h ha hb]
 have h16 := k0e (h0h a b).m
 suffices h : (dig B32 (h0h a b).m).length ≤ 2700 ∧ -200000 ≤ (h0h a b).e ∧ (h0h a b).e ≤ 200000 by omega
 clear h16
 unfold h0h
 split
 · omega
 · split
   · omega
   · have h1 := j0h a.m (a.e - min a.e b.e).toNat
     have h2 := j0h b.m (b.e - min a.e b.e).toNat
     have hj := p0g a.neg b.neg (a.m * 2 ^ (a.e - min a.e b.e).toNat) (b.m * 2 ^ (b.e - min a.e b.e).toNat) (min a.e b.e)
     have h3 := Nat.le_trans (a0k a0b hj.1) (d0i a0b _ _)
     have h4 : (dig B32 (e0w a.neg b.neg (a.m * 2 ^ (a.e - min a.e b.e).toNat) (b.m * 2 ^ (b.e - min a.e b.e).toNat) (min a.e b.e)).m).length ≤ 2500 := by omega
     have h5 := p0f _ (n := 2500) h4 (lo := -38000) (hi := 38000) (by rw [hj.2]; omega) (by rw [hj.2]; omega) (by omega) (by omega)
     have h6 := k0d a0b (e0w a.neg b.neg (a.m * 2 ^ (a.e - min a.e b.e).toNat) (b.m * 2 ^ (b.e - min a.e b.e).toNat) (min a.e b.e))
     omega
theorem m0d (n way : Int) (x y : Dv) (g h : Bool) (p q : Option Addr) (c d b1 b2 : Nat) (w : World) (hn : IsFm n) (hw : 1 ≤ way ∧ way ≤ 5) (hp : Rf w b1 p c (dig B16 x.m)) (hq : Rf w b2 q d (dig B16 y.m)) (hx : Bare x) (hy : Bare y) (sx : TnD x) (sy : TnD y) :
 Calls Tryz.prog 39 #[.int .i64 n, .agg #[.bool x.neg, .slice p (dig B16 x.m).length c, .int .i64 x.e], .agg #[.bool y.neg, .slice q (dig B16 y.m).length d, .int .i64 y.e], .bool g, .bool h, .int .i64 way] w (GVf w w.heap.size ((fmt n).sumM x y g h way)) := by
 have HP := fun W h1 h2 => hi0 (m1r x y (e0x x y) p q c d W h1 h2 (r0x sx.sm) (r0x sy.sm) rfl)
 have hbd := k1m hx hy sx sy
 have hS1 : (e0x x y).m ≠ 0 → (fmt n).sumM x y g h way = (fmt n).numM (e0x x y) way := fun k => by unfold Fm.sumM; rw [if_pos k]
 have hS2 : (e0x x y).m = 0 → x.m = 0 ∧ g = h → (fmt n).sumM x y g h way = (⟨1, g && decide ((fmt n).fam = 1), vz⟩, 0) := fun k k' => by unfold Fm.sumM; rw [if_neg (fun h => h k), if_pos k']; rfl
 have hS3 : (e0x x y).m = 0 → ¬ (x.m = 0 ∧ g = h) → (fmt n).sumM x y g h way = (⟨1, decide (way = 5) && decide ((fmt n).fam = 1), vz⟩, 0) := fun k k' => by unfold Fm.sumM; rw [if_neg (fun h => h k), if_neg k']; rfl
 generalize e0x x y = s at *
 generalize (fmt n).sumM x y g h way = R at *
 have HN := fun W p c b h1 => hi0 (v0r n way s p c b W hn hw h1 (by omega) (by omega))
 have HZ := fun g W => hi0 (i0h n g W hn)
 have hs0 := a0f a0e s.m
 have hx0 := a0f a0e x.m
 obtain ⟨rN, flN, hN⟩ : ∃ rN flN, (fmt n).numM s way = (rN, flN) := ⟨_, _, rfl⟩
 rw [hN] at HN hS1
 unfold GVf at HN
 simp only at HN
 clear hN
 generalize decide ((fmt n).fam = 1) = q1 at *
 have I := Inv.start w [rfF b1 p c (dig B16 x.m), rfF b2 q d (dig B16 y.m)] ⟨hp, hq, True.intro⟩
 refine a0d [.v (.int .i64 n), .v (.agg #[.bool x.neg, .slice p (dig B16 x.m).length c, .int .i64 x.e]), .v (.agg #[.bool y.neg, .slice q (dig B16 y.m).length d, .int .i64 y.e]), .v (.bool g), .v (.bool h), .v (.int .i64 way)] I Tryz.func39 ?_
 refine zg I (fun Al W I => (HP W I.fa.1.rd I.fa.2.1.rd).out) fun Al V Iv _ hB _ kz => ?_
 rintro _ W ⟨p17, c17, rfl, o17, hb⟩
 refine ⟨_, rfl, kz _ _ hb fun I => ?_⟩
 have I := I.rf o17 (hB _) Iv
 by_cases hs : s.m = 0
 · refine zb I 21 (decide ((((dig B16 s.m).length : Nat) : Int) > 0)) (false) (dFa (by have := hs0.2 hs; omega)) fun Al W I => ?_
   by_cases hx1 : x.m = 0
   · by_cases hgh : g = h
     · refine zb I 31 ((((dig B16 x.m).length : Nat) : Int) == 0) (true) (beq_iff_eq.2 (by have := hx0.2 hx1; omega)) fun Al W I => ?_
       refine zb I 35 (g == h) (true) ((by rw [hgh]; exact beq_self_eq_true h)) fun Al W I => ?_
       refine zg I (fun Al W I => (HZ g W).out) fun Al V Iv _ hB _ kz => ?_
       rintro _ W ⟨rfl, hb⟩
       refine ⟨_, rfl, kz _ _ hb fun I => ?_⟩
       rw [hS2 hs ⟨hx1, hgh⟩]
       exact zret I fun Al W I => a0m (k := 1) (fl := 0) rfl I.below
     refine zb I 31 ((((dig B16 x.m).length : Nat) : Int) == 0) (true) (beq_iff_eq.2 (by have := hx0.2 hx1; omega)) fun Al W I => ?_
     refine zb I 35 (g == h) (false) (bFn hgh) fun Al W I => ?_
     refine zb I 42 (way == 5) ((decide (way = 5))) (rfl) fun Al W I => ?_
     refine zg I (fun Al W I => (HZ (decide (way = 5)) W).out) fun Al V Iv _ hB _ kz => ?_
     rintro _ W ⟨rfl, hb⟩
     refine ⟨_, rfl, kz _ _ hb fun I => ?_⟩
     rw [hS3 hs (fun k => by first | exact hx1 k.1 | exact hgh k.2)]
     exact zret I fun Al W I => a0m (k := 1) (fl := 0) rfl I.below
   by_cases hgh : g = h
   · refine zb I 31 ((((dig B16 x.m).length : Nat) : Int) == 0) (false) (bFn (fun k => hx1 (hx0.1 (by omega)))) fun Al W I => ?_
     refine zb I 42 (way == 5) ((decide (way = 5))) (rfl) fun Al W I => ?_
     refine zg I (fun Al W I => (HZ (decide (way = 5)) W).out) fun Al V Iv _ hB _ kz => ?_
     rintro _ W ⟨rfl, hb⟩
     refine ⟨_, rfl, kz _ _ hb fun I => ?_⟩
     rw [hS3 hs (fun k => by first | exact hx1 k.1 | exact hgh k.2)]
     exact zret I fun Al W I => a0m (k := 1) (fl := 0) rfl I.below
   refine zb I 31 ((((dig B16 x.m).length : Nat) : Int) == 0) (false) (bFn (fun k => hx1 (hx0.1 (by omega)))) fun Al W I => ?_
   refine zb I 42 (way == 5) ((decide (way = 5))) (rfl) fun Al W I => ?_
   refine zg I (fun Al W I => (HZ (decide (way = 5)) W).out) fun Al V Iv _ hB _ kz => ?_
   rintro _ W ⟨rfl, hb⟩
   refine ⟨_, rfl, kz _ _ hb fun I => ?_⟩
   rw [hS3 hs (fun k => by first | exact hx1 k.1 | exact hgh k.2)]
   exact zret I fun Al W I => a0m (k := 1) (fl := 0) rfl I.below
 refine zb I 21 (decide ((((dig B16 s.m).length : Nat) : Int) > 0)) (true) (dTr (by have := fun k => hs (hs0.1 k); omega)) fun Al W I => ?_
 refine zg I (fun Al W I => (HN W p17 c17 _ I.fa.1).out) fun Al V Iv _ hB _ kz => ?_
 rintro _ W ⟨p25, c25, rfl, o25, hb⟩
 refine ⟨_, rfl, kz _ _ hb fun I => ?_⟩
 have I := I.rf o25 (hB _) Iv
 rw [hS1 hs]
 exact zret I fun Al W I => ⟨p25, c25, rfl, I.fa.1, I.below⟩
end Go.Proofs.YtlcdfnaaenibgaaGreatDoor
namespace Go.Slip
open Go.RowKit
def t0v : List (Nat × SV) → Cfg → Cfg
 | [], c => c
 | (i, y) :: l, c => t0v l (j0n i y c)
section
variable {P : Program} {Q : Exit → Act → World → Prop} {E : List Nat} {w0 : World} {A : List Nat} {fs : List PF} {W : World} {c c' : Cfg}
theorem i0n (_ : Inv E w0 A c.bx fs W) (l : List (Nat × SV)) (h1 : ∀ A W, Inv E w0 A (nrm (t0v l c)).bx fs W → G P Q A (nrm (t0v l c)) W)
 (h2 : (∀ A W, Inv E w0 A (nrm (t0v l c)).bx fs W → G P Q A (nrm (t0v l c)) W) → G P Q A c W) : G P Q A c W := h2 h1
theorem zuse (K : ∀ A W, Inv E w0 A c'.bx fs W → G P Q A c' W) (I : Inv E w0 A c.bx fs W) (he : c = c' := by kernel_rfl) : G P Q A c W := by
 subst he
 exact K _ _ I
end
end Go.Slip
namespace Go.Slip
open Go.RowKit
def h1z (i : Nat) (c : Cfg) (A : List Nat) : Option VO :=
 match c.rg with
 | .dr ops _ _ (_ + 1) listed => match ops[i]? with
  | some o => match Region.noSelect ops && Region.free .any ops listed i && (Region.ready .any ops listed).contains i && wnt ops c.fr o with
   | true => match o.op with
    | .indexAddr t x j => some (.ix t (evr A c.fr x) (evr A c.fr j))
    | _ => none
   | false => none
  | none => none
 | _ => none
section
variable {P : Program} {Q : Exit → Act → World → Prop} {E : List Nat} {w0 : World} {A : List Nat} {fs : List PF} {W : World} {c : Cfg}
theorem zkx (i : Nat) (I : Inv E w0 A c.bx fs W) {vo : VO} (v : Value) (hx : ∀ W, vo.sem.run P W = .ok v W) (h : Inv E w0 A (j0n i (.v v) c).bx fs W → G P Q A (j0n i (.v v) c) W)
 (hv : h1z i c A = some vo := by kernel_rfl) (hm : dk1 c.rg c.bx = dk2 c.rg := by kernel_rfl) (hQ : g0g Q := by exact d0r) : G P Q A c W := by
 refine ⟨?_⟩
 have h := (h (by rw [w0p]; exact I)).out
 obtain ⟨cf, cb, rg, ks⟩ := c
 cases rg with
 | off => cases hv
 | pl => cases hv
 | one => cases hv
 | ret => cases hv
 | dr ops A0 m fuel listed =>
  cases fuel with
  | zero => cases hv
  | succ fuel =>
   unfold h1z at hv
   unfold j0n at h
   simp only at hv h
   intro pre
   split at hv
   · rename_i o hi
     rw [hi] at h
     split at hv
     · rename_i h1
       simp only [Bool.and_eq_true] at h1
       obtain ⟨⟨⟨h1, h2⟩, h3⟩, hw⟩ := h1
       split at hv
       · rename_i t x j hop
         simp only [Option.some.injEq] at hv
         subst hv
         have hS : SB A0 m W := b1g I pre hm
         have h : WpH P ops (post P Q ks) (SB A0 m) fuel (listed.setIfInBounds i true) (act A (putO cf o.dst (.v v))) W := h pre
         rw [← d0v] at h
         refine j0l i o.dst v _ hi rfl rfl h1 h2 h3 (fun c a w => f0i (P := P) hQ ks c a o.dst v w) (.inl ⟨by rw [g0s]; exact hw, fun w' _ => ?_⟩) hS h
         rw [c0l]
         unfold execOp
         have := hx w'
         unfold VO.sem at this
         simp only [hop, Sem.run_bind, this, Result.andThen_ok, Sem.run_pure]
       · cases hv
     · cases hv
   · cases hv
end
end Go.Slip
namespace Go.Proofs.YtlcdfnaaenibgaaGreatDoor
open Go.RowKit Go.Slip
theorem k1n {n : Int} {s t : ByteArray} (h : errL n [s, t] = 0) : a0w n s = 0 ∧ a0w n t = 0 ∧ IsFm n := by
 have h1 := d0w n h s (by simp)
 exact ⟨h1, d0w n h t (by simp), (c0q.1 h1).1⟩
theorem g1n {n : Int} {xs : List Vp} {s t : ByteArray} (h : xs.map (·.v) = [s, t].map (decP n)) : ∃ x y, xs = [x, y] ∧ x.v = decP n s ∧ y.v = decP n t := by
 cases xs with
 | nil => simp at h
 | cons x l =>
  cases l with
  | nil => simp at h
  | cons y l =>
   cases l with
   | nil => simp only [List.map_cons, List.map_nil, List.cons.injEq, and_true] at h; exact ⟨x, y, rfl, h.1, h.2⟩
   | cons _ _ => simp at h
theorem g1o (n way : Int) (s t : ByteArray) (h0 : errL n [s, t] = 0) (hw : 1 ≤ way ∧ way ≤ 5) : k1k n way [s, t] 33 ((fmt n).addM (refD n s) (refD n t) way) := by
 intro xs vs p c base u w hxs hvs oS oL U hT hb
 obtain ⟨hs, ht, hn⟩ := k1n h0
 obtain ⟨x, y, rfl, hx, hy⟩ := g1n hxs
 have ox := oL x (by simp)
 have oy := oL y (by simp)
 have HA := fun W u h1 h2 h3 h4 h5 => hi0 (n1g (fmt n) n way x y (refD n s) (refD n t) base u W h1 h2 h3 h4 (t0t hs hx) (t0t ht hy) (c0a hn) hw h5)
 generalize (fmt n).addM (refD n s) (refD n t) way = R at *
 generalize fmt n = f at *
 subst hvs
 clear oL hx hy hxs h0 hs ht hn
 obtain ⟨r, fl⟩ := R
 have I := Inv.startW w u 139 (uS f n way 0) [h0q base 70 4 p c [s, t].length ([x, y].flatMap Vp.cells), ownF base .u32 160 x.p x.c (dig B32 x.v.d), ownF base .u32 160 y.p y.c (dig B32 y.v.d), tabF] U ⟨oS, ox, oy, hT, True.intro⟩ ⟨fun hf => oS.far U (by kernel_rfl) hf.1 hf.2, fun hf => ox.far U (by kernel_rfl) hf.1 hf.2, fun hf => oy.far U (by kernel_rfl) hf.1 hf.2, fun hf => hT.far U (by kernel_rfl) hf, True.intro⟩
 refine a0d [.p 0 0, .v (.slice p [s, t].length c)] I Tryz.func33 ?_
 refine zd [0, 1] I fun Al W I => ?_
 refine zk [0, 1] I fun I => ?_
 refine zkx 2 I (.pointer (some (at_ p (0 * 4)))) (fun _ => (h0p (m := 0) (n := [s, t].length) (c := c) r0v I.fa.1.solid (by simp))) fun I => ?_
 refine zk [4] I fun I => ?_
 refine zkx 5 I (.pointer (some (at_ p (1 * 4)))) (fun _ => (h0p (m := 1) (n := [s, t].length) (c := c) r0v I.fa.1.solid (by simp))) fun I => ?_
 refine i0n I [(3, .v (.agg #[.int .i64 (x.v.cls : Int), .bool x.v.neg, .slice x.p (dig B32 x.v.d).length x.c, .int .i64 x.v.pow])), (6, .v (.agg #[.int .i64 (y.v.cls : Int), .bool y.v.neg, .slice y.p (dig B32 y.v.d).length y.c, .int .i64 y.v.pow]))] (fun Al W I => ?_) (fun KL7 => ?_)
 · refine zo 7 I fun I => ?_
   refine zge I 0 139 (fun Al W I => have hzW := I.bel.size; (HA W _ (I.box 0 139 _) I.fa.2.1 I.fa.2.2.1 (by omega) I.fa.2.2.2.1).out) fun Al V Iv _ _ kz => ?_
   rintro _ W ⟨v12, hR12, p12, c12, rfl, o12, hO, hB⟩
   refine ⟨_, rfl, kz _ (uS f n way (fl : Int)) _ hO hB fun I => ?_⟩
   have I := I.ownB base o12
   refine zo 8 I fun I => ?_
   refine zn I fun Al W I => ?_
   exact zret I fun Al W I => ⟨v12, hR12, p12, c12, rfl, I.fa.1, I.bel, I.boxE 139 _⟩
 refine i0n I [(3, .v (.agg #[.int .i64 (x.v.cls : Int), .bool x.v.neg, .slice x.p (dig B32 x.v.d).length x.c, .int .i64 x.v.pow]))] (fun Al W I => ?_) (fun KL5 => ?_)
 · refine zo 6 I fun I => ?_
   refine zx I 11 (fun _ => .agg #[.int .i64 (y.v.cls : Int), .bool y.v.neg, .slice y.p (dig B32 y.v.d).length y.c, .int .i64 y.v.pow]) (fun Al W I => (c0k (m := 1 * 4) I.fa.1 h0r y.cells rfl rfl)) fun Al W I => ?_
   exact zuse KL7 I
 refine i0n I [(6, .v (.agg #[.int .i64 (y.v.cls : Int), .bool y.v.neg, .slice y.p (dig B32 y.v.d).length y.c, .int .i64 y.v.pow]))] (fun Al W I => ?_) (fun KL6 => ?_)
 · refine zo 3 I fun I => ?_
   refine zx I 8 (fun _ => .agg #[.int .i64 (x.v.cls : Int), .bool x.v.neg, .slice x.p (dig B32 x.v.d).length x.c, .int .i64 x.v.pow]) (fun Al W I => (c0k (m := 0 * 4) I.fa.1 h0r x.cells rfl rfl)) fun Al W I => ?_
   exact zuse KL7 I
 refine zo2 3 6 I (fun I => ?_) (fun I => ?_)
 · refine zx I 8 (fun _ => .agg #[.int .i64 (x.v.cls : Int), .bool x.v.neg, .slice x.p (dig B32 x.v.d).length x.c, .int .i64 x.v.pow]) (fun Al W I => (c0k (m := 0 * 4) I.fa.1 h0r x.cells rfl rfl)) fun Al W I => ?_
   exact zuse KL5 I
 refine zx I 11 (fun _ => .agg #[.int .i64 (y.v.cls : Int), .bool y.v.neg, .slice y.p (dig B32 y.v.d).length y.c, .int .i64 y.v.pow]) (fun Al W I => (c0k (m := 1 * 4) I.fa.1 h0r y.cells rfl rfl)) fun Al W I => ?_
 exact zuse KL6 I
def f0g (n way : Int) (L : List ByteArray) (R : Vr × Nat) (w : World) (en : Ending) (w' : World) : Prop :=
 (if errR n way L = 0 then en = .returned (.tuple #[.string (strR n R.1), .int .i64 ((R.2 : Nat) : Int), .int .i64 (errR n way L)]) else en = .returned (.tuple #[.string (b0m []), .int .i64 0, .int .i64 (errR n way L)])) ∧ Below w.heap.size w w'
theorem k0z {n way : Int} {L : List ByteArray} (h0 : errR n way L = 0) : IsFm n ∧ errL n L = 0 ∧ 1 ≤ way ∧ way ≤ 5 := by
 have hn : IsFm n := by unfold errR at h0; split at h0; assumption; omega
 unfold errR at h0
 rw [if_pos hn] at h0
 have hL : errL n L = 0 := by split at h0; assumption; contradiction
 rw [if_pos hL] at h0
 exact ⟨hn, hL, by split at h0; assumption; omega⟩
theorem g1p (n way : Int) (s t : ByteArray) (w : World) (hT : TabW w) : Calls Tryz.prog 10 #[.int .i64 n, .string s, .string t, .int .i64 way] w (f0g n way [s, t] ((fmt n).addM (refD n s) (refD n t) way) w) := by
 unfold f0g
 by_cases h0 : errR n way [s, t] = 0
 · obtain ⟨hn, hL, hw⟩ := k0z h0
   have HR := fun b m W h1 h2 h3 => hi0 (h1w n way [s, t] 33 _ b m W h1 h2 (by simp) h3 (fun _ _ => by kernel_rfl) h0 (g1o n way s t hL hw) (h1y (c0a hn) (f0a hn) (f0a hn) way))
   simp only [h0, if_true]
   generalize strR n ((fmt n).addM (refD n s) (refD n t) way).1 = str at *
   generalize ((fmt n).addM (refD n s) (refD n t) way).2 = fl at *
   have I := Inv.start w [tabF] ⟨hT, True.intro⟩
   refine a0d [.v (.int .i64 n), .v (.string s), .v (.string t), .v (.int .i64 way)] I Tryz.func10 ?_
   refine zg I (fun Al W I => (HR _ 2 W (I.box 0 9 _) rfl I.fa.1).out) fun Al V Iv _ hB _ kz => ?_
   rintro _ W ⟨rfl, hb⟩
   refine ⟨_, rfl, kz _ _ hb fun I => ?_⟩
   exact zret I fun Al W I => ⟨rfl, I.below⟩
 · have HR := fun b m W h1 h2 h3 => hi0 (d1j n way [s, t] 33 b m W h1 h2 (by simp) h3 h0)
   simp only [if_neg h0]
   generalize errR n way [s, t] = er at *
   have I := Inv.start w [tabF] ⟨hT, True.intro⟩
   refine a0d [.v (.int .i64 n), .v (.string s), .v (.string t), .v (.int .i64 way)] I Tryz.func10 ?_
   refine zg I (fun Al W I => (HR _ 2 W (I.box 0 9 _) rfl I.fa.1).out) fun Al V Iv _ hB _ kz => ?_
   rintro _ W ⟨rfl, hb⟩
   refine ⟨_, rfl, kz _ _ hb fun I => ?_⟩
   exact zret I fun Al W I => ⟨rfl, I.below⟩
end Go.Proofs.YtlcdfnaaenibgaaGreatDoor
