/- The card of the law MachineChecks: for every input it returns true, and each argument reads as it read before; the library's table is as the program's text lays it (tied). No other condition. -/
import Derived.Test.YtgbbhlginbmghaaGreatDoorCards
import Derived.Test.YtgbbhlginbmghaaGreatDoorTie
import Derived.Lay
import Derived.LaidMore
import Derived.Stop.Joined
import Derived.ProofKit
import Derived.OpenShut
import Derived.SevenTiedAt
import Derived.Deep.LoopGhost
import Derived.Deep.RegionHeld3
import Derived.Lib.Strings
import Derived.Lib.Slices
import Derived.Lib.Small
import Derived.Lib.Walk
import Derived.Lib.BitFns
import Derived.Test.YtgbbhlginbmghaaGreatDoorMCa1
import Derived.Test.YtgbbhlginbmghaaGreatDoorMCa2
import Derived.Test.YtgbbhlginbmghaaGreatDoorMCa3
import Derived.Test.YtgbbhlginbmghaaGreatDoorMCa4
import Derived.Test.YtgbbhlginbmghaaGreatDoorMCa5
import Derived.Test.YtgbbhlginbmghaaGreatDoorMCa6
import Derived.Test.YtgbbhlginbmghaaGreatDoorMCa7
import Derived.Test.YtgbbhlginbmghaaGreatDoorMCa8
namespace Go.Proofs.YtgbbhlginbmghaaGreatDoor.machineChecks
open Go.ChangeShapes Go.WideShapes Go.ChangeAt Go.RowKit Go.Slip
theorem door_met (os : Os) (args : Array Value) : laidMetH Tryz.prog p0q ((World.laidAll Tryz.prog os p0q).forCall (fun _ _ => 0) ⟨#[], args, []⟩).memory := by
 rw [MakeChecks.laidMetH_plain _ _ _ (by kernel_rfl)]
 exact laidMet_laidAll _ (by kernel_rfl) (by kernel_rfl)
set_option maxRecDepth 100000 in
theorem lifted (os : Os) (started : os.Started) (H : Type) (enc : TypeId × Value → H) :
 ReturnsInHanded {} Tryz.checked os 4 .any (fun w args => (Rows.machineChecksSpec.pre enc Tryz.prog Tryz.f4 [] false w args ∧ laidMetH Tryz.prog p0q w) ∧ sizedMet enc Tryz.prog Tryz.f4 (OpenSpec.ofChange Rows.machineChecksSpec) false w args)
  (Rows.machineChecksSpec.post enc Tryz.prog Tryz.f4 false true false false) := by
 refine returnsInHanded_of_change_and (C := Tryz.checked) (X := fun w _ => laidMetH Tryz.prog p0q w) (fun _ _ _ hh h => h.of_heap hh) v0r started (by kernel_rfl) Tryz.func4
  (ChangeSpec.witness_shaped (enc := enc) (C := Tryz.checked) (os := os) (X := fun w _ => laidMetH Tryz.prog p0q w) false (World.laidAll Tryz.prog os p0q) #[.agg #[.int .i64 0, .int .i64 0, .int .i64 0, .int .i64 0, .slice none 0 0]] 8 (World.laidAll_os _ _ _) (World.shaped_of_ZipB (by kernel_rfl) (by kernel_rfl)) (by kernel_rfl) (by kernel_rfl) (by kernel_rfl) (door_met os _)) ?_
 intro W base args ds gs before hval0 hW _ hsz0 hL _
 clear hsz0
 obtain ⟨hT, hP⟩ := f1p hL
 have hval : ∀ (j : Nat) t v, Tryz.f4.params[j]? = some t → args[j]? = some v → Value.okWide Tryz.prog W .any base t v := hval0
 have hW' := hW
 obtain ⟨p, q, hA0, hV, rfl, hfz, hnd⟩ := hW
 have hA : DataW.TrodAll enc Tryz.prog W 0 (fun _ => true) true Tryz.f4.params.toList args.toList ds p := hA0
 rw [Tryz.params4] at hA hval
 obtain ⟨v0, vs0, d0, ds0, p0, q0, hargs, rfl, rfl, h0, r0⟩ := trodAll_cons hA
 obtain ⟨rfl, rfl, rfl⟩ := trodAll_nil r0
 obtain rfl : args = #[v0] := by cases args; simp_all
 obtain ⟨rfl, rfl⟩ := trodVars_none hV
 have k0 := h0
 have lt0 : ∀ x ∈ p0, x.block < W.heap.size := by obtain ⟨m, hm⟩ := k0; exact DataW.trod_lt m _ _ _ hm
 obtain ⟨f0, a0, g0, e0, pa0, n0, c0, xs0, rfl, hi0, hj0, hk0⟩ := x0s (hval 0 25 v0 rfl rfl) h0
 clear hA0 hval0 hfz hnd
 refine (j0m f0 a0 g0 e0 pa0 n0 c0 xs0 W hi0 hj0 hk0 hT hP).mono fun e W' ⟨he, bel⟩ => ?_
 subst he
 exact ⟨_, rfl, _, _, _, [], _, [], hW', trodAll_mk1 (shut_bool Tryz.underlying4 _), (trodAll_cons_mk (Below.trod v0s (by kernel_rfl) (oTr (by kernel_rfl)) k0 bel lt0) trodAll_mk0), rfl, bel.frame _, fun h => by cases h⟩
theorem over : Rows.MachineChecksSaid :=
 OpenClaim.holds_of_wide 4 Tryz.f4 rfl rfl rfl rfl rfl rfl rfl ⟨rfl, rfl, rfl, rfl, rfl⟩ rfl rfl rfl rfl rfl (by kernel_rfl) Tryz.func4 (by kernel_rfl)
  (oTr (by kernel_rfl)) (by unfold Func.isWrapper; first | (rw [if_pos (by decide +kernel)]; kernel_rfl) | (rw [if_neg (by decide +kernel)]; exact ⟨rfl, rfl⟩))
  (fun os started H enc _ => lifted os started H enc)
theorem proved : Rows.MachineChecksCardSaid :=
 Claim7.holds_tied_plain_at .later [] [.data, .data, .data, .data, .sentinel, .sentinel, .pinned] true (true, _) true
  over (fun _ h => by cases h) (by kernel_rfl) (fun _ h => by cases h) machineChecks_row_tie rfl ⟨rfl, rfl⟩ (by kernel_rfl) rfl
  (fun f fn hf hfn => by
    obtain rfl : f = 4 := Option.some.inj ((show Tryz.prog.funcNamed "slipstick/slipsticklaw.MachineChecks" = some 4 by kernel_rfl).symm.trans hf) |>.symm
    obtain rfl : fn = Tryz.f4 := (Option.some.inj (Tryz.func4.symm.trans hfn)).symm
    exact ⟨by kernel_rfl, fun j t ht => by
      rw [Tryz.params4] at ht
      have hm : t ∈ [25] := by simpa using Array.mem_of_getElem? ht
      have hall : ([25].all fun u => !Tryz.prog.wantsStandIn u) = true := by kernel_rfl
      exact (show Tryz.prog.wantsStandIn t = false by simpa using List.all_eq_true.1 hall t hm)⟩)
  (by kernel_rfl)
#print axioms proved
end Go.Proofs.YtgbbhlginbmghaaGreatDoor.machineChecks
