/- codec: value, bare: what parts are worth.
   codec: decode, open, Decode, Class, Size, Grid.
   codec: open, Decode, Class, Size, Grid.
   codec: Encode.
   Decimal digits, four by four, and what is stripped of them: plain arithmetic. No program is in sight here.
   A product and a sum in place; the number that decimal digits make: plain arithmetic. No program is in sight here.
   The references' division: of more than one digit.
   The references' SameNat, SameDyad, whatever the two are; ToDyad.
   The references on balls: OfBall, DSign, CheckBall, SameBall.
   The reference's Value, and what DecodeOf's closure tells.
   The reference's ToValue and SameValue.
   What the laws of chapter 5 begin with: codecBegun.
   The laws CodecDecodes and CodecClasses.
   More steps over slices of any values. No program is in sight here.
   The law CodecEncodes.
   The law CodecEncodes: the row.
   The next pattern: the plain law of its number. No program is in sight here.
   What is encoded is decoded as it was: the plain law. No program is in sight here.
   What is encoded is decoded as it was: what Encode and Decode tell of each other. -/
import Derived.Lib.Strings
import Derived.Lib.Slices
import Derived.Lib.Small
import Derived.Lib.Walk
import Derived.Lib.BitFns
import Derived.Deep.LoopGhost
import Derived.Deep.RegionHeld3
import Derived.Test.YtcipdimogodndaaDoorZt1
import Derived.Test.YtcipdimogodndaaDoorZt2
import Derived.Test.YtcipdimogodndaaDoorZt3
import Derived.Test.YtcipdimogodndaaDoorZt4
namespace Go.Proofs.YtcipdimogodndaaDoor
open Go.RowKit Go.Slip

theorem cmpN_zero {a b : Nat} (h : cmpN a b = 0) : a = b := by
  unfold cmpN at h
  split at h
  · omega
  · split at h <;> omega
theorem tz_bdn {n : Nat} (x : Nat) (hl : (dig B32 x).length ≤ n) : tz x ≤ 32 * n := by
  rcases Nat.eq_zero_or_pos x with h | h
  · rw [h, tz_zero]; omega
  · have h1 := (tz_spec x h).1
    have h2 := (dig_len_le B32_two x n).1 hl
    have h3 : 2 ^ tz x ≤ x := by
      have : 0 < x / 2 ^ tz x := by
        rcases Nat.eq_zero_or_pos (x / 2 ^ tz x) with h4 | h4
        · rw [h4, Nat.mul_zero] at h1; omega
        · exact h4
      have h5 := Nat.mul_le_mul_left (2 ^ tz x) this
      omega
    rw [show B32 = 2 ^ 32 from rfl, ← Nat.pow_mul] at h2
    have h6 := (Nat.pow_lt_pow_iff_right (a := 2) (by omega)).1 (Nat.lt_of_le_of_lt h3 h2)
    omega
theorem tz_bd (x : Nat) (hl : (dig B32 x).length ≤ 1000) : tz x ≤ 32000 := tz_bdn x hl

def GivesC (w : World) (base : Nat) (d : Dc) (en : Ending) (w' : World) : Prop :=
  ∃ p c, en = .returned (.tuple #[.int .i64 ((d.cls : Nat) : Int), .slice p (dig B32 d.m).length c, .int .i64 d.p]) ∧ Own w' base .u32 91 p c (dig B32 d.m) ∧ Below w.heap.size w w'

theorem givesC_none {w w' : World} {base : Nat} {k : Nat} {en : Ending} (h : en = .returned (.tuple #[.int .i64 ((k : Nat) : Int), .slice none 0 0, .int .i64 0])) (hb : Below w.heap.size w w') : GivesC w base ⟨k, 0, 0⟩ en w' := by
  refine ⟨none, 0, ?_, ?_, hb⟩
  · rw [h, dig_zero]; rfl
  · rw [dig_zero]; exact Own.nil _ _ _ _

set_option maxRecDepth 100000 in
theorem value_any (f : Fm) (g : Bool) (e x : Nat) (p : Option Addr) (c base : Nat) (w : World) (G : GoodF f) (hp : Own w base .u32 91 p c (dig B32 x)) (hb : base ≤ w.heap.size) (he : e < 2 ^ f.E) (hx : x < 2 ^ f.F) :
    Calls Tryd.prog 107 #[.agg #[.int .i64 ((f.size : Nat) : Int), .int .i64 ((f.E : Nat) : Int), .int .i64 ((f.F : Nat) : Int), .int .i64 f.g.rad, .int .i64 f.g.digs, .int .i64 f.g.lo, .int .i64 f.g.hi, .bool f.g.grad, .bool f.hid, .bool f.inf, .bool f.res, .func (.func (ordF f)) #[] #[]], .agg #[.bool g, .int .i64 ((e : Nat) : Int), .slice p (dig B32 x).length c]] w (GivesC w base (f.dec g e x)) := by
  have z2 := G.e2
  have z3 := G.f2
  have z4 := G.lo
  have hxl := dig_le_pow hx (k := 2) (by omega)
  have hx0 := dig_len_zero B32_two x
  have h0T : 0 < 2 ^ f.E := Nat.pow_pos (by omega)
  have h0T2 : 2 ^ f.E ≤ 2 ^ 15 := Nat.pow_le_pow_right (by omega) (by omega)
  have HSH := Lib.hid (shl_one (E := f.E) (by omega))
  by_cases f2 : f.fam = 2
  · have hD : f.dec g e x = ⟨2, x, f.g.lo + e⟩ := by unfold Fm.dec; rw [if_pos f2]
    rw [hD]
    generalize 2 ^ f.E = P at *
    have r1 := G.rad
    rw [if_pos f2] at r1
    have hT3 : SxOne Tryd.prog 3 := sxOne_of (by kernel_rfl) (by kernel_rfl)
    have hT23 : SxOne Tryd.prog 23 := sxOne_of (by kernel_rfl) (by kernel_rfl)
    refine calls_of_wp Tryd.func107 rfl ?_
    refine sx_frame (a' := ⟨((.agg #[.int .i64 ((f.size : Nat) : Int), .int .i64 ((f.E : Nat) : Int), .int .i64 ((f.F : Nat) : Int), .int .i64 f.g.rad, .int .i64 f.g.digs, .int .i64 f.g.lo, .int .i64 f.g.hi, .bool f.g.grad, .bool f.hid, .bool f.inf, .bool f.res, .func (.func (ordF f)) #[] #[]]) :: (.agg #[.bool g, .int .i64 ((e : Nat) : Int), .slice p (dig B32 x).length c]) :: us 97 []).toArray, []⟩) (by kernel_rfl) ?_
    refine ye ?_
    refine yw 0 rfl 2 #[.int .i64 ((f.size : Nat) : Int), .int .i64 ((f.E : Nat) : Int), .int .i64 ((f.F : Nat) : Int), .int .i64 f.g.rad, .int .i64 f.g.digs, .int .i64 f.g.lo, .int .i64 f.g.hi, .bool f.g.grad, .bool f.hid, .bool f.inf, .bool f.res, .func (.func (ordF f)) #[] #[]] 116 (fun V1 hbV1 hzV1 b2 => ?_)
    refine yw 0 rfl 3 #[.bool g, .int .i64 ((e : Nat) : Int), .slice p (dig B32 x).length c] 137 (fun V2 hbV2 hzV2 b3 => ?_)
    refine yzt 3 ?_
    refine ye ?_
    replace b2 := (b2.past hbV2)
    refine yl 1 rfl 10 b2 hT3 1 ?_
    refine yv 0 rfl 11 (.int .i64 ((P : Nat) : Int)) ?_ (exec_shl (X := (1)) (Y := ((f.E : Nat) : Int)) (k2 := .i64) ((P : Nat) : Int) (by kernel_rfl) (by kernel_rfl) (by omega) ((HSH.out)))
    refine ya 0 rfl 12 .i64 (((P : Nat) : Int) - 1) (((P - 1 : Nat) : Int)) ((by rw [show (((P : Nat) : Int) - 1) = ((P - 1 : Nat) : Int) by omega]; exact IntWalk.i64_in _ (by omega))) ?_
    refine yzt 1 ?_
    refine ye ?_
    refine yl 2 rfl 15 b2 hT3 5 ?_
    refine yzt 1 ?_
    refine wp_seq ?_
    refine wp_block ?_
    refine ye ?_
    refine yl 2 rfl 19 b2 hT3 3 ?_
    refine yb 0 rfl 20 (f.g.rad == 16) (true) (beq_iff_eq.2 r1) ?_
    refine yzt 1 ?_
    refine yT ?_
    refine wp_seq ?_
    obtain ⟨V3, hVV3, hbV3, hzV3⟩ := drew_of V2
    replace b3 := (b3.past hbV3)
    refine yd1 hVV3 b3 ?_
    clear hVV3
    refine yt 8 [0] rfl b3 ?_
    refine ytl 1 rfl 22 (fun _ h => h) hT23 2 b3 ?_
    refine yt 5 [2, 3] rfl b3 ?_
    refine ytl 4 rfl 25 (fun _ h => h) hT3 1 b3 ?_
    refine tk 5 26 (.int .i64 (f.g.lo + ((e : Nat) : Int))) b3 ?_ (hy := fun w' _ => ((show _ = Result.ok (Next.value (.int .i64 (IntKind.wrap .i64 (f.g.lo + ((e : Nat) : Int))))) _ by kernel_rfl).trans (congrArg (fun z => Result.ok (Next.value (.int .i64 z)) _) (IntWalk.i64_in _ (by omega)))))
    refine yt 0 [6, 7, 8] rfl b3 ?_
    refine sx_done (by kernel_rfl) ?_
    refine sx_then ?_
    refine wp_ret ?_
    repeat (first | with_reducible refine sx_thenret ?_ | with_reducible refine sx_blockret ?_)
    refine yret (.tuple #[.int .i64 2, .slice p (dig B32 x).length c, .int .i64 (f.g.lo + ((e : Nat) : Int))]) (res3 Tryd.results107 rvt rvt rvt) ?_
    replace hp := (hp.past (bthru (bthru hbV1 hbV2) hbV3))
    exact ⟨p, c, rfl, hp, (bthru (bthru hbV1 hbV2) hbV3)⟩
  · have r1 := G.rad
    rw [if_neg f2] at r1
    have hr : (f.g.rad == 16) = false := by rw [r1]; rfl
    by_cases f1 : f.fam = 1
    · have hinf : f.inf = true := by unfold Fm.inf; rw [f1]; rfl
      have hres : f.res = false := by unfold Fm.res; rw [f1]; rfl
      by_cases hl : e = 2 ^ f.E - 1
      · by_cases hex : f.ext = false
        · have hhid : f.hid = true := by unfold Fm.hid; rw [f1, hex]; rfl
          by_cases h0 : x = 0
          · have hD : f.dec g e x = ⟨3, 0, 0⟩ := by unfold Fm.dec; rw [if_neg f2, if_pos ⟨f1, hl⟩, if_pos (.inl ⟨hex, h0⟩)]
            rw [hD]
            generalize 2 ^ f.E = P at *
            have hT3 : SxOne Tryd.prog 3 := sxOne_of (by kernel_rfl) (by kernel_rfl)
            have hT4 : SxOne Tryd.prog 4 := sxOne_of (by kernel_rfl) (by kernel_rfl)
            have hT23 : SxOne Tryd.prog 23 := sxOne_of (by kernel_rfl) (by kernel_rfl)
            refine calls_of_wp Tryd.func107 rfl ?_
            refine sx_frame (a' := ⟨((.agg #[.int .i64 ((f.size : Nat) : Int), .int .i64 ((f.E : Nat) : Int), .int .i64 ((f.F : Nat) : Int), .int .i64 f.g.rad, .int .i64 f.g.digs, .int .i64 f.g.lo, .int .i64 f.g.hi, .bool f.g.grad, .bool f.hid, .bool f.inf, .bool f.res, .func (.func (ordF f)) #[] #[]]) :: (.agg #[.bool g, .int .i64 ((e : Nat) : Int), .slice p (dig B32 x).length c]) :: us 97 []).toArray, []⟩) (by kernel_rfl) ?_
            refine ye ?_
            refine yw 0 rfl 2 #[.int .i64 ((f.size : Nat) : Int), .int .i64 ((f.E : Nat) : Int), .int .i64 ((f.F : Nat) : Int), .int .i64 f.g.rad, .int .i64 f.g.digs, .int .i64 f.g.lo, .int .i64 f.g.hi, .bool f.g.grad, .bool f.hid, .bool f.inf, .bool f.res, .func (.func (ordF f)) #[] #[]] 116 (fun V1 hbV1 hzV1 b2 => ?_)
            refine yw 0 rfl 3 #[.bool g, .int .i64 ((e : Nat) : Int), .slice p (dig B32 x).length c] 137 (fun V2 hbV2 hzV2 b3 => ?_)
            refine yzt 3 ?_
            refine ye ?_
            replace b2 := (b2.past hbV2)
            refine yl 1 rfl 10 b2 hT3 1 ?_
            refine yv 0 rfl 11 (.int .i64 ((P : Nat) : Int)) ?_ (exec_shl (X := (1)) (Y := ((f.E : Nat) : Int)) (k2 := .i64) ((P : Nat) : Int) (by kernel_rfl) (by kernel_rfl) (by omega) ((HSH.out)))
            refine ya 0 rfl 12 .i64 (((P : Nat) : Int) - 1) (((P - 1 : Nat) : Int)) ((by rw [show (((P : Nat) : Int) - 1) = ((P - 1 : Nat) : Int) by omega]; exact IntWalk.i64_in _ (by omega))) ?_
            refine yzt 1 ?_
            refine ye ?_
            refine yl 2 rfl 15 b2 hT3 5 ?_
            refine yzt 1 ?_
            refine wp_seq ?_
            refine wp_block ?_
            refine ye ?_
            refine yl 2 rfl 19 b2 hT3 3 ?_
            refine yb 0 rfl 20 (f.g.rad == 16) (false) (hr) ?_
            refine yzt 1 ?_
            refine yF ?_
            refine ye ?_
            refine ylb 1 rfl 29 b2 hT4 9 (f.inf) true (hinf) ?_
            refine yl 2 rfl 32 b3 hT3 1 ?_
            refine yb 1 rfl 34 (((e : Nat) : Int) == ((P - 1 : Nat) : Int)) (true) (beq_iff_eq.2 (by omega)) ?_
            refine yzt 2 ?_
            refine yT ?_
            refine wp_seq ?_
            refine wp_seq ?_
            obtain ⟨V3, hVV3, hbV3, hzV3⟩ := drew_of V2
            replace b2 := (b2.past hbV3)
            replace b3 := (b3.past hbV3)
            refine yd2 hVV3 ⟨b2, b3⟩ ?_
            clear hVV3
            refine yt 19 [0] rfl ⟨b2, b3⟩ ?_
            refine tk 1 37 (.bool true) ⟨b2, b3⟩ ?_ (hy := fun w' hS => ((show _ = Result.ok (Next.value (.bool (f.hid))) _ from (exec_ld (by kernel_rfl) (run_ld1 hS.1 hT4 8 (.bool f.hid) (by kernel_rfl)))).trans (congrArg (fun z => Result.ok (Next.value (.bool z)) _) (show (f.hid) = true from hhid))))
            refine yt 16 [2, 3] rfl ⟨b2, b3⟩ ?_
            refine ytl 4 rfl 40 (fun _ h => h.2) hT23 2 ⟨b2, b3⟩ ?_
            refine yt 14 [5] rfl ⟨b2, b3⟩ ?_
            refine tk 6 42 (.bool true) ⟨b2, b3⟩ ?_ (hy := fun w' _ => ((show _ = Result.ok (Next.value (.bool ((((dig B32 x).length : Nat) : Int) == 0))) _ from (by kernel_rfl)).trans (congrArg (fun z => Result.ok (Next.value (.bool z)) _) (show ((((dig B32 x).length : Nat) : Int) == 0) = true from beq_iff_eq.2 (by omega)))))
            refine yt 0 [7, 8, 9, 10, 11, 12, 13, 14, 15, 16, 17, 18, 19] rfl ⟨b2, b3⟩ ?_
            refine sx_done (by kernel_rfl) ?_
            refine sx_then ?_
            refine yT ?_
            refine yq ?_
            refine wp_ret ?_
            repeat (first | with_reducible refine sx_thenret ?_ | with_reducible refine sx_blockret ?_)
            refine yret (.tuple #[.int .i64 3, .slice none 0 0, .int .i64 0]) (res3 Tryd.results107 rvt rvt rvt) ?_
            exact givesC_none (k := 3) rfl (bthru (bthru hbV1 hbV2) hbV3)
          · have hD : f.dec g e x = ⟨4, 0, 0⟩ := by unfold Fm.dec; rw [if_neg f2, if_pos ⟨f1, hl⟩, if_neg (by simp [hex, h0])]
            rw [hD]
            generalize 2 ^ f.E = P at *
            have hT3 : SxOne Tryd.prog 3 := sxOne_of (by kernel_rfl) (by kernel_rfl)
            have hT4 : SxOne Tryd.prog 4 := sxOne_of (by kernel_rfl) (by kernel_rfl)
            have hT23 : SxOne Tryd.prog 23 := sxOne_of (by kernel_rfl) (by kernel_rfl)
            refine calls_of_wp Tryd.func107 rfl ?_
            refine sx_frame (a' := ⟨((.agg #[.int .i64 ((f.size : Nat) : Int), .int .i64 ((f.E : Nat) : Int), .int .i64 ((f.F : Nat) : Int), .int .i64 f.g.rad, .int .i64 f.g.digs, .int .i64 f.g.lo, .int .i64 f.g.hi, .bool f.g.grad, .bool f.hid, .bool f.inf, .bool f.res, .func (.func (ordF f)) #[] #[]]) :: (.agg #[.bool g, .int .i64 ((e : Nat) : Int), .slice p (dig B32 x).length c]) :: us 97 []).toArray, []⟩) (by kernel_rfl) ?_
            refine ye ?_
            refine yw 0 rfl 2 #[.int .i64 ((f.size : Nat) : Int), .int .i64 ((f.E : Nat) : Int), .int .i64 ((f.F : Nat) : Int), .int .i64 f.g.rad, .int .i64 f.g.digs, .int .i64 f.g.lo, .int .i64 f.g.hi, .bool f.g.grad, .bool f.hid, .bool f.inf, .bool f.res, .func (.func (ordF f)) #[] #[]] 116 (fun V1 hbV1 hzV1 b2 => ?_)
            refine yw 0 rfl 3 #[.bool g, .int .i64 ((e : Nat) : Int), .slice p (dig B32 x).length c] 137 (fun V2 hbV2 hzV2 b3 => ?_)
            refine yzt 3 ?_
            refine ye ?_
            replace b2 := (b2.past hbV2)
            refine yl 1 rfl 10 b2 hT3 1 ?_
            refine yv 0 rfl 11 (.int .i64 ((P : Nat) : Int)) ?_ (exec_shl (X := (1)) (Y := ((f.E : Nat) : Int)) (k2 := .i64) ((P : Nat) : Int) (by kernel_rfl) (by kernel_rfl) (by omega) ((HSH.out)))
            refine ya 0 rfl 12 .i64 (((P : Nat) : Int) - 1) (((P - 1 : Nat) : Int)) ((by rw [show (((P : Nat) : Int) - 1) = ((P - 1 : Nat) : Int) by omega]; exact IntWalk.i64_in _ (by omega))) ?_
            refine yzt 1 ?_
            refine ye ?_
            refine yl 2 rfl 15 b2 hT3 5 ?_
            refine yzt 1 ?_
            refine wp_seq ?_
            refine wp_block ?_
            refine ye ?_
            refine yl 2 rfl 19 b2 hT3 3 ?_
            refine yb 0 rfl 20 (f.g.rad == 16) (false) (hr) ?_
            refine yzt 1 ?_
            refine yF ?_
            refine ye ?_
            refine ylb 1 rfl 29 b2 hT4 9 (f.inf) true (hinf) ?_
            refine yl 2 rfl 32 b3 hT3 1 ?_
            refine yb 1 rfl 34 (((e : Nat) : Int) == ((P - 1 : Nat) : Int)) (true) (beq_iff_eq.2 (by omega)) ?_
            refine yzt 2 ?_
            refine yT ?_
            refine wp_seq ?_
            refine wp_seq ?_
            obtain ⟨V3, hVV3, hbV3, hzV3⟩ := drew_of V2
            replace b2 := (b2.past hbV3)
            replace b3 := (b3.past hbV3)
            refine yd2 hVV3 ⟨b2, b3⟩ ?_
            clear hVV3
            refine yt 19 [0] rfl ⟨b2, b3⟩ ?_
            refine tk 1 37 (.bool true) ⟨b2, b3⟩ ?_ (hy := fun w' hS => ((show _ = Result.ok (Next.value (.bool (f.hid))) _ from (exec_ld (by kernel_rfl) (run_ld1 hS.1 hT4 8 (.bool f.hid) (by kernel_rfl)))).trans (congrArg (fun z => Result.ok (Next.value (.bool z)) _) (show (f.hid) = true from hhid))))
            refine yt 16 [2, 3] rfl ⟨b2, b3⟩ ?_
            refine ytl 4 rfl 40 (fun _ h => h.2) hT23 2 ⟨b2, b3⟩ ?_
            refine yt 14 [5] rfl ⟨b2, b3⟩ ?_
            refine tk 6 42 (.bool false) ⟨b2, b3⟩ ?_ (hy := fun w' _ => ((show _ = Result.ok (Next.value (.bool ((((dig B32 x).length : Nat) : Int) == 0))) _ from (by kernel_rfl)).trans (congrArg (fun z => Result.ok (Next.value (.bool z)) _) (show ((((dig B32 x).length : Nat) : Int) == 0) = false from beq_eq_false_iff_ne.2 (by omega)))))
            refine yt 10 [7, 8, 9] rfl ⟨b2, b3⟩ ?_
            refine tk 10 46 (.bool true) ⟨b2, b3⟩ ?_ (hy := fun w' hS => ((show _ = Result.ok (Next.value (.bool (f.hid))) _ from (exec_ld (by kernel_rfl) (run_ld1 hS.1 hT4 8 (.bool f.hid) (by kernel_rfl)))).trans (congrArg (fun z => Result.ok (Next.value (.bool z)) _) (show (f.hid) = true from hhid))))
            refine yt 0 [11, 12, 13, 14, 15, 16, 17, 18, 19] rfl ⟨b2, b3⟩ ?_
            refine sx_done (by kernel_rfl) ?_
            refine sx_then ?_
            refine yF ?_
            refine wp_skip ?_
            refine sx_then ?_
            refine yq ?_
            refine wp_ret ?_
            repeat (first | with_reducible refine sx_thenret ?_ | with_reducible refine sx_blockret ?_)
            refine yret (.tuple #[.int .i64 4, .slice none 0 0, .int .i64 0]) (res3 Tryd.results107 rvt rvt rvt) ?_
            exact givesC_none (k := 4) rfl (bthru (bthru hbV1 hbV2) hbV3)
        · have hex : f.ext = true := by simpa using hex
          have hhid : f.hid = false := by unfold Fm.hid; rw [f1, hex]; rfl
          have hl63 : (dig B32 (2 ^ 63)).length ≤ 2 := dig_le_pow (n := 64) (by omega) (by omega)
          by_cases h0 : x = 2 ^ 63
          · have hD : f.dec g e x = ⟨3, 0, 0⟩ := by unfold Fm.dec; rw [if_neg f2, if_pos ⟨f1, hl⟩, if_pos (.inr ⟨hex, h0⟩)]
            have hcm : cmpN x (2 ^ 63) = 0 := by rw [h0]; unfold cmpN; simp
            rw [hD]
            generalize 2 ^ f.E = P at *
            have hT3 : SxOne Tryd.prog 3 := sxOne_of (by kernel_rfl) (by kernel_rfl)
            have hT4 : SxOne Tryd.prog 4 := sxOne_of (by kernel_rfl) (by kernel_rfl)
            have hT23 : SxOne Tryd.prog 23 := sxOne_of (by kernel_rfl) (by kernel_rfl)
            refine calls_of_wp Tryd.func107 rfl ?_
            refine sx_frame (a' := ⟨((.agg #[.int .i64 ((f.size : Nat) : Int), .int .i64 ((f.E : Nat) : Int), .int .i64 ((f.F : Nat) : Int), .int .i64 f.g.rad, .int .i64 f.g.digs, .int .i64 f.g.lo, .int .i64 f.g.hi, .bool f.g.grad, .bool f.hid, .bool f.inf, .bool f.res, .func (.func (ordF f)) #[] #[]]) :: (.agg #[.bool g, .int .i64 ((e : Nat) : Int), .slice p (dig B32 x).length c]) :: us 97 []).toArray, []⟩) (by kernel_rfl) ?_
            refine ye ?_
            refine yw 0 rfl 2 #[.int .i64 ((f.size : Nat) : Int), .int .i64 ((f.E : Nat) : Int), .int .i64 ((f.F : Nat) : Int), .int .i64 f.g.rad, .int .i64 f.g.digs, .int .i64 f.g.lo, .int .i64 f.g.hi, .bool f.g.grad, .bool f.hid, .bool f.inf, .bool f.res, .func (.func (ordF f)) #[] #[]] 116 (fun V1 hbV1 hzV1 b2 => ?_)
            refine yw 0 rfl 3 #[.bool g, .int .i64 ((e : Nat) : Int), .slice p (dig B32 x).length c] 137 (fun V2 hbV2 hzV2 b3 => ?_)
            refine yzt 3 ?_
            refine ye ?_
            replace b2 := (b2.past hbV2)
            refine yl 1 rfl 10 b2 hT3 1 ?_
            refine yv 0 rfl 11 (.int .i64 ((P : Nat) : Int)) ?_ (exec_shl (X := (1)) (Y := ((f.E : Nat) : Int)) (k2 := .i64) ((P : Nat) : Int) (by kernel_rfl) (by kernel_rfl) (by omega) ((HSH.out)))
            refine ya 0 rfl 12 .i64 (((P : Nat) : Int) - 1) (((P - 1 : Nat) : Int)) ((by rw [show (((P : Nat) : Int) - 1) = ((P - 1 : Nat) : Int) by omega]; exact IntWalk.i64_in _ (by omega))) ?_
            refine yzt 1 ?_
            refine ye ?_
            refine yl 2 rfl 15 b2 hT3 5 ?_
            refine yzt 1 ?_
            refine wp_seq ?_
            refine wp_block ?_
            refine ye ?_
            refine yl 2 rfl 19 b2 hT3 3 ?_
            refine yb 0 rfl 20 (f.g.rad == 16) (false) (hr) ?_
            refine yzt 1 ?_
            refine yF ?_
            refine ye ?_
            refine ylb 1 rfl 29 b2 hT4 9 (f.inf) true (hinf) ?_
            refine yl 2 rfl 32 b3 hT3 1 ?_
            refine yb 1 rfl 34 (((e : Nat) : Int) == ((P - 1 : Nat) : Int)) (true) (beq_iff_eq.2 (by omega)) ?_
            refine yzt 2 ?_
            refine yT ?_
            refine wp_seq ?_
            refine wp_seq ?_
            obtain ⟨V3, hVV3, hbV3, hzV3⟩ := drew_of V2
            replace b2 := (b2.past hbV3)
            replace b3 := (b3.past hbV3)
            refine yd2 hVV3 ⟨b2, b3⟩ ?_
            clear hVV3
            refine yt 19 [0] rfl ⟨b2, b3⟩ ?_
            refine tk 1 37 (.bool false) ⟨b2, b3⟩ ?_ (hy := fun w' hS => ((show _ = Result.ok (Next.value (.bool (f.hid))) _ from (exec_ld (by kernel_rfl) (run_ld1 hS.1 hT4 8 (.bool f.hid) (by kernel_rfl)))).trans (congrArg (fun z => Result.ok (Next.value (.bool z)) _) (show (f.hid) = false from hhid))))
            refine yt 10 [2, 3, 4, 5, 6, 7, 8, 9] rfl ⟨b2, b3⟩ ?_
            refine tk 10 46 (.bool false) ⟨b2, b3⟩ ?_ (hy := fun w' hS => ((show _ = Result.ok (Next.value (.bool (f.hid))) _ from (exec_ld (by kernel_rfl) (run_ld1 hS.1 hT4 8 (.bool f.hid) (by kernel_rfl)))).trans (congrArg (fun z => Result.ok (Next.value (.bool z)) _) (show (f.hid) = false from hhid))))
            refine yt 6 [11, 12, 13] rfl ⟨b2, b3⟩ ?_
            refine ytl 14 rfl 50 (fun _ h => h.2) hT23 2 ⟨b2, b3⟩ ?_
            refine sxr [15] ?_
            refine rd1 (fun Kx hKx => ?_)
            refine yck 51 (two_any 63 (2 ^ 63) 63 V3 (by omega) rfl rfl) ?_
            rintro eV4 V4 ⟨p51, c51, rfl, o51, hbV4⟩
            have hzV4 := hbV4.size
            refine ⟨_, rfl, ?_⟩
            replace b2 := (b2.past hbV4)
            replace b3 := (b3.past hbV4)
            refine hKx.out _ _ ⟨b2, b3⟩ ?_
            clear hKx Kx
            refine sxr [16] ?_
            refine rd1 (fun Kx hKx => ?_)
            replace hp := (hp.past (bthru (bthru (bthru hbV1 hbV2) hbV3) hbV4))
            refine yck 52 (cmp_any p p51 _ _ c c51 x (2 ^ 63) V4 hp.rd o51.rd rfl rfl (by omega) (by omega)) ?_
            rintro eV5 V5 ⟨rfl, hbV5⟩
            have hzV5 := hbV5.size
            refine ⟨_, rfl, ?_⟩
            replace b2 := (b2.past hbV5)
            replace b3 := (b3.past hbV5)
            refine hKx.out _ _ ⟨b2, b3⟩ ?_
            clear hKx Kx
            refine tk 17 53 (.bool true) ⟨b2, b3⟩ ?_ (hy := fun w' _ => ((show _ = Result.ok (Next.value (.bool ((cmpN x (2 ^ 63)) == 0))) _ from (by kernel_rfl)).trans (congrArg (fun z => Result.ok (Next.value (.bool z)) _) (show ((cmpN x (2 ^ 63)) == 0) = true from by rw [hcm]; rfl))))
            refine yt 0 [18, 19] rfl ⟨b2, b3⟩ ?_
            refine sx_done (by kernel_rfl) ?_
            refine sx_then ?_
            refine yT ?_
            refine yq ?_
            refine wp_ret ?_
            repeat (first | with_reducible refine sx_thenret ?_ | with_reducible refine sx_blockret ?_)
            refine yret (.tuple #[.int .i64 3, .slice none 0 0, .int .i64 0]) (res3 Tryd.results107 rvt rvt rvt) ?_
            exact givesC_none (k := 3) rfl (bthru (bthru (bthru (bthru hbV1 hbV2) hbV3) hbV4) hbV5)
          · have hD : f.dec g e x = ⟨4, 0, 0⟩ := by unfold Fm.dec; rw [if_neg f2, if_pos ⟨f1, hl⟩, if_neg (by simp [hex]; omega)]
            have hcm : (cmpN x (2 ^ 63) == 0) = false := by rw [beq_eq_false_iff_ne]; intro h; exact h0 (cmpN_zero h)
            rw [hD]
            generalize 2 ^ f.E = P at *
            have hT3 : SxOne Tryd.prog 3 := sxOne_of (by kernel_rfl) (by kernel_rfl)
            have hT4 : SxOne Tryd.prog 4 := sxOne_of (by kernel_rfl) (by kernel_rfl)
            have hT23 : SxOne Tryd.prog 23 := sxOne_of (by kernel_rfl) (by kernel_rfl)
            refine calls_of_wp Tryd.func107 rfl ?_
            refine sx_frame (a' := ⟨((.agg #[.int .i64 ((f.size : Nat) : Int), .int .i64 ((f.E : Nat) : Int), .int .i64 ((f.F : Nat) : Int), .int .i64 f.g.rad, .int .i64 f.g.digs, .int .i64 f.g.lo, .int .i64 f.g.hi, .bool f.g.grad, .bool f.hid, .bool f.inf, .bool f.res, .func (.func (ordF f)) #[] #[]]) :: (.agg #[.bool g, .int .i64 ((e : Nat) : Int), .slice p (dig B32 x).length c]) :: us 97 []).toArray, []⟩) (by kernel_rfl) ?_
            refine ye ?_
            refine yw 0 rfl 2 #[.int .i64 ((f.size : Nat) : Int), .int .i64 ((f.E : Nat) : Int), .int .i64 ((f.F : Nat) : Int), .int .i64 f.g.rad, .int .i64 f.g.digs, .int .i64 f.g.lo, .int .i64 f.g.hi, .bool f.g.grad, .bool f.hid, .bool f.inf, .bool f.res, .func (.func (ordF f)) #[] #[]] 116 (fun V1 hbV1 hzV1 b2 => ?_)
            refine yw 0 rfl 3 #[.bool g, .int .i64 ((e : Nat) : Int), .slice p (dig B32 x).length c] 137 (fun V2 hbV2 hzV2 b3 => ?_)
            refine yzt 3 ?_
            refine ye ?_
            replace b2 := (b2.past hbV2)
            refine yl 1 rfl 10 b2 hT3 1 ?_
            refine yv 0 rfl 11 (.int .i64 ((P : Nat) : Int)) ?_ (exec_shl (X := (1)) (Y := ((f.E : Nat) : Int)) (k2 := .i64) ((P : Nat) : Int) (by kernel_rfl) (by kernel_rfl) (by omega) ((HSH.out)))
            refine ya 0 rfl 12 .i64 (((P : Nat) : Int) - 1) (((P - 1 : Nat) : Int)) ((by rw [show (((P : Nat) : Int) - 1) = ((P - 1 : Nat) : Int) by omega]; exact IntWalk.i64_in _ (by omega))) ?_
            refine yzt 1 ?_
            refine ye ?_
            refine yl 2 rfl 15 b2 hT3 5 ?_
            refine yzt 1 ?_
            refine wp_seq ?_
            refine wp_block ?_
            refine ye ?_
            refine yl 2 rfl 19 b2 hT3 3 ?_
            refine yb 0 rfl 20 (f.g.rad == 16) (false) (hr) ?_
            refine yzt 1 ?_
            refine yF ?_
            refine ye ?_
            refine ylb 1 rfl 29 b2 hT4 9 (f.inf) true (hinf) ?_
            refine yl 2 rfl 32 b3 hT3 1 ?_
            refine yb 1 rfl 34 (((e : Nat) : Int) == ((P - 1 : Nat) : Int)) (true) (beq_iff_eq.2 (by omega)) ?_
            refine yzt 2 ?_
            refine yT ?_
            refine wp_seq ?_
            refine wp_seq ?_
            obtain ⟨V3, hVV3, hbV3, hzV3⟩ := drew_of V2
            replace b2 := (b2.past hbV3)
            replace b3 := (b3.past hbV3)
            refine yd2 hVV3 ⟨b2, b3⟩ ?_
            clear hVV3
            refine yt 19 [0] rfl ⟨b2, b3⟩ ?_
            refine tk 1 37 (.bool false) ⟨b2, b3⟩ ?_ (hy := fun w' hS => ((show _ = Result.ok (Next.value (.bool (f.hid))) _ from (exec_ld (by kernel_rfl) (run_ld1 hS.1 hT4 8 (.bool f.hid) (by kernel_rfl)))).trans (congrArg (fun z => Result.ok (Next.value (.bool z)) _) (show (f.hid) = false from hhid))))
            refine yt 10 [2, 3, 4, 5, 6, 7, 8, 9] rfl ⟨b2, b3⟩ ?_
            refine tk 10 46 (.bool false) ⟨b2, b3⟩ ?_ (hy := fun w' hS => ((show _ = Result.ok (Next.value (.bool (f.hid))) _ from (exec_ld (by kernel_rfl) (run_ld1 hS.1 hT4 8 (.bool f.hid) (by kernel_rfl)))).trans (congrArg (fun z => Result.ok (Next.value (.bool z)) _) (show (f.hid) = false from hhid))))
            refine yt 6 [11, 12, 13] rfl ⟨b2, b3⟩ ?_
            refine ytl 14 rfl 50 (fun _ h => h.2) hT23 2 ⟨b2, b3⟩ ?_
            refine sxr [15] ?_
            refine rd1 (fun Kx hKx => ?_)
            refine yck 51 (two_any 63 (2 ^ 63) 63 V3 (by omega) rfl rfl) ?_
            rintro eV4 V4 ⟨p51, c51, rfl, o51, hbV4⟩
            have hzV4 := hbV4.size
            refine ⟨_, rfl, ?_⟩
            replace b2 := (b2.past hbV4)
            replace b3 := (b3.past hbV4)
            refine hKx.out _ _ ⟨b2, b3⟩ ?_
            clear hKx Kx
            refine sxr [16] ?_
            refine rd1 (fun Kx hKx => ?_)
            replace hp := (hp.past (bthru (bthru (bthru hbV1 hbV2) hbV3) hbV4))
            refine yck 52 (cmp_any p p51 _ _ c c51 x (2 ^ 63) V4 hp.rd o51.rd rfl rfl (by omega) (by omega)) ?_
            rintro eV5 V5 ⟨rfl, hbV5⟩
            have hzV5 := hbV5.size
            refine ⟨_, rfl, ?_⟩
            replace b2 := (b2.past hbV5)
            replace b3 := (b3.past hbV5)
            refine hKx.out _ _ ⟨b2, b3⟩ ?_
            clear hKx Kx
            refine tk 17 53 (.bool false) ⟨b2, b3⟩ ?_ (hy := fun w' _ => ((show _ = Result.ok (Next.value (.bool ((cmpN x (2 ^ 63)) == 0))) _ from (by kernel_rfl)).trans (congrArg (fun z => Result.ok (Next.value (.bool z)) _) (show ((cmpN x (2 ^ 63)) == 0) = false from hcm))))
            refine yt 0 [18, 19] rfl ⟨b2, b3⟩ ?_
            refine sx_done (by kernel_rfl) ?_
            refine sx_then ?_
            refine yF ?_
            refine wp_skip ?_
            refine sx_then ?_
            refine yq ?_
            refine wp_ret ?_
            repeat (first | with_reducible refine sx_thenret ?_ | with_reducible refine sx_blockret ?_)
            refine yret (.tuple #[.int .i64 4, .slice none 0 0, .int .i64 0]) (res3 Tryd.results107 rvt rvt rvt) ?_
            exact givesC_none (k := 4) rfl (bthru (bthru (bthru (bthru hbV1 hbV2) hbV3) hbV4) hbV5)
      · by_cases h0 : e = 0
        · have hD : f.dec g e x = ⟨2, x, f.g.lo⟩ := by unfold Fm.dec; rw [if_neg f2, if_neg (fun h => hl h.2), if_neg (by omega), if_pos h0]
          rw [hD]
          generalize 2 ^ f.E = P at *
          have hT3 : SxOne Tryd.prog 3 := sxOne_of (by kernel_rfl) (by kernel_rfl)
          have hT4 : SxOne Tryd.prog 4 := sxOne_of (by kernel_rfl) (by kernel_rfl)
          have hT23 : SxOne Tryd.prog 23 := sxOne_of (by kernel_rfl) (by kernel_rfl)
          refine calls_of_wp Tryd.func107 rfl ?_
          refine sx_frame (a' := ⟨((.agg #[.int .i64 ((f.size : Nat) : Int), .int .i64 ((f.E : Nat) : Int), .int .i64 ((f.F : Nat) : Int), .int .i64 f.g.rad, .int .i64 f.g.digs, .int .i64 f.g.lo, .int .i64 f.g.hi, .bool f.g.grad, .bool f.hid, .bool f.inf, .bool f.res, .func (.func (ordF f)) #[] #[]]) :: (.agg #[.bool g, .int .i64 ((e : Nat) : Int), .slice p (dig B32 x).length c]) :: us 97 []).toArray, []⟩) (by kernel_rfl) ?_
          refine ye ?_
          refine yw 0 rfl 2 #[.int .i64 ((f.size : Nat) : Int), .int .i64 ((f.E : Nat) : Int), .int .i64 ((f.F : Nat) : Int), .int .i64 f.g.rad, .int .i64 f.g.digs, .int .i64 f.g.lo, .int .i64 f.g.hi, .bool f.g.grad, .bool f.hid, .bool f.inf, .bool f.res, .func (.func (ordF f)) #[] #[]] 116 (fun V1 hbV1 hzV1 b2 => ?_)
          refine yw 0 rfl 3 #[.bool g, .int .i64 ((e : Nat) : Int), .slice p (dig B32 x).length c] 137 (fun V2 hbV2 hzV2 b3 => ?_)
          refine yzt 3 ?_
          refine ye ?_
          replace b2 := (b2.past hbV2)
          refine yl 1 rfl 10 b2 hT3 1 ?_
          refine yv 0 rfl 11 (.int .i64 ((P : Nat) : Int)) ?_ (exec_shl (X := (1)) (Y := ((f.E : Nat) : Int)) (k2 := .i64) ((P : Nat) : Int) (by kernel_rfl) (by kernel_rfl) (by omega) ((HSH.out)))
          refine ya 0 rfl 12 .i64 (((P : Nat) : Int) - 1) (((P - 1 : Nat) : Int)) ((by rw [show (((P : Nat) : Int) - 1) = ((P - 1 : Nat) : Int) by omega]; exact IntWalk.i64_in _ (by omega))) ?_
          refine yzt 1 ?_
          refine ye ?_
          refine yl 2 rfl 15 b2 hT3 5 ?_
          refine yzt 1 ?_
          refine wp_seq ?_
          refine wp_block ?_
          refine ye ?_
          refine yl 2 rfl 19 b2 hT3 3 ?_
          refine yb 0 rfl 20 (f.g.rad == 16) (false) (hr) ?_
          refine yzt 1 ?_
          refine yF ?_
          refine ye ?_
          refine ylb 1 rfl 29 b2 hT4 9 (f.inf) true (hinf) ?_
          refine yl 2 rfl 32 b3 hT3 1 ?_
          refine yb 1 rfl 34 (((e : Nat) : Int) == ((P - 1 : Nat) : Int)) (false) (beq_eq_false_iff_ne.2 (by omega)) ?_
          refine yzt 2 ?_
          refine yF ?_
          refine ye ?_
          refine yl 1 rfl 58 b3 hT3 1 ?_
          refine yb 0 rfl 59 (((e : Nat) : Int) == 0) (true) (beq_iff_eq.2 (by omega)) ?_
          refine ylb 2 rfl 62 b2 hT4 10 (f.res) false (hres) ?_
          refine yzt 2 ?_
          refine yF ?_
          refine ye ?_
          refine yl 1 rfl 68 b3 hT3 1 ?_
          refine yb 0 rfl 69 (((e : Nat) : Int) == 0) (true) (beq_iff_eq.2 (by omega)) ?_
          refine yzt 1 ?_
          refine yT ?_
          refine wp_seq ?_
          obtain ⟨V3, hVV3, hbV3, hzV3⟩ := drew_of V2
          replace b3 := (b3.past hbV3)
          refine yd1 hVV3 b3 ?_
          clear hVV3
          refine yt 5 [0] rfl b3 ?_
          refine ytl 1 rfl 71 (fun _ h => h) hT23 2 b3 ?_
          refine yt 0 [2, 3, 4, 5] rfl b3 ?_
          refine sx_done (by kernel_rfl) ?_
          refine sx_then ?_
          refine wp_ret ?_
          repeat (first | with_reducible refine sx_thenret ?_ | with_reducible refine sx_blockret ?_)
          refine yret (.tuple #[.int .i64 2, .slice p (dig B32 x).length c, .int .i64 f.g.lo]) (res3 Tryd.results107 rvt rvt rvt) ?_
          replace hp := (hp.past (bthru (bthru hbV1 hbV2) hbV3))
          exact ⟨p, c, rfl, hp, (bthru (bthru hbV1 hbV2) hbV3)⟩
        · by_cases hex : f.ext = false
          · have hhid : f.hid = true := by unfold Fm.hid; rw [f1, hex]; rfl
            have hD : f.dec g e x = ⟨2, x + 2 ^ f.F, f.g.lo + e - 1⟩ := by unfold Fm.dec; rw [if_neg f2, if_neg (fun h => hl h.2), if_neg (by omega), if_neg h0, if_pos hex]
            have hlF : (dig B32 (2 ^ f.F)).length ≤ 3 := dig_le_pow (n := f.F + 1) (Nat.pow_lt_pow_right (by omega) (by omega)) (by omega)
            rw [hD]
            generalize 2 ^ f.E = P at *
            have hT3 : SxOne Tryd.prog 3 := sxOne_of (by kernel_rfl) (by kernel_rfl)
            have hT4 : SxOne Tryd.prog 4 := sxOne_of (by kernel_rfl) (by kernel_rfl)
            have hT23 : SxOne Tryd.prog 23 := sxOne_of (by kernel_rfl) (by kernel_rfl)
            refine calls_of_wp Tryd.func107 rfl ?_
            refine sx_frame (a' := ⟨((.agg #[.int .i64 ((f.size : Nat) : Int), .int .i64 ((f.E : Nat) : Int), .int .i64 ((f.F : Nat) : Int), .int .i64 f.g.rad, .int .i64 f.g.digs, .int .i64 f.g.lo, .int .i64 f.g.hi, .bool f.g.grad, .bool f.hid, .bool f.inf, .bool f.res, .func (.func (ordF f)) #[] #[]]) :: (.agg #[.bool g, .int .i64 ((e : Nat) : Int), .slice p (dig B32 x).length c]) :: us 97 []).toArray, []⟩) (by kernel_rfl) ?_
            refine ye ?_
            refine yw 0 rfl 2 #[.int .i64 ((f.size : Nat) : Int), .int .i64 ((f.E : Nat) : Int), .int .i64 ((f.F : Nat) : Int), .int .i64 f.g.rad, .int .i64 f.g.digs, .int .i64 f.g.lo, .int .i64 f.g.hi, .bool f.g.grad, .bool f.hid, .bool f.inf, .bool f.res, .func (.func (ordF f)) #[] #[]] 116 (fun V1 hbV1 hzV1 b2 => ?_)
            refine yw 0 rfl 3 #[.bool g, .int .i64 ((e : Nat) : Int), .slice p (dig B32 x).length c] 137 (fun V2 hbV2 hzV2 b3 => ?_)
            refine yzt 3 ?_
            refine ye ?_
            replace b2 := (b2.past hbV2)
            refine yl 1 rfl 10 b2 hT3 1 ?_
            refine yv 0 rfl 11 (.int .i64 ((P : Nat) : Int)) ?_ (exec_shl (X := (1)) (Y := ((f.E : Nat) : Int)) (k2 := .i64) ((P : Nat) : Int) (by kernel_rfl) (by kernel_rfl) (by omega) ((HSH.out)))
            refine ya 0 rfl 12 .i64 (((P : Nat) : Int) - 1) (((P - 1 : Nat) : Int)) ((by rw [show (((P : Nat) : Int) - 1) = ((P - 1 : Nat) : Int) by omega]; exact IntWalk.i64_in _ (by omega))) ?_
            refine yzt 1 ?_
            refine ye ?_
            refine yl 2 rfl 15 b2 hT3 5 ?_
            refine yzt 1 ?_
            refine wp_seq ?_
            refine wp_block ?_
            refine ye ?_
            refine yl 2 rfl 19 b2 hT3 3 ?_
            refine yb 0 rfl 20 (f.g.rad == 16) (false) (hr) ?_
            refine yzt 1 ?_
            refine yF ?_
            refine ye ?_
            refine ylb 1 rfl 29 b2 hT4 9 (f.inf) true (hinf) ?_
            refine yl 2 rfl 32 b3 hT3 1 ?_
            refine yb 1 rfl 34 (((e : Nat) : Int) == ((P - 1 : Nat) : Int)) (false) (beq_eq_false_iff_ne.2 (by omega)) ?_
            refine yzt 2 ?_
            refine yF ?_
            refine ye ?_
            refine yl 1 rfl 58 b3 hT3 1 ?_
            refine yb 0 rfl 59 (((e : Nat) : Int) == 0) (false) (beq_eq_false_iff_ne.2 (by omega)) ?_
            refine yzt 5 ?_
            refine yF ?_
            refine ye ?_
            refine yl 1 rfl 68 b3 hT3 1 ?_
            refine yb 0 rfl 69 (((e : Nat) : Int) == 0) (false) (beq_eq_false_iff_ne.2 (by omega)) ?_
            refine yzt 1 ?_
            refine yF ?_
            refine ye ?_
            refine ylb 1 rfl 75 b2 hT4 8 (f.hid) true (hhid) ?_
            refine yzt 1 ?_
            refine yT ?_
            refine wp_seq ?_
            obtain ⟨V3, hVV3, hbV3, hzV3⟩ := drew_of V2
            replace b3 := (b3.past hbV3)
            replace b2 := (b2.past hbV3)
            refine yd2 hVV3 ⟨b3, b2⟩ ?_
            clear hVV3
            refine yt 13 [0] rfl ⟨b3, b2⟩ ?_
            refine ytl 1 rfl 77 (fun _ h => h.1) hT23 2 ⟨b3, b2⟩ ?_
            refine yt 11 [2] rfl ⟨b3, b2⟩ ?_
            refine ytl 3 rfl 79 (fun _ h => h.2) hT3 2 ⟨b3, b2⟩ ?_
            refine yt 8 [6, 7] rfl ⟨b3, b2⟩ ?_
            refine ytl 8 rfl 84 (fun _ h => h.1) hT3 1 ⟨b3, b2⟩ ?_
            refine tk 9 85 (.int .i64 (f.g.lo + ((e : Nat) : Int))) ⟨b3, b2⟩ ?_ (hy := fun w' _ => ((show _ = Result.ok (Next.value (.int .i64 (IntKind.wrap .i64 (f.g.lo + ((e : Nat) : Int))))) _ by kernel_rfl).trans (congrArg (fun z => Result.ok (Next.value (.int .i64 z)) _) (IntWalk.i64_in _ (by omega)))))
            refine tk 10 86 (.int .i64 ((f.g.lo + ((e : Nat) : Int)) - 1)) ⟨b3, b2⟩ ?_ (hy := fun w' _ => ((show _ = Result.ok (Next.value (.int .i64 (IntKind.wrap .i64 ((f.g.lo + ((e : Nat) : Int)) - 1)))) _ by kernel_rfl).trans (congrArg (fun z => Result.ok (Next.value (.int .i64 z)) _) (IntWalk.i64_in _ (by omega)))))
            refine sxr [4] ?_
            refine rd1 (fun Kx hKx => ?_)
            refine yck 80 (two_any f.F (2 ^ f.F) _ V3 (by omega) rfl rfl) ?_
            rintro eV4 V4 ⟨p80, c80, rfl, o80, hbV4⟩
            have hzV4 := hbV4.size
            refine ⟨_, rfl, ?_⟩
            replace b3 := (b3.past hbV4)
            replace b2 := (b2.past hbV4)
            refine hKx.out _ _ ⟨b3, b2⟩ ?_
            clear hKx Kx
            refine sxr [5] ?_
            refine rd1 (fun Kx hKx => ?_)
            replace hp := (hp.past (bthru (bthru (bthru hbV1 hbV2) hbV3) hbV4))
            refine yck 81 (sadd p p80 _ _ c c80 x (2 ^ f.F) (x + 2 ^ f.F) V4 hp.rd o80.rd rfl rfl (by omega) (by omega) rfl) ?_
            rintro eV5 V5 ⟨p81, c81, rfl, o81, hbV5⟩
            have hzV5 := hbV5.size
            refine ⟨_, rfl, ?_⟩
            replace b3 := (b3.past hbV5)
            replace b2 := (b2.past hbV5)
            refine hKx.out _ _ ⟨b3, b2⟩ ?_
            clear hKx Kx
            refine yt 0 [11, 12, 13] rfl ⟨b3, b2⟩ ?_
            refine sx_done (by kernel_rfl) ?_
            refine sx_then ?_
            refine wp_ret ?_
            repeat (first | with_reducible refine sx_thenret ?_ | with_reducible refine sx_blockret ?_)
            refine yret (.tuple #[.int .i64 2, .slice p81 (dig B32 (x + 2 ^ f.F)).length c81, .int .i64 ((f.g.lo + ((e : Nat) : Int)) - 1)]) (res3 Tryd.results107 rvt rvt rvt) ?_
            exact ⟨p81, c81, rfl, o81.mono (by omega), (bthru (bthru (bthru (bthru hbV1 hbV2) hbV3) hbV4) hbV5)⟩
          · have hex : f.ext = true := by simpa using hex
            have hhid : f.hid = false := by unfold Fm.hid; rw [f1, hex]; rfl
            by_cases h63 : x < 2 ^ 63
            · have hD : f.dec g e x = ⟨4, 0, 0⟩ := by unfold Fm.dec; rw [if_neg f2, if_neg (fun h => hl h.2), if_neg (by omega), if_neg h0, if_neg (by simp [hex]), if_pos h63]
              have hbl : blen x < 64 := by have := (blen_le x 63).2 h63; omega
              rw [hD]
              generalize 2 ^ f.E = P at *
              have hT3 : SxOne Tryd.prog 3 := sxOne_of (by kernel_rfl) (by kernel_rfl)
              have hT4 : SxOne Tryd.prog 4 := sxOne_of (by kernel_rfl) (by kernel_rfl)
              have hT23 : SxOne Tryd.prog 23 := sxOne_of (by kernel_rfl) (by kernel_rfl)
              refine calls_of_wp Tryd.func107 rfl ?_
              refine sx_frame (a' := ⟨((.agg #[.int .i64 ((f.size : Nat) : Int), .int .i64 ((f.E : Nat) : Int), .int .i64 ((f.F : Nat) : Int), .int .i64 f.g.rad, .int .i64 f.g.digs, .int .i64 f.g.lo, .int .i64 f.g.hi, .bool f.g.grad, .bool f.hid, .bool f.inf, .bool f.res, .func (.func (ordF f)) #[] #[]]) :: (.agg #[.bool g, .int .i64 ((e : Nat) : Int), .slice p (dig B32 x).length c]) :: us 97 []).toArray, []⟩) (by kernel_rfl) ?_
              refine ye ?_
              refine yw 0 rfl 2 #[.int .i64 ((f.size : Nat) : Int), .int .i64 ((f.E : Nat) : Int), .int .i64 ((f.F : Nat) : Int), .int .i64 f.g.rad, .int .i64 f.g.digs, .int .i64 f.g.lo, .int .i64 f.g.hi, .bool f.g.grad, .bool f.hid, .bool f.inf, .bool f.res, .func (.func (ordF f)) #[] #[]] 116 (fun V1 hbV1 hzV1 b2 => ?_)
              refine yw 0 rfl 3 #[.bool g, .int .i64 ((e : Nat) : Int), .slice p (dig B32 x).length c] 137 (fun V2 hbV2 hzV2 b3 => ?_)
              refine yzt 3 ?_
              refine ye ?_
              replace b2 := (b2.past hbV2)
              refine yl 1 rfl 10 b2 hT3 1 ?_
              refine yv 0 rfl 11 (.int .i64 ((P : Nat) : Int)) ?_ (exec_shl (X := (1)) (Y := ((f.E : Nat) : Int)) (k2 := .i64) ((P : Nat) : Int) (by kernel_rfl) (by kernel_rfl) (by omega) ((HSH.out)))
              refine ya 0 rfl 12 .i64 (((P : Nat) : Int) - 1) (((P - 1 : Nat) : Int)) ((by rw [show (((P : Nat) : Int) - 1) = ((P - 1 : Nat) : Int) by omega]; exact IntWalk.i64_in _ (by omega))) ?_
              refine yzt 1 ?_
              refine ye ?_
              refine yl 2 rfl 15 b2 hT3 5 ?_
              refine yzt 1 ?_
              refine wp_seq ?_
              refine wp_block ?_
              refine ye ?_
              refine yl 2 rfl 19 b2 hT3 3 ?_
              refine yb 0 rfl 20 (f.g.rad == 16) (false) (hr) ?_
              refine yzt 1 ?_
              refine yF ?_
              refine ye ?_
              refine ylb 1 rfl 29 b2 hT4 9 (f.inf) true (hinf) ?_
              refine yl 2 rfl 32 b3 hT3 1 ?_
              refine yb 1 rfl 34 (((e : Nat) : Int) == ((P - 1 : Nat) : Int)) (false) (beq_eq_false_iff_ne.2 (by omega)) ?_
              refine yzt 2 ?_
              refine yF ?_
              refine ye ?_
              refine yl 1 rfl 58 b3 hT3 1 ?_
              refine yb 0 rfl 59 (((e : Nat) : Int) == 0) (false) (beq_eq_false_iff_ne.2 (by omega)) ?_
              refine yzt 5 ?_
              refine yF ?_
              refine ye ?_
              refine yl 1 rfl 68 b3 hT3 1 ?_
              refine yb 0 rfl 69 (((e : Nat) : Int) == 0) (false) (beq_eq_false_iff_ne.2 (by omega)) ?_
              refine yzt 1 ?_
              refine yF ?_
              refine ye ?_
              refine ylb 1 rfl 75 b2 hT4 8 (f.hid) false (hhid) ?_
              refine yzt 1 ?_
              refine yF ?_
              refine ye ?_
              refine yl 1 rfl 89 b3 hT23 2 ?_
              replace hp := (hp.past (bthru hbV1 hbV2))
              refine yc 0 rfl 90 (stay (len_any p _ c x V2 hp.rd rfl (by omega))) (fun Gx hGx => ?_)
              rintro eV3 V3 ⟨rfl, hbV3⟩
              have hzV3 := hbV3.size
              refine ⟨_, rfl, hGx _ _ ?_⟩
              clear hGx Gx
              refine yb 0 rfl 91 (decide (((blen x : Nat) : Int) < 64)) (true) (decide_eq_true (by omega)) ?_
              refine yzt 1 ?_
              refine yT ?_
              refine yq ?_
              refine wp_ret ?_
              repeat (first | with_reducible refine sx_thenret ?_ | with_reducible refine sx_blockret ?_)
              refine yret (.tuple #[.int .i64 4, .slice none 0 0, .int .i64 0]) (res3 Tryd.results107 rvt rvt rvt) ?_
              exact givesC_none (k := 4) rfl (bthru (bthru hbV1 hbV2) hbV3)
            · have hD : f.dec g e x = ⟨2, x, f.g.lo + e - 1⟩ := by unfold Fm.dec; rw [if_neg f2, if_neg (fun h => hl h.2), if_neg (by omega), if_neg h0, if_neg (by simp [hex]), if_neg h63]
              have hbl : 64 ≤ blen x := by have := (blen_le x 63).1; omega
              rw [hD]
              generalize 2 ^ f.E = P at *
              have hT3 : SxOne Tryd.prog 3 := sxOne_of (by kernel_rfl) (by kernel_rfl)
              have hT4 : SxOne Tryd.prog 4 := sxOne_of (by kernel_rfl) (by kernel_rfl)
              have hT23 : SxOne Tryd.prog 23 := sxOne_of (by kernel_rfl) (by kernel_rfl)
              refine calls_of_wp Tryd.func107 rfl ?_
              refine sx_frame (a' := ⟨((.agg #[.int .i64 ((f.size : Nat) : Int), .int .i64 ((f.E : Nat) : Int), .int .i64 ((f.F : Nat) : Int), .int .i64 f.g.rad, .int .i64 f.g.digs, .int .i64 f.g.lo, .int .i64 f.g.hi, .bool f.g.grad, .bool f.hid, .bool f.inf, .bool f.res, .func (.func (ordF f)) #[] #[]]) :: (.agg #[.bool g, .int .i64 ((e : Nat) : Int), .slice p (dig B32 x).length c]) :: us 97 []).toArray, []⟩) (by kernel_rfl) ?_
              refine ye ?_
              refine yw 0 rfl 2 #[.int .i64 ((f.size : Nat) : Int), .int .i64 ((f.E : Nat) : Int), .int .i64 ((f.F : Nat) : Int), .int .i64 f.g.rad, .int .i64 f.g.digs, .int .i64 f.g.lo, .int .i64 f.g.hi, .bool f.g.grad, .bool f.hid, .bool f.inf, .bool f.res, .func (.func (ordF f)) #[] #[]] 116 (fun V1 hbV1 hzV1 b2 => ?_)
              refine yw 0 rfl 3 #[.bool g, .int .i64 ((e : Nat) : Int), .slice p (dig B32 x).length c] 137 (fun V2 hbV2 hzV2 b3 => ?_)
              refine yzt 3 ?_
              refine ye ?_
              replace b2 := (b2.past hbV2)
              refine yl 1 rfl 10 b2 hT3 1 ?_
              refine yv 0 rfl 11 (.int .i64 ((P : Nat) : Int)) ?_ (exec_shl (X := (1)) (Y := ((f.E : Nat) : Int)) (k2 := .i64) ((P : Nat) : Int) (by kernel_rfl) (by kernel_rfl) (by omega) ((HSH.out)))
              refine ya 0 rfl 12 .i64 (((P : Nat) : Int) - 1) (((P - 1 : Nat) : Int)) ((by rw [show (((P : Nat) : Int) - 1) = ((P - 1 : Nat) : Int) by omega]; exact IntWalk.i64_in _ (by omega))) ?_
              refine yzt 1 ?_
              refine ye ?_
              refine yl 2 rfl 15 b2 hT3 5 ?_
              refine yzt 1 ?_
              refine wp_seq ?_
              refine wp_block ?_
              refine ye ?_
              refine yl 2 rfl 19 b2 hT3 3 ?_
              refine yb 0 rfl 20 (f.g.rad == 16) (false) (hr) ?_
              refine yzt 1 ?_
              refine yF ?_
              refine ye ?_
              refine ylb 1 rfl 29 b2 hT4 9 (f.inf) true (hinf) ?_
              refine yl 2 rfl 32 b3 hT3 1 ?_
              refine yb 1 rfl 34 (((e : Nat) : Int) == ((P - 1 : Nat) : Int)) (false) (beq_eq_false_iff_ne.2 (by omega)) ?_
              refine yzt 2 ?_
              refine yF ?_
              refine ye ?_
              refine yl 1 rfl 58 b3 hT3 1 ?_
              refine yb 0 rfl 59 (((e : Nat) : Int) == 0) (false) (beq_eq_false_iff_ne.2 (by omega)) ?_
              refine yzt 5 ?_
              refine yF ?_
              refine ye ?_
              refine yl 1 rfl 68 b3 hT3 1 ?_
              refine yb 0 rfl 69 (((e : Nat) : Int) == 0) (false) (beq_eq_false_iff_ne.2 (by omega)) ?_
              refine yzt 1 ?_
              refine yF ?_
              refine ye ?_
              refine ylb 1 rfl 75 b2 hT4 8 (f.hid) false (hhid) ?_
              refine yzt 1 ?_
              refine yF ?_
              refine ye ?_
              refine yl 1 rfl 89 b3 hT23 2 ?_
              replace hp := (hp.past (bthru hbV1 hbV2))
              refine yc 0 rfl 90 (stay (len_any p _ c x V2 hp.rd rfl (by omega))) (fun Gx hGx => ?_)
              rintro eV3 V3 ⟨rfl, hbV3⟩
              have hzV3 := hbV3.size
              refine ⟨_, rfl, hGx _ _ ?_⟩
              clear hGx Gx
              refine yb 0 rfl 91 (decide (((blen x : Nat) : Int) < 64)) (false) (decide_eq_false (by omega)) ?_
              refine yzt 1 ?_
              refine yF ?_
              refine wp_skip ?_
              refine sx_inblock ?_
              refine sx_then ?_
              refine wp_seq ?_
              replace b3 := (b3.past hbV3)
              obtain ⟨V4, hVV4, hbV4, hzV4⟩ := drew_of V3
              replace b3 := (b3.past hbV4)
              refine yd1 hVV4 b3 ?_
              clear hVV4
              refine yt 9 [0] rfl b3 ?_
              refine ytl 1 rfl 93 (fun _ h => h) hT23 2 b3 ?_
              refine yt 6 [2, 3] rfl b3 ?_
              refine ytl 4 rfl 96 (fun _ h => h) hT3 1 b3 ?_
              refine tk 5 97 (.int .i64 (f.g.lo + ((e : Nat) : Int))) b3 ?_ (hy := fun w' _ => ((show _ = Result.ok (Next.value (.int .i64 (IntKind.wrap .i64 (f.g.lo + ((e : Nat) : Int))))) _ by kernel_rfl).trans (congrArg (fun z => Result.ok (Next.value (.int .i64 z)) _) (IntWalk.i64_in _ (by omega)))))
              refine tk 6 98 (.int .i64 ((f.g.lo + ((e : Nat) : Int)) - 1)) b3 ?_ (hy := fun w' _ => ((show _ = Result.ok (Next.value (.int .i64 (IntKind.wrap .i64 ((f.g.lo + ((e : Nat) : Int)) - 1)))) _ by kernel_rfl).trans (congrArg (fun z => Result.ok (Next.value (.int .i64 z)) _) (IntWalk.i64_in _ (by omega)))))
              refine yt 0 [7, 8, 9] rfl b3 ?_
              refine sx_done (by kernel_rfl) ?_
              refine sx_then ?_
              refine wp_ret ?_
              repeat (first | with_reducible refine sx_thenret ?_ | with_reducible refine sx_blockret ?_)
              refine yret (.tuple #[.int .i64 2, .slice p (dig B32 x).length c, .int .i64 ((f.g.lo + ((e : Nat) : Int)) - 1)]) (res3 Tryd.results107 rvt rvt rvt) ?_
              replace hp := (hp.past (bthru hbV3 hbV4))
              exact ⟨p, c, rfl, hp, (bthru (bthru (bthru hbV1 hbV2) hbV3) hbV4)⟩
    · have f3 : f.fam = 3 := by have := G.fam; omega
      have hex : f.ext = false := by
        cases hh : f.ext with
        | false => rfl
        | true => exact absurd (G.ext hh).1 f1
      have hinf : f.inf = false := by unfold Fm.inf; rw [f3]; rfl
      have hres : f.res = true := by unfold Fm.res; rw [f3]; rfl
      have hhid : f.hid = true := by unfold Fm.hid; rw [f3, hex]; rfl
      by_cases h0 : e = 0
      · cases g with
        | true =>
          have hD : f.dec true e x = ⟨5, 0, 0⟩ := by unfold Fm.dec; rw [if_neg f2, if_neg (fun h => f1 h.1), if_pos ⟨f3, h0⟩, if_pos rfl]
          rw [hD]
          generalize 2 ^ f.E = P at *
          have hT3 : SxOne Tryd.prog 3 := sxOne_of (by kernel_rfl) (by kernel_rfl)
          have hT4 : SxOne Tryd.prog 4 := sxOne_of (by kernel_rfl) (by kernel_rfl)
          refine calls_of_wp Tryd.func107 rfl ?_
          refine sx_frame (a' := ⟨((.agg #[.int .i64 ((f.size : Nat) : Int), .int .i64 ((f.E : Nat) : Int), .int .i64 ((f.F : Nat) : Int), .int .i64 f.g.rad, .int .i64 f.g.digs, .int .i64 f.g.lo, .int .i64 f.g.hi, .bool f.g.grad, .bool f.hid, .bool f.inf, .bool f.res, .func (.func (ordF f)) #[] #[]]) :: (.agg #[.bool true, .int .i64 ((e : Nat) : Int), .slice p (dig B32 x).length c]) :: us 97 []).toArray, []⟩) (by kernel_rfl) ?_
          refine ye ?_
          refine yw 0 rfl 2 #[.int .i64 ((f.size : Nat) : Int), .int .i64 ((f.E : Nat) : Int), .int .i64 ((f.F : Nat) : Int), .int .i64 f.g.rad, .int .i64 f.g.digs, .int .i64 f.g.lo, .int .i64 f.g.hi, .bool f.g.grad, .bool f.hid, .bool f.inf, .bool f.res, .func (.func (ordF f)) #[] #[]] 116 (fun V1 hbV1 hzV1 b2 => ?_)
          refine yw 0 rfl 3 #[.bool true, .int .i64 ((e : Nat) : Int), .slice p (dig B32 x).length c] 137 (fun V2 hbV2 hzV2 b3 => ?_)
          refine yzt 3 ?_
          refine ye ?_
          replace b2 := (b2.past hbV2)
          refine yl 1 rfl 10 b2 hT3 1 ?_
          refine yv 0 rfl 11 (.int .i64 ((P : Nat) : Int)) ?_ (exec_shl (X := (1)) (Y := ((f.E : Nat) : Int)) (k2 := .i64) ((P : Nat) : Int) (by kernel_rfl) (by kernel_rfl) (by omega) ((HSH.out)))
          refine ya 0 rfl 12 .i64 (((P : Nat) : Int) - 1) (((P - 1 : Nat) : Int)) ((by rw [show (((P : Nat) : Int) - 1) = ((P - 1 : Nat) : Int) by omega]; exact IntWalk.i64_in _ (by omega))) ?_
          refine yzt 1 ?_
          refine ye ?_
          refine yl 2 rfl 15 b2 hT3 5 ?_
          refine yzt 1 ?_
          refine wp_seq ?_
          refine wp_block ?_
          refine ye ?_
          refine yl 2 rfl 19 b2 hT3 3 ?_
          refine yb 0 rfl 20 (f.g.rad == 16) (false) (hr) ?_
          refine yzt 1 ?_
          refine yF ?_
          refine ye ?_
          refine ylb 1 rfl 29 b2 hT4 9 (f.inf) false (hinf) ?_
          refine yzt 7 ?_
          refine yF ?_
          refine ye ?_
          refine yl 1 rfl 58 b3 hT3 1 ?_
          refine yb 0 rfl 59 (((e : Nat) : Int) == 0) (true) (beq_iff_eq.2 (by omega)) ?_
          refine ylb 2 rfl 62 b2 hT4 10 (f.res) true (hres) ?_
          refine yzt 2 ?_
          refine yT ?_
          refine wp_seq ?_
          refine ye ?_
          refine yl 1 rfl 65 b3 hT4 0 ?_
          refine yzt 0 ?_
          refine yT ?_
          refine yq ?_
          refine wp_ret ?_
          repeat (first | with_reducible refine sx_thenret ?_ | with_reducible refine sx_blockret ?_)
          refine yret (.tuple #[.int .i64 5, .slice none 0 0, .int .i64 0]) (res3 Tryd.results107 rvt rvt rvt) ?_
          exact givesC_none (k := 5) rfl (bthru hbV1 hbV2)
        | false =>
          have hD : f.dec false e x = ⟨1, 0, 0⟩ := by unfold Fm.dec; rw [if_neg f2, if_neg (fun h => f1 h.1), if_pos ⟨f3, h0⟩, if_neg (by simp)]
          rw [hD]
          generalize 2 ^ f.E = P at *
          have hT3 : SxOne Tryd.prog 3 := sxOne_of (by kernel_rfl) (by kernel_rfl)
          have hT4 : SxOne Tryd.prog 4 := sxOne_of (by kernel_rfl) (by kernel_rfl)
          refine calls_of_wp Tryd.func107 rfl ?_
          refine sx_frame (a' := ⟨((.agg #[.int .i64 ((f.size : Nat) : Int), .int .i64 ((f.E : Nat) : Int), .int .i64 ((f.F : Nat) : Int), .int .i64 f.g.rad, .int .i64 f.g.digs, .int .i64 f.g.lo, .int .i64 f.g.hi, .bool f.g.grad, .bool f.hid, .bool f.inf, .bool f.res, .func (.func (ordF f)) #[] #[]]) :: (.agg #[.bool false, .int .i64 ((e : Nat) : Int), .slice p (dig B32 x).length c]) :: us 97 []).toArray, []⟩) (by kernel_rfl) ?_
          refine ye ?_
          refine yw 0 rfl 2 #[.int .i64 ((f.size : Nat) : Int), .int .i64 ((f.E : Nat) : Int), .int .i64 ((f.F : Nat) : Int), .int .i64 f.g.rad, .int .i64 f.g.digs, .int .i64 f.g.lo, .int .i64 f.g.hi, .bool f.g.grad, .bool f.hid, .bool f.inf, .bool f.res, .func (.func (ordF f)) #[] #[]] 116 (fun V1 hbV1 hzV1 b2 => ?_)
          refine yw 0 rfl 3 #[.bool false, .int .i64 ((e : Nat) : Int), .slice p (dig B32 x).length c] 137 (fun V2 hbV2 hzV2 b3 => ?_)
          refine yzt 3 ?_
          refine ye ?_
          replace b2 := (b2.past hbV2)
          refine yl 1 rfl 10 b2 hT3 1 ?_
          refine yv 0 rfl 11 (.int .i64 ((P : Nat) : Int)) ?_ (exec_shl (X := (1)) (Y := ((f.E : Nat) : Int)) (k2 := .i64) ((P : Nat) : Int) (by kernel_rfl) (by kernel_rfl) (by omega) ((HSH.out)))
          refine ya 0 rfl 12 .i64 (((P : Nat) : Int) - 1) (((P - 1 : Nat) : Int)) ((by rw [show (((P : Nat) : Int) - 1) = ((P - 1 : Nat) : Int) by omega]; exact IntWalk.i64_in _ (by omega))) ?_
          refine yzt 1 ?_
          refine ye ?_
          refine yl 2 rfl 15 b2 hT3 5 ?_
          refine yzt 1 ?_
          refine wp_seq ?_
          refine wp_block ?_
          refine ye ?_
          refine yl 2 rfl 19 b2 hT3 3 ?_
          refine yb 0 rfl 20 (f.g.rad == 16) (false) (hr) ?_
          refine yzt 1 ?_
          refine yF ?_
          refine ye ?_
          refine ylb 1 rfl 29 b2 hT4 9 (f.inf) false (hinf) ?_
          refine yzt 7 ?_
          refine yF ?_
          refine ye ?_
          refine yl 1 rfl 58 b3 hT3 1 ?_
          refine yb 0 rfl 59 (((e : Nat) : Int) == 0) (true) (beq_iff_eq.2 (by omega)) ?_
          refine ylb 2 rfl 62 b2 hT4 10 (f.res) true (hres) ?_
          refine yzt 2 ?_
          refine yT ?_
          refine wp_seq ?_
          refine ye ?_
          refine yl 1 rfl 65 b3 hT4 0 ?_
          refine yzt 0 ?_
          refine yF ?_
          refine wp_skip ?_
          refine sx_then ?_
          refine yq ?_
          refine wp_ret ?_
          repeat (first | with_reducible refine sx_thenret ?_ | with_reducible refine sx_blockret ?_)
          refine yret (.tuple #[.int .i64 1, .slice none 0 0, .int .i64 0]) (res3 Tryd.results107 rvt rvt rvt) ?_
          exact givesC_none (k := 1) rfl (bthru hbV1 hbV2)
      · have hD : f.dec g e x = ⟨2, x + 2 ^ f.F, f.g.lo + e - 1⟩ := by unfold Fm.dec; rw [if_neg f2, if_neg (fun h => f1 h.1), if_neg (fun h => h0 h.2), if_neg h0, if_pos hex]
        have hlF : (dig B32 (2 ^ f.F)).length ≤ 3 := dig_le_pow (n := f.F + 1) (Nat.pow_lt_pow_right (by omega) (by omega)) (by omega)
        rw [hD]
        generalize 2 ^ f.E = P at *
        have hT3 : SxOne Tryd.prog 3 := sxOne_of (by kernel_rfl) (by kernel_rfl)
        have hT4 : SxOne Tryd.prog 4 := sxOne_of (by kernel_rfl) (by kernel_rfl)
        have hT23 : SxOne Tryd.prog 23 := sxOne_of (by kernel_rfl) (by kernel_rfl)
        refine calls_of_wp Tryd.func107 rfl ?_
        refine sx_frame (a' := ⟨((.agg #[.int .i64 ((f.size : Nat) : Int), .int .i64 ((f.E : Nat) : Int), .int .i64 ((f.F : Nat) : Int), .int .i64 f.g.rad, .int .i64 f.g.digs, .int .i64 f.g.lo, .int .i64 f.g.hi, .bool f.g.grad, .bool f.hid, .bool f.inf, .bool f.res, .func (.func (ordF f)) #[] #[]]) :: (.agg #[.bool g, .int .i64 ((e : Nat) : Int), .slice p (dig B32 x).length c]) :: us 97 []).toArray, []⟩) (by kernel_rfl) ?_
        refine ye ?_
        refine yw 0 rfl 2 #[.int .i64 ((f.size : Nat) : Int), .int .i64 ((f.E : Nat) : Int), .int .i64 ((f.F : Nat) : Int), .int .i64 f.g.rad, .int .i64 f.g.digs, .int .i64 f.g.lo, .int .i64 f.g.hi, .bool f.g.grad, .bool f.hid, .bool f.inf, .bool f.res, .func (.func (ordF f)) #[] #[]] 116 (fun V1 hbV1 hzV1 b2 => ?_)
        refine yw 0 rfl 3 #[.bool g, .int .i64 ((e : Nat) : Int), .slice p (dig B32 x).length c] 137 (fun V2 hbV2 hzV2 b3 => ?_)
        refine yzt 3 ?_
        refine ye ?_
        replace b2 := (b2.past hbV2)
        refine yl 1 rfl 10 b2 hT3 1 ?_
        refine yv 0 rfl 11 (.int .i64 ((P : Nat) : Int)) ?_ (exec_shl (X := (1)) (Y := ((f.E : Nat) : Int)) (k2 := .i64) ((P : Nat) : Int) (by kernel_rfl) (by kernel_rfl) (by omega) ((HSH.out)))
        refine ya 0 rfl 12 .i64 (((P : Nat) : Int) - 1) (((P - 1 : Nat) : Int)) ((by rw [show (((P : Nat) : Int) - 1) = ((P - 1 : Nat) : Int) by omega]; exact IntWalk.i64_in _ (by omega))) ?_
        refine yzt 1 ?_
        refine ye ?_
        refine yl 2 rfl 15 b2 hT3 5 ?_
        refine yzt 1 ?_
        refine wp_seq ?_
        refine wp_block ?_
        refine ye ?_
        refine yl 2 rfl 19 b2 hT3 3 ?_
        refine yb 0 rfl 20 (f.g.rad == 16) (false) (hr) ?_
        refine yzt 1 ?_
        refine yF ?_
        refine ye ?_
        refine ylb 1 rfl 29 b2 hT4 9 (f.inf) false (hinf) ?_
        refine yzt 7 ?_
        refine yF ?_
        refine ye ?_
        refine yl 1 rfl 58 b3 hT3 1 ?_
        refine yb 0 rfl 59 (((e : Nat) : Int) == 0) (false) (beq_eq_false_iff_ne.2 (by omega)) ?_
        refine yzt 5 ?_
        refine yF ?_
        refine ye ?_
        refine yl 1 rfl 68 b3 hT3 1 ?_
        refine yb 0 rfl 69 (((e : Nat) : Int) == 0) (false) (beq_eq_false_iff_ne.2 (by omega)) ?_
        refine yzt 1 ?_
        refine yF ?_
        refine ye ?_
        refine ylb 1 rfl 75 b2 hT4 8 (f.hid) true (hhid) ?_
        refine yzt 1 ?_
        refine yT ?_
        refine wp_seq ?_
        obtain ⟨V3, hVV3, hbV3, hzV3⟩ := drew_of V2
        replace b3 := (b3.past hbV3)
        replace b2 := (b2.past hbV3)
        refine yd2 hVV3 ⟨b3, b2⟩ ?_
        clear hVV3
        refine yt 13 [0] rfl ⟨b3, b2⟩ ?_
        refine ytl 1 rfl 77 (fun _ h => h.1) hT23 2 ⟨b3, b2⟩ ?_
        refine yt 11 [2] rfl ⟨b3, b2⟩ ?_
        refine ytl 3 rfl 79 (fun _ h => h.2) hT3 2 ⟨b3, b2⟩ ?_
        refine yt 8 [6, 7] rfl ⟨b3, b2⟩ ?_
        refine ytl 8 rfl 84 (fun _ h => h.1) hT3 1 ⟨b3, b2⟩ ?_
        refine tk 9 85 (.int .i64 (f.g.lo + ((e : Nat) : Int))) ⟨b3, b2⟩ ?_ (hy := fun w' _ => ((show _ = Result.ok (Next.value (.int .i64 (IntKind.wrap .i64 (f.g.lo + ((e : Nat) : Int))))) _ by kernel_rfl).trans (congrArg (fun z => Result.ok (Next.value (.int .i64 z)) _) (IntWalk.i64_in _ (by omega)))))
        refine tk 10 86 (.int .i64 ((f.g.lo + ((e : Nat) : Int)) - 1)) ⟨b3, b2⟩ ?_ (hy := fun w' _ => ((show _ = Result.ok (Next.value (.int .i64 (IntKind.wrap .i64 ((f.g.lo + ((e : Nat) : Int)) - 1)))) _ by kernel_rfl).trans (congrArg (fun z => Result.ok (Next.value (.int .i64 z)) _) (IntWalk.i64_in _ (by omega)))))
        refine sxr [4] ?_
        refine rd1 (fun Kx hKx => ?_)
        refine yck 80 (two_any f.F (2 ^ f.F) _ V3 (by omega) rfl rfl) ?_
        rintro eV4 V4 ⟨p80, c80, rfl, o80, hbV4⟩
        have hzV4 := hbV4.size
        refine ⟨_, rfl, ?_⟩
        replace b3 := (b3.past hbV4)
        replace b2 := (b2.past hbV4)
        refine hKx.out _ _ ⟨b3, b2⟩ ?_
        clear hKx Kx
        refine sxr [5] ?_
        refine rd1 (fun Kx hKx => ?_)
        replace hp := (hp.past (bthru (bthru (bthru hbV1 hbV2) hbV3) hbV4))
        refine yck 81 (sadd p p80 _ _ c c80 x (2 ^ f.F) (x + 2 ^ f.F) V4 hp.rd o80.rd rfl rfl (by omega) (by omega) rfl) ?_
        rintro eV5 V5 ⟨p81, c81, rfl, o81, hbV5⟩
        have hzV5 := hbV5.size
        refine ⟨_, rfl, ?_⟩
        replace b3 := (b3.past hbV5)
        replace b2 := (b2.past hbV5)
        refine hKx.out _ _ ⟨b3, b2⟩ ?_
        clear hKx Kx
        refine yt 0 [11, 12, 13] rfl ⟨b3, b2⟩ ?_
        refine sx_done (by kernel_rfl) ?_
        refine sx_then ?_
        refine wp_ret ?_
        repeat (first | with_reducible refine sx_thenret ?_ | with_reducible refine sx_blockret ?_)
        refine yret (.tuple #[.int .i64 2, .slice p81 (dig B32 (x + 2 ^ f.F)).length c81, .int .i64 ((f.g.lo + ((e : Nat) : Int)) - 1)]) (res3 Tryd.results107 rvt rvt rvt) ?_
        exact ⟨p81, c81, rfl, o81.mono (by omega), (bthru (bthru (bthru (bthru hbV1 hbV2) hbV3) hbV4) hbV5)⟩

theorem cbare_any (p : Option Addr) (c x : Nat) (pw : Int) (gg : Gd) (base : Nat) (w : World) (hp : Own w base .u32 91 p c (dig B32 x)) (hl : (dig B32 x).length ≤ 1000) (hpw : -100000 ≤ pw ∧ pw ≤ 100000) (hr : gg.rad = 2 ∨ gg.rad = 16) (hT : TabW w) :
    Calls Tryd.prog 108 #[.slice p (dig B32 x).length c, .int .i64 pw, .int .i64 gg.rad] w
      fun en w' => ∃ q d, en = .returned (.tuple #[.slice q (dig B32 (x / 2 ^ (tz x / wid gg * wid gg))).length d, .int .i64 (pw + (tz x / wid gg : Nat))]) ∧ Own w' w.heap.size .u32 91 q d (dig B32 (x / 2 ^ (tz x / wid gg * wid gg))) ∧ Below w.heap.size w w' := by
  have hz := tz_bd x hl
  rcases hr with hr | hr
  · have hw : wid gg = 1 := by unfold wid; rw [hr]; rfl
    rw [hw]
    generalize htz : tz x = z at *
    have HTZ := Lib.hid htz
    clear htz
    refine calls_of_wp Tryd.func108 rfl ?_
    refine sx_frame (a' := ⟨((.slice p (dig B32 x).length c) :: (.int .i64 pw) :: (.int .i64 gg.rad) :: us 21 []).toArray, []⟩) (by kernel_rfl) ?_
    refine yq ?_
    refine yq ?_
    refine wp_seq ?_
    refine ye ?_
    refine yb 1 rfl 11 (gg.rad == 16) (false) (by rw [hr]; rfl) ?_
    refine yzt 0 ?_
    refine yF ?_
    refine wp_skip ?_
    refine sx_then ?_
    refine ye ?_
    refine yc 1 rfl 13 (stay (zeros_any p _ c x w hp.rd rfl (by omega) hT)) (fun Gx hGx => ?_)
    rintro eV1 V1 ⟨rfl, hbV1⟩
    have hzV1 := hbV1.size
    refine ⟨_, rfl, hGx _ _ ?_⟩
    clear hGx Gx
    refine yv 1 rfl 15 (.int .i64 ((z / 1 : Nat) : Int)) ?_ (exec_quo (X := ((tz x : Nat) : Int)) (Y := (1)) ((z / 1 : Nat) : Int) (by kernel_rfl) (by kernel_rfl) ((by decide)) ((by rw [HTZ.out]; exact (IntWalk.i64_in _ (by simp; omega)).trans (by simp))))
    refine yzt 1 ?_
    refine ye ?_
    refine ya 3 rfl 19 .i64 (((z / 1 : Nat) : Int) * 1) (((z / 1 * 1 : Nat) : Int)) (((IntWalk.i64_in _ (by omega)).trans (by omega))) ?_
    replace hp := (hp.past hbV1)
    refine yc 0 rfl 20 (sshr p _ c x (z / 1 * 1) _ _ V1 hp.rd rfl (by have := hp.le_cap; omega) (by omega) (by omega) rfl rfl) (fun Gx hGx => ?_)
    rintro eV2 V2 ⟨p20, c20, rfl, o20, hbV2⟩
    have hzV2 := hbV2.size
    refine ⟨_, rfl, hGx _ _ ?_⟩
    clear hGx Gx
    refine yi 2 rfl 23 (pw + ((z / 1 : Nat) : Int)) ?_
    refine yzt 2 ?_
    refine wp_ret ?_
    repeat (first | with_reducible refine sx_thenret ?_ | with_reducible refine sx_blockret ?_)
    refine yret (.tuple #[.slice p20 (dig B32 (x / 2 ^ (z / 1 * 1))).length c20, .int .i64 (pw + ((z / 1 : Nat) : Int))]) (res2 Tryd.results108 rvt rvt) ?_
    exact ⟨p20, c20, rfl, o20.mono (by omega), (bthru hbV1 hbV2)⟩
  · have hw : wid gg = 4 := by unfold wid; rw [hr]; rfl
    rw [hw]
    generalize htz : tz x = z at *
    have HTZ := Lib.hid htz
    clear htz
    refine calls_of_wp Tryd.func108 rfl ?_
    refine sx_frame (a' := ⟨((.slice p (dig B32 x).length c) :: (.int .i64 pw) :: (.int .i64 gg.rad) :: us 21 []).toArray, []⟩) (by kernel_rfl) ?_
    refine yq ?_
    refine yq ?_
    refine wp_seq ?_
    refine ye ?_
    refine yb 1 rfl 11 (gg.rad == 16) (true) (by rw [hr]; rfl) ?_
    refine yzt 0 ?_
    refine yT ?_
    refine yr ?_
    refine sx_then ?_
    refine ye ?_
    refine yc 1 rfl 13 (stay (zeros_any p _ c x w hp.rd rfl (by omega) hT)) (fun Gx hGx => ?_)
    rintro eV1 V1 ⟨rfl, hbV1⟩
    have hzV1 := hbV1.size
    refine ⟨_, rfl, hGx _ _ ?_⟩
    clear hGx Gx
    refine yv 1 rfl 15 (.int .i64 ((z / 4 : Nat) : Int)) ?_ (exec_quo (X := ((tz x : Nat) : Int)) (Y := (4)) ((z / 4 : Nat) : Int) (by kernel_rfl) (by kernel_rfl) ((by decide)) ((by rw [HTZ.out, show ((z : Nat) : Int).tdiv 4 = ((z / 4 : Nat) : Int) by rw [Int.tdiv_eq_ediv_of_nonneg (by omega)]; rfl]; exact IntWalk.i64_in _ (by omega))))
    refine yzt 1 ?_
    refine ye ?_
    refine ya 3 rfl 19 .i64 (((z / 4 : Nat) : Int) * 4) (((z / 4 * 4 : Nat) : Int)) (((IntWalk.i64_in _ (by omega)).trans (by omega))) ?_
    replace hp := (hp.past hbV1)
    refine yc 0 rfl 20 (sshr p _ c x (z / 4 * 4) _ _ V1 hp.rd rfl (by have := hp.le_cap; omega) (by omega) (by omega) rfl rfl) (fun Gx hGx => ?_)
    rintro eV2 V2 ⟨p20, c20, rfl, o20, hbV2⟩
    have hzV2 := hbV2.size
    refine ⟨_, rfl, hGx _ _ ?_⟩
    clear hGx Gx
    refine yi 2 rfl 23 (pw + ((z / 4 : Nat) : Int)) ?_
    refine yzt 2 ?_
    refine wp_ret ?_
    repeat (first | with_reducible refine sx_thenret ?_ | with_reducible refine sx_blockret ?_)
    refine yret (.tuple #[.slice p20 (dig B32 (x / 2 ^ (z / 4 * 4))).length c20, .int .i64 (pw + ((z / 4 : Nat) : Int))]) (res2 Tryd.results108 rvt rvt) ?_
    exact ⟨p20, c20, rfl, o20.mono (by omega), (bthru hbV1 hbV2)⟩
end Go.Proofs.YtcipdimogodndaaDoor

namespace Go.Proofs.YtcipdimogodndaaDoor
open Go.RowKit Go.Slip

def GivesVb (w : World) (v : Vl) (g : Bool) (en : Ending) (w' : World) : Prop :=
  ∃ p c, en = .returned (.tuple #[.agg #[.int .i64 ((v.cls : Nat) : Int), .bool v.neg, .slice p (dig B32 v.d).length c, .int .i64 v.pow], .bool g]) ∧ Own w' w.heap.size .u32 91 p c (dig B32 v.d) ∧ Below w.heap.size w w'
theorem givesVb_of {w w' : World} {v : Vl} {k : Nat} {n g : Bool} {p : Option Addr} {c d base : Nat} {x : Int} {en : Ending} (hv : v = ⟨k, n, d, x⟩) (h : en = .returned (.tuple #[.agg #[.int .i64 ((k : Nat) : Int), .bool n, .slice p (dig B32 d).length c, .int .i64 x], .bool g]))
    (ho : Own w' base .u32 91 p c (dig B32 d)) (hB : w.heap.size ≤ base) (hb : Below w.heap.size w w') : GivesVb w v g en w' := by
  subst hv
  exact ⟨p, c, h, ho.mono hB, hb⟩
theorem givesVb_none {w w' : World} {v : Vl} {k : Nat} {n g : Bool} {en : Ending} (hv : v = ⟨k, n, 0, 0⟩) (h : en = .returned (.tuple #[.agg #[.int .i64 ((k : Nat) : Int), .bool n, .slice none 0 0, .int .i64 0], .bool g])) (hb : Below w.heap.size w w') : GivesVb w v g en w' :=
  givesVb_of (p := none) (c := 0) (base := w.heap.size) hv (by rw [h, dig_zero]; rfl) (by rw [dig_zero]; exact Own.nil _ _ _ _) (Nat.le_refl _) hb

set_option maxRecDepth 100000 in
theorem decode_any (f : Fm) (s : ByteArray) (w : World) (G : GoodF f) (hs : s.size = f.size) (hT : TabW w) :
    Calls Tryd.prog 59 #[.agg #[.int .i64 ((f.size : Nat) : Int), .int .i64 ((f.E : Nat) : Int), .int .i64 ((f.F : Nat) : Int), .int .i64 f.g.rad, .int .i64 f.g.digs, .int .i64 f.g.lo, .int .i64 f.g.hi, .bool f.g.grad, .bool f.hid, .bool f.inf, .bool f.res, .func (.func (ordF f)) #[] #[]], .string s] w (GivesVb w (f.valN (numOfS f s)) (f.neg (numOfS f s))) := by
  have z2 := G.f2
  have he : f.exp (numOfS f s) < 2 ^ f.E := Nat.mod_lt _ (Nat.pow_pos (by omega))
  have hx : f.frac (numOfS f s) < 2 ^ f.F := Nat.mod_lt _ (Nat.pow_pos (by omega))
  have HS := fun W => Lib.hid (split_any f s W G hs)
  unfold Fm.valN Fm.decN
  generalize f.neg (numOfS f s) = g at *
  generalize f.exp (numOfS f s) = e at *
  generalize f.frac (numOfS f s) = x at *
  have HV := fun p c base W h1 h2 => Lib.hid (value_any f g e x p c base W G h1 h2 he hx)
  have k1 := dec_cls f g e x
  have k2 := dec_m (f := f) g (e := e) hx
  have k3 := dec_p G g (frac := x) he
  have k4 := dig_le_pow k2 (k := 3) (by omega)
  have hrd : f.g.rad = 2 ∨ f.g.rad = 16 := by have := G.rad; split at this <;> omega
  clear k2
  generalize f.dec g e x = D at *
  obtain ⟨k, m, pw⟩ := D
  simp only at k1 k3 k4
  have hm0 := dig_len_zero B32_two m
  rcases k1 with rfl | rfl | rfl | rfl | rfl
  · have hv : f.vl g ⟨1, m, pw⟩ = ⟨1, g, 0, 0⟩ := by unfold Fm.vl Dc.c; simp
    have hT3 : SxOne Tryd.prog 3 := sxOne_of (by kernel_rfl) (by kernel_rfl)
    have hT4 : SxOne Tryd.prog 4 := sxOne_of (by kernel_rfl) (by kernel_rfl)
    have hT56 : SxAgg Tryd.prog 56 4 := sxAgg_of (by kernel_rfl) (by kernel_rfl)
    have hT116 : SxAgg Tryd.prog 116 12 := sxAgg_of (by kernel_rfl) (by kernel_rfl)
    have hT137 : SxAgg Tryd.prog 137 3 := sxAgg_of (by kernel_rfl) (by kernel_rfl)
    refine calls_of_wp Tryd.func59 rfl ?_
    refine sx_frame (a' := ⟨((.agg #[.int .i64 ((f.size : Nat) : Int), .int .i64 ((f.E : Nat) : Int), .int .i64 ((f.F : Nat) : Int), .int .i64 f.g.rad, .int .i64 f.g.digs, .int .i64 f.g.lo, .int .i64 f.g.hi, .bool f.g.grad, .bool f.hid, .bool f.inf, .bool f.res, .func (.func (ordF f)) #[] #[]]) :: (.string s) :: us 56 []).toArray, []⟩) (by kernel_rfl) ?_
    refine ye ?_
    refine yw 0 rfl 2 #[.int .i64 ((f.size : Nat) : Int), .int .i64 ((f.E : Nat) : Int), .int .i64 ((f.F : Nat) : Int), .int .i64 f.g.rad, .int .i64 f.g.digs, .int .i64 f.g.lo, .int .i64 f.g.hi, .bool f.g.grad, .bool f.hid, .bool f.inf, .bool f.res, .func (.func (ordF f)) #[] #[]] 116 (fun V1 hbV1 hzV1 b2 => ?_)
    refine yw 0 rfl 4 #[.int .i64 0, .bool false, .slice none 0 0, .int .i64 0] 56 (fun V2 hbV2 hzV2 b4 => ?_)
    refine yzt 1 ?_
    refine ye ?_
    replace b2 := (b2.past hbV2)
    refine yla 0 rfl 11 b2 hT116 0 ?_
    refine yc 1 rfl 13 ((HS V2).out) (fun Gx hGx => ?_)
    rintro eV3 V3 ⟨p13, c13, rfl, o13, hbV3⟩
    have hzV3 := hbV3.size
    refine ⟨_, rfl, hGx _ _ ?_⟩
    clear hGx Gx
    refine yw 0 rfl 6 #[.bool false, .int .i64 0, .slice none 0 0] 137 (fun V4 hbV4 hzV4 b6 => ?_)
    have boV5 := b6
    refine ysw 0 rfl b6 hT137 #[.bool g, .int .i64 ((e : Nat) : Int), .slice p13 (dig B32 x).length c13] ?_
    clear b6
    intro V5 hOV5 b6
    have hzV5 := hOV5.size
    refine yzt 0 ?_
    refine ye ?_
    replace b2 := (b2.past ((bthru hbV3 hbV4).trans (hOV5.below (by omega))))
    refine yla 0 rfl 15 b2 hT116 0 ?_
    refine yla 0 rfl 16 b6 hT137 0 ?_
    replace o13 := (o13.past (hbV4.trans (hOV5.below (by omega))))
    refine yc 0 rfl 17 ((HV p13 c13 _ V5 o13 (by omega)).out) (fun Gx hGx => ?_)
    rintro eV6 V6 ⟨p17, c17, rfl, o17, hbV6⟩
    have hzV6 := hbV6.size
    refine ⟨_, rfl, hGx _ _ ?_⟩
    clear hGx Gx
    refine yzt 7 ?_
    refine ye ?_
    refine yw 2 rfl 10 #[.int .i64 0, .bool false, .slice none 0 0, .int .i64 0] 56 (fun V7 hbV7 hzV7 b10 => ?_)
    have boV8 := b10
    refine ysw 0 rfl b10 hT56 #[.int .i64 1, .bool false, .slice none 0 0, .int .i64 0] ?_
    clear b10
    intro V8 hOV8 b10
    have hzV8 := hOV8.size
    refine yzt 0 ?_
    refine wp_seq ?_
    refine yq ?_
    refine yF ?_
    refine wp_skip ?_
    refine sx_then ?_
    refine wp_seq ?_
    refine ye ?_
    refine yl 1 rfl 32 b10 hT3 0 ?_
    refine yzt 0 ?_
    refine wp_block ?_
    refine yq ?_
    refine yF ?_
    refine wp_seq ?_
    refine yq ?_
    refine yT ?_
    refine wp_skip ?_
    refine sx_then ?_
    refine yT ?_
    refine sx_region ?_
    replace b6 := (b6.past ((bthru hbV6 hbV7).trans (hOV8.below (by omega))))
    refine yl 1 rfl 53 b6 hT4 0 ?_
    have boV9 := b10
    refine ys1 1 rfl b10 hT4 1 (.bool g) #[.int .i64 1, .bool g, .slice none 0 0, .int .i64 0] ?_
    clear b10
    intro V9 hOV9 b10
    have hzV9 := hOV9.size
    refine yz 0 ?_
    refine sx_inblock ?_
    refine sx_then ?_
    refine wp_seq ?_
    replace b6 := (b6.only hOV9 (by omega))
    obtain ⟨V10, hVV10, hbV10, hzV10⟩ := drew_of V9
    replace b10 := (b10.past hbV10)
    replace b6 := (b6.past hbV10)
    refine yd2 hVV10 ⟨b10, b6⟩ ?_
    clear hVV10
    refine ytla 0 rfl 55 (fun _ h => h.1) hT56 0 ⟨b10, b6⟩ ?_
    refine yt 3 [1] rfl ⟨b10, b6⟩ ?_
    refine ytl 2 rfl 57 (fun _ h => h.2) hT4 0 ⟨b10, b6⟩ ?_
    refine sxr [3] ?_
    refine rd1 (fun Kx hKx => ?_)
    replace b4 := (b4.past (bthru (((bthru (bthru ((bthru hbV3 hbV4).trans (hOV5.below (by omega))) hbV6) hbV7).trans (hOV8.below (by omega))).trans (hOV9.below (by omega))) hbV10))
    refine ssk none b4 hT56 0 #[.int .i64 1, .bool g, .slice none 0 0, .int .i64 0] #[.int .i64 1, .bool g, .slice none 0 0, .int .i64 0] ?_
    have boV11 := b4
    clear b4
    intro V11 hOV11 b4
    have hzV11 := hOV11.size
    replace b10 := (b10.only hOV11 (by omega))
    replace b6 := (b6.only hOV11 (by omega))
    refine hKx.out _ _ ⟨b10, b6⟩ ?_
    clear hKx Kx
    refine yt 0 [4] rfl ⟨b10, b6⟩ ?_
    refine sx_done (by kernel_rfl) ?_
    refine sx_then ?_
    refine wp_ret ?_
    repeat (first | with_reducible refine sx_thenret ?_ | with_reducible refine sx_blockret ?_)
    refine yret (.tuple #[.agg #[.int .i64 1, .bool g, .slice none 0 0, .int .i64 0], .bool g]) (res2 Tryd.results59 (rvr b4 hT56) rvt) ?_
    exact givesVb_none hv rfl ((bthru (((bthru (bthru ((bthru (bthru (bthru hbV1 hbV2) hbV3) hbV4).trans (hOV5.below (by omega))) hbV6) hbV7).trans (hOV8.below (by omega))).trans (hOV9.below (by omega))) hbV10).trans (hOV11.below (by omega)))
  · by_cases h0 : m = 0
    · have hv : f.vl g ⟨2, m, pw⟩ = ⟨1, g, 0, 0⟩ := by unfold Fm.vl Dc.c; simp [h0]
      have hT3 : SxOne Tryd.prog 3 := sxOne_of (by kernel_rfl) (by kernel_rfl)
      have hT4 : SxOne Tryd.prog 4 := sxOne_of (by kernel_rfl) (by kernel_rfl)
      have hT56 : SxAgg Tryd.prog 56 4 := sxAgg_of (by kernel_rfl) (by kernel_rfl)
      have hT116 : SxAgg Tryd.prog 116 12 := sxAgg_of (by kernel_rfl) (by kernel_rfl)
      have hT137 : SxAgg Tryd.prog 137 3 := sxAgg_of (by kernel_rfl) (by kernel_rfl)
      refine calls_of_wp Tryd.func59 rfl ?_
      refine sx_frame (a' := ⟨((.agg #[.int .i64 ((f.size : Nat) : Int), .int .i64 ((f.E : Nat) : Int), .int .i64 ((f.F : Nat) : Int), .int .i64 f.g.rad, .int .i64 f.g.digs, .int .i64 f.g.lo, .int .i64 f.g.hi, .bool f.g.grad, .bool f.hid, .bool f.inf, .bool f.res, .func (.func (ordF f)) #[] #[]]) :: (.string s) :: us 56 []).toArray, []⟩) (by kernel_rfl) ?_
      refine ye ?_
      refine yw 0 rfl 2 #[.int .i64 ((f.size : Nat) : Int), .int .i64 ((f.E : Nat) : Int), .int .i64 ((f.F : Nat) : Int), .int .i64 f.g.rad, .int .i64 f.g.digs, .int .i64 f.g.lo, .int .i64 f.g.hi, .bool f.g.grad, .bool f.hid, .bool f.inf, .bool f.res, .func (.func (ordF f)) #[] #[]] 116 (fun V1 hbV1 hzV1 b2 => ?_)
      refine yw 0 rfl 4 #[.int .i64 0, .bool false, .slice none 0 0, .int .i64 0] 56 (fun V2 hbV2 hzV2 b4 => ?_)
      refine yzt 1 ?_
      refine ye ?_
      replace b2 := (b2.past hbV2)
      refine yla 0 rfl 11 b2 hT116 0 ?_
      refine yc 1 rfl 13 ((HS V2).out) (fun Gx hGx => ?_)
      rintro eV3 V3 ⟨p13, c13, rfl, o13, hbV3⟩
      have hzV3 := hbV3.size
      refine ⟨_, rfl, hGx _ _ ?_⟩
      clear hGx Gx
      refine yw 0 rfl 6 #[.bool false, .int .i64 0, .slice none 0 0] 137 (fun V4 hbV4 hzV4 b6 => ?_)
      have boV5 := b6
      refine ysw 0 rfl b6 hT137 #[.bool g, .int .i64 ((e : Nat) : Int), .slice p13 (dig B32 x).length c13] ?_
      clear b6
      intro V5 hOV5 b6
      have hzV5 := hOV5.size
      refine yzt 0 ?_
      refine ye ?_
      replace b2 := (b2.past ((bthru hbV3 hbV4).trans (hOV5.below (by omega))))
      refine yla 0 rfl 15 b2 hT116 0 ?_
      refine yla 0 rfl 16 b6 hT137 0 ?_
      replace o13 := (o13.past (hbV4.trans (hOV5.below (by omega))))
      refine yc 0 rfl 17 ((HV p13 c13 _ V5 o13 (by omega)).out) (fun Gx hGx => ?_)
      rintro eV6 V6 ⟨p17, c17, rfl, o17, hbV6⟩
      have hzV6 := hbV6.size
      refine ⟨_, rfl, hGx _ _ ?_⟩
      clear hGx Gx
      refine yzt 7 ?_
      refine ye ?_
      refine yw 2 rfl 10 #[.int .i64 0, .bool false, .slice none 0 0, .int .i64 0] 56 (fun V7 hbV7 hzV7 b10 => ?_)
      have boV8 := b10
      refine ysw 0 rfl b10 hT56 #[.int .i64 2, .bool false, .slice none 0 0, .int .i64 0] ?_
      clear b10
      intro V8 hOV8 b10
      have hzV8 := hOV8.size
      refine yzt 0 ?_
      refine wp_seq ?_
      refine ye ?_
      refine yb 5 rfl 28 ((((dig B32 m).length : Nat) : Int) == 0) (true) (beq_iff_eq.2 (by omega)) ?_
      refine yzt 1 ?_
      refine yT ?_
      refine sx_region ?_
      have boV9 := b10
      refine ys1 1 rfl b10 hT3 0 (.int .i64 1) #[.int .i64 1, .bool false, .slice none 0 0, .int .i64 0] ?_
      clear b10
      intro V9 hOV9 b10
      have hzV9 := hOV9.size
      refine yz 0 ?_
      refine sx_then ?_
      refine wp_seq ?_
      refine ye ?_
      refine yl 1 rfl 32 b10 hT3 0 ?_
      refine yzt 0 ?_
      refine wp_block ?_
      refine yq ?_
      refine yF ?_
      refine wp_seq ?_
      refine yq ?_
      refine yT ?_
      refine wp_skip ?_
      refine sx_then ?_
      refine yT ?_
      refine sx_region ?_
      replace b6 := (b6.past (((bthru hbV6 hbV7).trans (hOV8.below (by omega))).trans (hOV9.below (by omega))))
      refine yl 1 rfl 53 b6 hT4 0 ?_
      have boV10 := b10
      refine ys1 1 rfl b10 hT4 1 (.bool g) #[.int .i64 1, .bool g, .slice none 0 0, .int .i64 0] ?_
      clear b10
      intro V10 hOV10 b10
      have hzV10 := hOV10.size
      refine yz 0 ?_
      refine sx_inblock ?_
      refine sx_then ?_
      refine wp_seq ?_
      replace b6 := (b6.only hOV10 (by omega))
      obtain ⟨V11, hVV11, hbV11, hzV11⟩ := drew_of V10
      replace b10 := (b10.past hbV11)
      replace b6 := (b6.past hbV11)
      refine yd2 hVV11 ⟨b10, b6⟩ ?_
      clear hVV11
      refine ytla 0 rfl 55 (fun _ h => h.1) hT56 0 ⟨b10, b6⟩ ?_
      refine yt 3 [1] rfl ⟨b10, b6⟩ ?_
      refine ytl 2 rfl 57 (fun _ h => h.2) hT4 0 ⟨b10, b6⟩ ?_
      refine sxr [3] ?_
      refine rd1 (fun Kx hKx => ?_)
      replace b4 := (b4.past (bthru ((((bthru (bthru ((bthru hbV3 hbV4).trans (hOV5.below (by omega))) hbV6) hbV7).trans (hOV8.below (by omega))).trans (hOV9.below (by omega))).trans (hOV10.below (by omega))) hbV11))
      refine ssk none b4 hT56 0 #[.int .i64 1, .bool g, .slice none 0 0, .int .i64 0] #[.int .i64 1, .bool g, .slice none 0 0, .int .i64 0] ?_
      have boV12 := b4
      clear b4
      intro V12 hOV12 b4
      have hzV12 := hOV12.size
      replace b10 := (b10.only hOV12 (by omega))
      replace b6 := (b6.only hOV12 (by omega))
      refine hKx.out _ _ ⟨b10, b6⟩ ?_
      clear hKx Kx
      refine yt 0 [4] rfl ⟨b10, b6⟩ ?_
      refine sx_done (by kernel_rfl) ?_
      refine sx_then ?_
      refine wp_ret ?_
      repeat (first | with_reducible refine sx_thenret ?_ | with_reducible refine sx_blockret ?_)
      refine yret (.tuple #[.agg #[.int .i64 1, .bool g, .slice none 0 0, .int .i64 0], .bool g]) (res2 Tryd.results59 (rvr b4 hT56) rvt) ?_
      exact givesVb_none hv rfl ((bthru ((((bthru (bthru ((bthru (bthru (bthru hbV1 hbV2) hbV3) hbV4).trans (hOV5.below (by omega))) hbV6) hbV7).trans (hOV8.below (by omega))).trans (hOV9.below (by omega))).trans (hOV10.below (by omega))) hbV11).trans (hOV12.below (by omega)))
    · have hv : f.vl g ⟨2, m, pw⟩ = ⟨2, g, m / 2 ^ (tz m / wid f.g * wid f.g), pw + (tz m / wid f.g : Nat)⟩ := by unfold Fm.vl Dc.c; simp [h0]
      have HB := fun p c base W h1 hT => Lib.hid (cbare_any p c m pw f.g base W h1 (by omega) (by omega) hrd hT)
      generalize m / 2 ^ (tz m / wid f.g * wid f.g) = mm at *
      generalize pw + ((tz m / wid f.g : Nat) : Int) = pp at *
      have hT3 : SxOne Tryd.prog 3 := sxOne_of (by kernel_rfl) (by kernel_rfl)
      have hT4 : SxOne Tryd.prog 4 := sxOne_of (by kernel_rfl) (by kernel_rfl)
      have hT23 : SxOne Tryd.prog 23 := sxOne_of (by kernel_rfl) (by kernel_rfl)
      have hT56 : SxAgg Tryd.prog 56 4 := sxAgg_of (by kernel_rfl) (by kernel_rfl)
      have hT116 : SxAgg Tryd.prog 116 12 := sxAgg_of (by kernel_rfl) (by kernel_rfl)
      have hT137 : SxAgg Tryd.prog 137 3 := sxAgg_of (by kernel_rfl) (by kernel_rfl)
      refine calls_of_wp Tryd.func59 rfl ?_
      refine sx_frame (a' := ⟨((.agg #[.int .i64 ((f.size : Nat) : Int), .int .i64 ((f.E : Nat) : Int), .int .i64 ((f.F : Nat) : Int), .int .i64 f.g.rad, .int .i64 f.g.digs, .int .i64 f.g.lo, .int .i64 f.g.hi, .bool f.g.grad, .bool f.hid, .bool f.inf, .bool f.res, .func (.func (ordF f)) #[] #[]]) :: (.string s) :: us 56 []).toArray, []⟩) (by kernel_rfl) ?_
      refine ye ?_
      refine yw 0 rfl 2 #[.int .i64 ((f.size : Nat) : Int), .int .i64 ((f.E : Nat) : Int), .int .i64 ((f.F : Nat) : Int), .int .i64 f.g.rad, .int .i64 f.g.digs, .int .i64 f.g.lo, .int .i64 f.g.hi, .bool f.g.grad, .bool f.hid, .bool f.inf, .bool f.res, .func (.func (ordF f)) #[] #[]] 116 (fun V1 hbV1 hzV1 b2 => ?_)
      refine yw 0 rfl 4 #[.int .i64 0, .bool false, .slice none 0 0, .int .i64 0] 56 (fun V2 hbV2 hzV2 b4 => ?_)
      refine yzt 1 ?_
      refine ye ?_
      replace b2 := (b2.past hbV2)
      refine yla 0 rfl 11 b2 hT116 0 ?_
      refine yc 1 rfl 13 ((HS V2).out) (fun Gx hGx => ?_)
      rintro eV3 V3 ⟨p13, c13, rfl, o13, hbV3⟩
      have hzV3 := hbV3.size
      refine ⟨_, rfl, hGx _ _ ?_⟩
      clear hGx Gx
      refine yw 0 rfl 6 #[.bool false, .int .i64 0, .slice none 0 0] 137 (fun V4 hbV4 hzV4 b6 => ?_)
      have boV5 := b6
      refine ysw 0 rfl b6 hT137 #[.bool g, .int .i64 ((e : Nat) : Int), .slice p13 (dig B32 x).length c13] ?_
      clear b6
      intro V5 hOV5 b6
      have hzV5 := hOV5.size
      refine yzt 0 ?_
      refine ye ?_
      replace b2 := (b2.past ((bthru hbV3 hbV4).trans (hOV5.below (by omega))))
      refine yla 0 rfl 15 b2 hT116 0 ?_
      refine yla 0 rfl 16 b6 hT137 0 ?_
      replace o13 := (o13.past (hbV4.trans (hOV5.below (by omega))))
      refine yc 0 rfl 17 ((HV p13 c13 _ V5 o13 (by omega)).out) (fun Gx hGx => ?_)
      rintro eV6 V6 ⟨p17, c17, rfl, o17, hbV6⟩
      have hzV6 := hbV6.size
      refine ⟨_, rfl, hGx _ _ ?_⟩
      clear hGx Gx
      refine yzt 7 ?_
      refine ye ?_
      refine yw 2 rfl 10 #[.int .i64 0, .bool false, .slice none 0 0, .int .i64 0] 56 (fun V7 hbV7 hzV7 b10 => ?_)
      have boV8 := b10
      refine ysw 0 rfl b10 hT56 #[.int .i64 2, .bool false, .slice none 0 0, .int .i64 0] ?_
      clear b10
      intro V8 hOV8 b10
      have hzV8 := hOV8.size
      refine yzt 0 ?_
      refine wp_seq ?_
      refine ye ?_
      refine yb 5 rfl 28 ((((dig B32 m).length : Nat) : Int) == 0) (false) (beq_eq_false_iff_ne.2 (by omega)) ?_
      refine yzt 1 ?_
      refine yF ?_
      refine wp_skip ?_
      refine sx_then ?_
      refine wp_seq ?_
      refine ye ?_
      refine yl 1 rfl 32 b10 hT3 0 ?_
      refine yzt 0 ?_
      refine wp_block ?_
      refine yq ?_
      refine yT ?_
      refine ye ?_
      replace b6 := (b6.past ((bthru hbV6 hbV7).trans (hOV8.below (by omega))))
      refine yl 1 rfl 36 b6 hT4 0 ?_
      have boV9 := b10
      refine ys1 1 rfl b10 hT4 1 (.bool g) #[.int .i64 2, .bool g, .slice none 0 0, .int .i64 0] ?_
      clear b10
      intro V9 hOV9 b10
      have hzV9 := hOV9.size
      refine yzt 0 ?_
      refine sx_region ?_
      replace b2 := (b2.past (((bthru hbV6 hbV7).trans (hOV8.below (by omega))).trans (hOV9.below (by omega))))
      refine yl 4 rfl 43 b2 hT3 3 ?_
      replace o17 := (o17.past ((hbV7.trans (hOV8.below (by omega))).trans (hOV9.below (by omega))))
      replace hT := (hT.past (((bthru (bthru ((bthru (bthru (bthru hbV1 hbV2) hbV3) hbV4).trans (hOV5.below (by omega))) hbV6) hbV7).trans (hOV8.below (by omega))).trans (hOV9.below (by omega))))
      refine yc 0 rfl 44 ((HB p17 c17 _ V9 o17 hT).out) (fun Gx hGx => ?_)
      rintro eV10 V10 ⟨q44, d44, rfl, o44, hbV10⟩
      have hzV10 := hbV10.size
      refine ⟨_, rfl, hGx _ _ ?_⟩
      clear hGx Gx
      replace b10 := (b10.past hbV10)
      have boV11 := b10
      refine ys1 4 rfl b10 hT23 2 (.slice q44 (dig B32 mm).length d44) #[.int .i64 2, .bool g, .slice q44 (dig B32 mm).length d44, .int .i64 0] ?_
      clear b10
      intro V11 hOV11 b10
      have hzV11 := hOV11.size
      have boV12 := b10
      refine ys1 1 rfl b10 hT3 3 (.int .i64 pp) #[.int .i64 2, .bool g, .slice q44 (dig B32 mm).length d44, .int .i64 pp] ?_
      clear b10
      intro V12 hOV12 b10
      have hzV12 := hOV12.size
      refine yz 0 ?_
      refine sx_inblock ?_
      refine sx_then ?_
      refine wp_seq ?_
      replace b6 := ((((b6.only hOV9 (by omega)).past hbV10).only hOV11 (by omega)).only hOV12 (by omega))
      obtain ⟨V13, hVV13, hbV13, hzV13⟩ := drew_of V12
      replace b10 := (b10.past hbV13)
      replace b6 := (b6.past hbV13)
      refine yd2 hVV13 ⟨b10, b6⟩ ?_
      clear hVV13
      refine ytla 0 rfl 55 (fun _ h => h.1) hT56 0 ⟨b10, b6⟩ ?_
      refine yt 3 [1] rfl ⟨b10, b6⟩ ?_
      refine ytl 2 rfl 57 (fun _ h => h.2) hT4 0 ⟨b10, b6⟩ ?_
      refine sxr [3] ?_
      refine rd1 (fun Kx hKx => ?_)
      replace b4 := (b4.past (bthru (((bthru (((bthru (bthru ((bthru hbV3 hbV4).trans (hOV5.below (by omega))) hbV6) hbV7).trans (hOV8.below (by omega))).trans (hOV9.below (by omega))) hbV10).trans (hOV11.below (by omega))).trans (hOV12.below (by omega))) hbV13))
      refine ssk none b4 hT56 0 #[.int .i64 2, .bool g, .slice q44 (dig B32 mm).length d44, .int .i64 pp] #[.int .i64 2, .bool g, .slice q44 (dig B32 mm).length d44, .int .i64 pp] ?_
      have boV14 := b4
      clear b4
      intro V14 hOV14 b4
      have hzV14 := hOV14.size
      replace b10 := (b10.only hOV14 (by omega))
      replace b6 := (b6.only hOV14 (by omega))
      refine hKx.out _ _ ⟨b10, b6⟩ ?_
      clear hKx Kx
      refine yt 0 [4] rfl ⟨b10, b6⟩ ?_
      refine sx_done (by kernel_rfl) ?_
      refine sx_then ?_
      refine wp_ret ?_
      repeat (first | with_reducible refine sx_thenret ?_ | with_reducible refine sx_blockret ?_)
      refine yret (.tuple #[.agg #[.int .i64 2, .bool g, .slice q44 (dig B32 mm).length d44, .int .i64 pp], .bool g]) (res2 Tryd.results59 (rvr b4 hT56) rvt) ?_
      replace o44 := ((((o44.put boV11 hOV11 (by kernel_rfl)).put boV12 hOV12 (by kernel_rfl)).past hbV13).put boV14 hOV14 (by kernel_rfl))
      exact givesVb_of hv rfl o44 (by omega) ((bthru (((bthru (((bthru (bthru ((bthru (bthru (bthru hbV1 hbV2) hbV3) hbV4).trans (hOV5.below (by omega))) hbV6) hbV7).trans (hOV8.below (by omega))).trans (hOV9.below (by omega))) hbV10).trans (hOV11.below (by omega))).trans (hOV12.below (by omega))) hbV13).trans (hOV14.below (by omega)))
  · have hv : f.vl g ⟨3, m, pw⟩ = ⟨3, g, 0, 0⟩ := by unfold Fm.vl Dc.c; simp
    have hT3 : SxOne Tryd.prog 3 := sxOne_of (by kernel_rfl) (by kernel_rfl)
    have hT4 : SxOne Tryd.prog 4 := sxOne_of (by kernel_rfl) (by kernel_rfl)
    have hT56 : SxAgg Tryd.prog 56 4 := sxAgg_of (by kernel_rfl) (by kernel_rfl)
    have hT116 : SxAgg Tryd.prog 116 12 := sxAgg_of (by kernel_rfl) (by kernel_rfl)
    have hT137 : SxAgg Tryd.prog 137 3 := sxAgg_of (by kernel_rfl) (by kernel_rfl)
    refine calls_of_wp Tryd.func59 rfl ?_
    refine sx_frame (a' := ⟨((.agg #[.int .i64 ((f.size : Nat) : Int), .int .i64 ((f.E : Nat) : Int), .int .i64 ((f.F : Nat) : Int), .int .i64 f.g.rad, .int .i64 f.g.digs, .int .i64 f.g.lo, .int .i64 f.g.hi, .bool f.g.grad, .bool f.hid, .bool f.inf, .bool f.res, .func (.func (ordF f)) #[] #[]]) :: (.string s) :: us 56 []).toArray, []⟩) (by kernel_rfl) ?_
    refine ye ?_
    refine yw 0 rfl 2 #[.int .i64 ((f.size : Nat) : Int), .int .i64 ((f.E : Nat) : Int), .int .i64 ((f.F : Nat) : Int), .int .i64 f.g.rad, .int .i64 f.g.digs, .int .i64 f.g.lo, .int .i64 f.g.hi, .bool f.g.grad, .bool f.hid, .bool f.inf, .bool f.res, .func (.func (ordF f)) #[] #[]] 116 (fun V1 hbV1 hzV1 b2 => ?_)
    refine yw 0 rfl 4 #[.int .i64 0, .bool false, .slice none 0 0, .int .i64 0] 56 (fun V2 hbV2 hzV2 b4 => ?_)
    refine yzt 1 ?_
    refine ye ?_
    replace b2 := (b2.past hbV2)
    refine yla 0 rfl 11 b2 hT116 0 ?_
    refine yc 1 rfl 13 ((HS V2).out) (fun Gx hGx => ?_)
    rintro eV3 V3 ⟨p13, c13, rfl, o13, hbV3⟩
    have hzV3 := hbV3.size
    refine ⟨_, rfl, hGx _ _ ?_⟩
    clear hGx Gx
    refine yw 0 rfl 6 #[.bool false, .int .i64 0, .slice none 0 0] 137 (fun V4 hbV4 hzV4 b6 => ?_)
    have boV5 := b6
    refine ysw 0 rfl b6 hT137 #[.bool g, .int .i64 ((e : Nat) : Int), .slice p13 (dig B32 x).length c13] ?_
    clear b6
    intro V5 hOV5 b6
    have hzV5 := hOV5.size
    refine yzt 0 ?_
    refine ye ?_
    replace b2 := (b2.past ((bthru hbV3 hbV4).trans (hOV5.below (by omega))))
    refine yla 0 rfl 15 b2 hT116 0 ?_
    refine yla 0 rfl 16 b6 hT137 0 ?_
    replace o13 := (o13.past (hbV4.trans (hOV5.below (by omega))))
    refine yc 0 rfl 17 ((HV p13 c13 _ V5 o13 (by omega)).out) (fun Gx hGx => ?_)
    rintro eV6 V6 ⟨p17, c17, rfl, o17, hbV6⟩
    have hzV6 := hbV6.size
    refine ⟨_, rfl, hGx _ _ ?_⟩
    clear hGx Gx
    refine yzt 7 ?_
    refine ye ?_
    refine yw 2 rfl 10 #[.int .i64 0, .bool false, .slice none 0 0, .int .i64 0] 56 (fun V7 hbV7 hzV7 b10 => ?_)
    have boV8 := b10
    refine ysw 0 rfl b10 hT56 #[.int .i64 3, .bool false, .slice none 0 0, .int .i64 0] ?_
    clear b10
    intro V8 hOV8 b10
    have hzV8 := hOV8.size
    refine yzt 0 ?_
    refine wp_seq ?_
    refine yq ?_
    refine yF ?_
    refine wp_skip ?_
    refine sx_then ?_
    refine wp_seq ?_
    refine ye ?_
    refine yl 1 rfl 32 b10 hT3 0 ?_
    refine yzt 0 ?_
    refine wp_block ?_
    refine yq ?_
    refine yF ?_
    refine wp_seq ?_
    refine yq ?_
    refine yF ?_
    refine yr ?_
    refine sx_then ?_
    refine yT ?_
    refine sx_region ?_
    replace b6 := (b6.past ((bthru hbV6 hbV7).trans (hOV8.below (by omega))))
    refine yl 1 rfl 53 b6 hT4 0 ?_
    have boV9 := b10
    refine ys1 1 rfl b10 hT4 1 (.bool g) #[.int .i64 3, .bool g, .slice none 0 0, .int .i64 0] ?_
    clear b10
    intro V9 hOV9 b10
    have hzV9 := hOV9.size
    refine yz 0 ?_
    refine sx_inblock ?_
    refine sx_then ?_
    refine wp_seq ?_
    replace b6 := (b6.only hOV9 (by omega))
    obtain ⟨V10, hVV10, hbV10, hzV10⟩ := drew_of V9
    replace b10 := (b10.past hbV10)
    replace b6 := (b6.past hbV10)
    refine yd2 hVV10 ⟨b10, b6⟩ ?_
    clear hVV10
    refine ytla 0 rfl 55 (fun _ h => h.1) hT56 0 ⟨b10, b6⟩ ?_
    refine yt 3 [1] rfl ⟨b10, b6⟩ ?_
    refine ytl 2 rfl 57 (fun _ h => h.2) hT4 0 ⟨b10, b6⟩ ?_
    refine sxr [3] ?_
    refine rd1 (fun Kx hKx => ?_)
    replace b4 := (b4.past (bthru (((bthru (bthru ((bthru hbV3 hbV4).trans (hOV5.below (by omega))) hbV6) hbV7).trans (hOV8.below (by omega))).trans (hOV9.below (by omega))) hbV10))
    refine ssk none b4 hT56 0 #[.int .i64 3, .bool g, .slice none 0 0, .int .i64 0] #[.int .i64 3, .bool g, .slice none 0 0, .int .i64 0] ?_
    have boV11 := b4
    clear b4
    intro V11 hOV11 b4
    have hzV11 := hOV11.size
    replace b10 := (b10.only hOV11 (by omega))
    replace b6 := (b6.only hOV11 (by omega))
    refine hKx.out _ _ ⟨b10, b6⟩ ?_
    clear hKx Kx
    refine yt 0 [4] rfl ⟨b10, b6⟩ ?_
    refine sx_done (by kernel_rfl) ?_
    refine sx_then ?_
    refine wp_ret ?_
    repeat (first | with_reducible refine sx_thenret ?_ | with_reducible refine sx_blockret ?_)
    refine yret (.tuple #[.agg #[.int .i64 3, .bool g, .slice none 0 0, .int .i64 0], .bool g]) (res2 Tryd.results59 (rvr b4 hT56) rvt) ?_
    exact givesVb_none hv rfl ((bthru (((bthru (bthru ((bthru (bthru (bthru hbV1 hbV2) hbV3) hbV4).trans (hOV5.below (by omega))) hbV6) hbV7).trans (hOV8.below (by omega))).trans (hOV9.below (by omega))) hbV10).trans (hOV11.below (by omega)))
  · have hv : f.vl g ⟨4, m, pw⟩ = ⟨4, false, 0, 0⟩ := by unfold Fm.vl Dc.c; simp
    have hT3 : SxOne Tryd.prog 3 := sxOne_of (by kernel_rfl) (by kernel_rfl)
    have hT4 : SxOne Tryd.prog 4 := sxOne_of (by kernel_rfl) (by kernel_rfl)
    have hT56 : SxAgg Tryd.prog 56 4 := sxAgg_of (by kernel_rfl) (by kernel_rfl)
    have hT116 : SxAgg Tryd.prog 116 12 := sxAgg_of (by kernel_rfl) (by kernel_rfl)
    have hT137 : SxAgg Tryd.prog 137 3 := sxAgg_of (by kernel_rfl) (by kernel_rfl)
    refine calls_of_wp Tryd.func59 rfl ?_
    refine sx_frame (a' := ⟨((.agg #[.int .i64 ((f.size : Nat) : Int), .int .i64 ((f.E : Nat) : Int), .int .i64 ((f.F : Nat) : Int), .int .i64 f.g.rad, .int .i64 f.g.digs, .int .i64 f.g.lo, .int .i64 f.g.hi, .bool f.g.grad, .bool f.hid, .bool f.inf, .bool f.res, .func (.func (ordF f)) #[] #[]]) :: (.string s) :: us 56 []).toArray, []⟩) (by kernel_rfl) ?_
    refine ye ?_
    refine yw 0 rfl 2 #[.int .i64 ((f.size : Nat) : Int), .int .i64 ((f.E : Nat) : Int), .int .i64 ((f.F : Nat) : Int), .int .i64 f.g.rad, .int .i64 f.g.digs, .int .i64 f.g.lo, .int .i64 f.g.hi, .bool f.g.grad, .bool f.hid, .bool f.inf, .bool f.res, .func (.func (ordF f)) #[] #[]] 116 (fun V1 hbV1 hzV1 b2 => ?_)
    refine yw 0 rfl 4 #[.int .i64 0, .bool false, .slice none 0 0, .int .i64 0] 56 (fun V2 hbV2 hzV2 b4 => ?_)
    refine yzt 1 ?_
    refine ye ?_
    replace b2 := (b2.past hbV2)
    refine yla 0 rfl 11 b2 hT116 0 ?_
    refine yc 1 rfl 13 ((HS V2).out) (fun Gx hGx => ?_)
    rintro eV3 V3 ⟨p13, c13, rfl, o13, hbV3⟩
    have hzV3 := hbV3.size
    refine ⟨_, rfl, hGx _ _ ?_⟩
    clear hGx Gx
    refine yw 0 rfl 6 #[.bool false, .int .i64 0, .slice none 0 0] 137 (fun V4 hbV4 hzV4 b6 => ?_)
    have boV5 := b6
    refine ysw 0 rfl b6 hT137 #[.bool g, .int .i64 ((e : Nat) : Int), .slice p13 (dig B32 x).length c13] ?_
    clear b6
    intro V5 hOV5 b6
    have hzV5 := hOV5.size
    refine yzt 0 ?_
    refine ye ?_
    replace b2 := (b2.past ((bthru hbV3 hbV4).trans (hOV5.below (by omega))))
    refine yla 0 rfl 15 b2 hT116 0 ?_
    refine yla 0 rfl 16 b6 hT137 0 ?_
    replace o13 := (o13.past (hbV4.trans (hOV5.below (by omega))))
    refine yc 0 rfl 17 ((HV p13 c13 _ V5 o13 (by omega)).out) (fun Gx hGx => ?_)
    rintro eV6 V6 ⟨p17, c17, rfl, o17, hbV6⟩
    have hzV6 := hbV6.size
    refine ⟨_, rfl, hGx _ _ ?_⟩
    clear hGx Gx
    refine yzt 7 ?_
    refine ye ?_
    refine yw 2 rfl 10 #[.int .i64 0, .bool false, .slice none 0 0, .int .i64 0] 56 (fun V7 hbV7 hzV7 b10 => ?_)
    have boV8 := b10
    refine ysw 0 rfl b10 hT56 #[.int .i64 4, .bool false, .slice none 0 0, .int .i64 0] ?_
    clear b10
    intro V8 hOV8 b10
    have hzV8 := hOV8.size
    refine yzt 0 ?_
    refine wp_seq ?_
    refine yq ?_
    refine yF ?_
    refine wp_skip ?_
    refine sx_then ?_
    refine wp_seq ?_
    refine ye ?_
    refine yl 1 rfl 32 b10 hT3 0 ?_
    refine yzt 0 ?_
    refine wp_block ?_
    refine yq ?_
    refine yF ?_
    refine wp_seq ?_
    refine yq ?_
    refine yF ?_
    refine yr ?_
    refine sx_then ?_
    refine yF ?_
    refine wp_skip ?_
    refine sx_inblock ?_
    refine sx_then ?_
    refine wp_seq ?_
    replace b6 := (b6.past ((bthru hbV6 hbV7).trans (hOV8.below (by omega))))
    obtain ⟨V9, hVV9, hbV9, hzV9⟩ := drew_of V8
    replace b10 := (b10.past hbV9)
    replace b6 := (b6.past hbV9)
    refine yd2 hVV9 ⟨b10, b6⟩ ?_
    clear hVV9
    refine ytla 0 rfl 55 (fun _ h => h.1) hT56 0 ⟨b10, b6⟩ ?_
    refine yt 3 [1] rfl ⟨b10, b6⟩ ?_
    refine ytl 2 rfl 57 (fun _ h => h.2) hT4 0 ⟨b10, b6⟩ ?_
    refine sxr [3] ?_
    refine rd1 (fun Kx hKx => ?_)
    replace b4 := (b4.past (bthru ((bthru (bthru ((bthru hbV3 hbV4).trans (hOV5.below (by omega))) hbV6) hbV7).trans (hOV8.below (by omega))) hbV9))
    refine ssk none b4 hT56 0 #[.int .i64 4, .bool false, .slice none 0 0, .int .i64 0] #[.int .i64 4, .bool false, .slice none 0 0, .int .i64 0] ?_
    have boV10 := b4
    clear b4
    intro V10 hOV10 b4
    have hzV10 := hOV10.size
    replace b10 := (b10.only hOV10 (by omega))
    replace b6 := (b6.only hOV10 (by omega))
    refine hKx.out _ _ ⟨b10, b6⟩ ?_
    clear hKx Kx
    refine yt 0 [4] rfl ⟨b10, b6⟩ ?_
    refine sx_done (by kernel_rfl) ?_
    refine sx_then ?_
    refine wp_ret ?_
    repeat (first | with_reducible refine sx_thenret ?_ | with_reducible refine sx_blockret ?_)
    refine yret (.tuple #[.agg #[.int .i64 4, .bool false, .slice none 0 0, .int .i64 0], .bool g]) (res2 Tryd.results59 (rvr b4 hT56) rvt) ?_
    exact givesVb_none hv rfl ((bthru ((bthru (bthru ((bthru (bthru (bthru hbV1 hbV2) hbV3) hbV4).trans (hOV5.below (by omega))) hbV6) hbV7).trans (hOV8.below (by omega))) hbV9).trans (hOV10.below (by omega)))
  · have hv : f.vl g ⟨5, m, pw⟩ = ⟨5, false, 0, 0⟩ := by unfold Fm.vl Dc.c; simp
    have hT3 : SxOne Tryd.prog 3 := sxOne_of (by kernel_rfl) (by kernel_rfl)
    have hT4 : SxOne Tryd.prog 4 := sxOne_of (by kernel_rfl) (by kernel_rfl)
    have hT56 : SxAgg Tryd.prog 56 4 := sxAgg_of (by kernel_rfl) (by kernel_rfl)
    have hT116 : SxAgg Tryd.prog 116 12 := sxAgg_of (by kernel_rfl) (by kernel_rfl)
    have hT137 : SxAgg Tryd.prog 137 3 := sxAgg_of (by kernel_rfl) (by kernel_rfl)
    refine calls_of_wp Tryd.func59 rfl ?_
    refine sx_frame (a' := ⟨((.agg #[.int .i64 ((f.size : Nat) : Int), .int .i64 ((f.E : Nat) : Int), .int .i64 ((f.F : Nat) : Int), .int .i64 f.g.rad, .int .i64 f.g.digs, .int .i64 f.g.lo, .int .i64 f.g.hi, .bool f.g.grad, .bool f.hid, .bool f.inf, .bool f.res, .func (.func (ordF f)) #[] #[]]) :: (.string s) :: us 56 []).toArray, []⟩) (by kernel_rfl) ?_
    refine ye ?_
    refine yw 0 rfl 2 #[.int .i64 ((f.size : Nat) : Int), .int .i64 ((f.E : Nat) : Int), .int .i64 ((f.F : Nat) : Int), .int .i64 f.g.rad, .int .i64 f.g.digs, .int .i64 f.g.lo, .int .i64 f.g.hi, .bool f.g.grad, .bool f.hid, .bool f.inf, .bool f.res, .func (.func (ordF f)) #[] #[]] 116 (fun V1 hbV1 hzV1 b2 => ?_)
    refine yw 0 rfl 4 #[.int .i64 0, .bool false, .slice none 0 0, .int .i64 0] 56 (fun V2 hbV2 hzV2 b4 => ?_)
    refine yzt 1 ?_
    refine ye ?_
    replace b2 := (b2.past hbV2)
    refine yla 0 rfl 11 b2 hT116 0 ?_
    refine yc 1 rfl 13 ((HS V2).out) (fun Gx hGx => ?_)
    rintro eV3 V3 ⟨p13, c13, rfl, o13, hbV3⟩
    have hzV3 := hbV3.size
    refine ⟨_, rfl, hGx _ _ ?_⟩
    clear hGx Gx
    refine yw 0 rfl 6 #[.bool false, .int .i64 0, .slice none 0 0] 137 (fun V4 hbV4 hzV4 b6 => ?_)
    have boV5 := b6
    refine ysw 0 rfl b6 hT137 #[.bool g, .int .i64 ((e : Nat) : Int), .slice p13 (dig B32 x).length c13] ?_
    clear b6
    intro V5 hOV5 b6
    have hzV5 := hOV5.size
    refine yzt 0 ?_
    refine ye ?_
    replace b2 := (b2.past ((bthru hbV3 hbV4).trans (hOV5.below (by omega))))
    refine yla 0 rfl 15 b2 hT116 0 ?_
    refine yla 0 rfl 16 b6 hT137 0 ?_
    replace o13 := (o13.past (hbV4.trans (hOV5.below (by omega))))
    refine yc 0 rfl 17 ((HV p13 c13 _ V5 o13 (by omega)).out) (fun Gx hGx => ?_)
    rintro eV6 V6 ⟨p17, c17, rfl, o17, hbV6⟩
    have hzV6 := hbV6.size
    refine ⟨_, rfl, hGx _ _ ?_⟩
    clear hGx Gx
    refine yzt 7 ?_
    refine ye ?_
    refine yw 2 rfl 10 #[.int .i64 0, .bool false, .slice none 0 0, .int .i64 0] 56 (fun V7 hbV7 hzV7 b10 => ?_)
    have boV8 := b10
    refine ysw 0 rfl b10 hT56 #[.int .i64 5, .bool false, .slice none 0 0, .int .i64 0] ?_
    clear b10
    intro V8 hOV8 b10
    have hzV8 := hOV8.size
    refine yzt 0 ?_
    refine wp_seq ?_
    refine yq ?_
    refine yF ?_
    refine wp_skip ?_
    refine sx_then ?_
    refine wp_seq ?_
    refine ye ?_
    refine yl 1 rfl 32 b10 hT3 0 ?_
    refine yzt 0 ?_
    refine wp_block ?_
    refine yq ?_
    refine yF ?_
    refine wp_seq ?_
    refine yq ?_
    refine yF ?_
    refine yr ?_
    refine sx_then ?_
    refine yF ?_
    refine wp_skip ?_
    refine sx_inblock ?_
    refine sx_then ?_
    refine wp_seq ?_
    replace b6 := (b6.past ((bthru hbV6 hbV7).trans (hOV8.below (by omega))))
    obtain ⟨V9, hVV9, hbV9, hzV9⟩ := drew_of V8
    replace b10 := (b10.past hbV9)
    replace b6 := (b6.past hbV9)
    refine yd2 hVV9 ⟨b10, b6⟩ ?_
    clear hVV9
    refine ytla 0 rfl 55 (fun _ h => h.1) hT56 0 ⟨b10, b6⟩ ?_
    refine yt 3 [1] rfl ⟨b10, b6⟩ ?_
    refine ytl 2 rfl 57 (fun _ h => h.2) hT4 0 ⟨b10, b6⟩ ?_
    refine sxr [3] ?_
    refine rd1 (fun Kx hKx => ?_)
    replace b4 := (b4.past (bthru ((bthru (bthru ((bthru hbV3 hbV4).trans (hOV5.below (by omega))) hbV6) hbV7).trans (hOV8.below (by omega))) hbV9))
    refine ssk none b4 hT56 0 #[.int .i64 5, .bool false, .slice none 0 0, .int .i64 0] #[.int .i64 5, .bool false, .slice none 0 0, .int .i64 0] ?_
    have boV10 := b4
    clear b4
    intro V10 hOV10 b4
    have hzV10 := hOV10.size
    replace b10 := (b10.only hOV10 (by omega))
    replace b6 := (b6.only hOV10 (by omega))
    refine hKx.out _ _ ⟨b10, b6⟩ ?_
    clear hKx Kx
    refine yt 0 [4] rfl ⟨b10, b6⟩ ?_
    refine sx_done (by kernel_rfl) ?_
    refine sx_then ?_
    refine wp_ret ?_
    repeat (first | with_reducible refine sx_thenret ?_ | with_reducible refine sx_blockret ?_)
    refine yret (.tuple #[.agg #[.int .i64 5, .bool false, .slice none 0 0, .int .i64 0], .bool g]) (res2 Tryd.results59 (rvr b4 hT56) rvt) ?_
    exact givesVb_none hv rfl ((bthru ((bthru (bthru ((bthru (bthru (bthru hbV1 hbV2) hbV3) hbV4).trans (hOV5.below (by omega))) hbV6) hbV7).trans (hOV8.below (by omega))) hbV9).trans (hOV10.below (by omega)))

end Go.Proofs.YtcipdimogodndaaDoor

namespace Go.Proofs.YtcipdimogodndaaDoor
open Go.RowKit Go.Slip

def errPat (n : Int) (s : ByteArray) : Int := if IsFm n then (if s.size = (fmt n).size then 0 else 1) else 6

theorem open_ok (n : Int) (s : ByteArray) (w : World) (hn : IsFm n) (hs : s.size = (fmt n).size) :
    Calls Tryd.prog 58 #[.int .i64 n, .string s] w fun en w' => en = .returned (.tuple #[.agg #[.int .i64 (((fmt n).size : Nat) : Int), .int .i64 (((fmt n).E : Nat) : Int), .int .i64 (((fmt n).F : Nat) : Int), .int .i64 (fmt n).g.rad, .int .i64 (fmt n).g.digs, .int .i64 (fmt n).g.lo, .int .i64 (fmt n).g.hi, .bool (fmt n).g.grad, .bool (fmt n).hid, .bool (fmt n).inf, .bool (fmt n).res, .func (.func (ordF (fmt n))) #[] #[]], .int .i64 0]) ∧ Below w.heap.size w w' := by
  have HF := fun W => Lib.hid (forms_any n hn W)
  generalize fmt n = f at *
  have hT3 : SxOne Tryd.prog 3 := sxOne_of (by kernel_rfl) (by kernel_rfl)
  have hT116 : SxAgg Tryd.prog 116 12 := sxAgg_of (by kernel_rfl) (by kernel_rfl)
  refine calls_of_wp Tryd.func58 rfl ?_
  refine sx_frame (a' := ⟨((.int .i64 n) :: (.string s) :: us 22 []).toArray, []⟩) (by kernel_rfl) ?_
  refine ye ?_
  refine yw 0 rfl 4 #[.int .i64 0, .int .i64 0, .int .i64 0, .int .i64 0, .int .i64 0, .int .i64 0, .int .i64 0, .bool false, .bool false, .bool false, .bool false, .nilFunc] 116 (fun V1 hbV1 hzV1 b4 => ?_)
  refine yzt 1 ?_
  refine ye ?_
  refine yc 1 rfl 10 ((HF V1).out) (fun Gx hGx => ?_)
  rintro eV2 V2 ⟨rfl, hbV2⟩
  have hzV2 := hbV2.size
  refine ⟨_, rfl, hGx _ _ ?_⟩
  clear hGx Gx
  refine yw 3 rfl 6 #[.int .i64 0, .int .i64 0, .int .i64 0, .int .i64 0, .int .i64 0, .int .i64 0, .int .i64 0, .bool false, .bool false, .bool false, .bool false, .nilFunc] 116 (fun V3 hbV3 hzV3 b6 => ?_)
  have boV4 := b6
  refine ysw 0 rfl b6 hT116 #[.int .i64 ((f.size : Nat) : Int), .int .i64 ((f.E : Nat) : Int), .int .i64 ((f.F : Nat) : Int), .int .i64 f.g.rad, .int .i64 f.g.digs, .int .i64 f.g.lo, .int .i64 f.g.hi, .bool f.g.grad, .bool f.hid, .bool f.inf, .bool f.res, .func (.func (ordF f)) #[] #[]] ?_
  clear b6
  intro V4 hOV4 b6
  have hzV4 := hOV4.size
  refine yzt 1 ?_
  refine wp_seq ?_
  refine ye ?_
  refine yl 6 rfl 19 b6 hT3 0 ?_
  refine yb 0 rfl 20 (((s.size : Nat) : Int) != ((f.size : Nat) : Int)) (false) (by simp [hs]) ?_
  refine yzt 1 ?_
  refine yF ?_
  refine wp_skip ?_
  refine sx_then ?_
  refine ye ?_
  refine yla 0 rfl 22 b6 hT116 0 ?_
  replace b4 := (b4.past ((bthru hbV2 hbV3).trans (hOV4.below (by omega))))
  have boV5 := b4
  refine ysw 1 rfl b4 hT116 #[.int .i64 ((f.size : Nat) : Int), .int .i64 ((f.E : Nat) : Int), .int .i64 ((f.F : Nat) : Int), .int .i64 f.g.rad, .int .i64 f.g.digs, .int .i64 f.g.lo, .int .i64 f.g.hi, .bool f.g.grad, .bool f.hid, .bool f.inf, .bool f.res, .func (.func (ordF f)) #[] #[]] ?_
  clear b4
  intro V5 hOV5 b4
  have hzV5 := hOV5.size
  refine yzt 1 ?_
  refine wp_ret ?_
  repeat (first | with_reducible refine sx_thenret ?_ | with_reducible refine sx_blockret ?_)
  refine yret (.tuple #[.agg #[.int .i64 ((f.size : Nat) : Int), .int .i64 ((f.E : Nat) : Int), .int .i64 ((f.F : Nat) : Int), .int .i64 f.g.rad, .int .i64 f.g.digs, .int .i64 f.g.lo, .int .i64 f.g.hi, .bool f.g.grad, .bool f.hid, .bool f.inf, .bool f.res, .func (.func (ordF f)) #[] #[]], .int .i64 0]) (res2 Tryd.results58 (rvr b4 hT116) rvt) ?_
  exact ⟨rfl, (((bthru (bthru hbV1 hbV2) hbV3).trans (hOV4.below (by omega))).trans (hOV5.below (by omega)))⟩
theorem open_one (n : Int) (s : ByteArray) (w : World) (hn : IsFm n) (hs : s.size ≠ (fmt n).size) :
    Calls Tryd.prog 58 #[.int .i64 n, .string s] w fun en w' => en = .returned (.tuple #[.agg #[.int .i64 (((fmt n).size : Nat) : Int), .int .i64 (((fmt n).E : Nat) : Int), .int .i64 (((fmt n).F : Nat) : Int), .int .i64 (fmt n).g.rad, .int .i64 (fmt n).g.digs, .int .i64 (fmt n).g.lo, .int .i64 (fmt n).g.hi, .bool (fmt n).g.grad, .bool (fmt n).hid, .bool (fmt n).inf, .bool (fmt n).res, .func (.func (ordF (fmt n))) #[] #[]], .int .i64 1]) ∧ Below w.heap.size w w' := by
  have HF := fun W => Lib.hid (forms_any n hn W)
  generalize fmt n = f at *
  have hT3 : SxOne Tryd.prog 3 := sxOne_of (by kernel_rfl) (by kernel_rfl)
  have hT116 : SxAgg Tryd.prog 116 12 := sxAgg_of (by kernel_rfl) (by kernel_rfl)
  refine calls_of_wp Tryd.func58 rfl ?_
  refine sx_frame (a' := ⟨((.int .i64 n) :: (.string s) :: us 22 []).toArray, []⟩) (by kernel_rfl) ?_
  refine ye ?_
  refine yw 0 rfl 4 #[.int .i64 0, .int .i64 0, .int .i64 0, .int .i64 0, .int .i64 0, .int .i64 0, .int .i64 0, .bool false, .bool false, .bool false, .bool false, .nilFunc] 116 (fun V1 hbV1 hzV1 b4 => ?_)
  refine yzt 1 ?_
  refine ye ?_
  refine yc 1 rfl 10 ((HF V1).out) (fun Gx hGx => ?_)
  rintro eV2 V2 ⟨rfl, hbV2⟩
  have hzV2 := hbV2.size
  refine ⟨_, rfl, hGx _ _ ?_⟩
  clear hGx Gx
  refine yw 3 rfl 6 #[.int .i64 0, .int .i64 0, .int .i64 0, .int .i64 0, .int .i64 0, .int .i64 0, .int .i64 0, .bool false, .bool false, .bool false, .bool false, .nilFunc] 116 (fun V3 hbV3 hzV3 b6 => ?_)
  have boV4 := b6
  refine ysw 0 rfl b6 hT116 #[.int .i64 ((f.size : Nat) : Int), .int .i64 ((f.E : Nat) : Int), .int .i64 ((f.F : Nat) : Int), .int .i64 f.g.rad, .int .i64 f.g.digs, .int .i64 f.g.lo, .int .i64 f.g.hi, .bool f.g.grad, .bool f.hid, .bool f.inf, .bool f.res, .func (.func (ordF f)) #[] #[]] ?_
  clear b6
  intro V4 hOV4 b6
  have hzV4 := hOV4.size
  refine yzt 1 ?_
  refine wp_seq ?_
  refine ye ?_
  refine yl 6 rfl 19 b6 hT3 0 ?_
  refine yb 0 rfl 20 (((s.size : Nat) : Int) != ((f.size : Nat) : Int)) (true) (bne_iff_ne.2 (fun h => hs (by omega))) ?_
  refine yzt 1 ?_
  refine yT ?_
  refine yr ?_
  refine sx_then ?_
  refine ye ?_
  refine yla 0 rfl 22 b6 hT116 0 ?_
  replace b4 := (b4.past ((bthru hbV2 hbV3).trans (hOV4.below (by omega))))
  have boV5 := b4
  refine ysw 1 rfl b4 hT116 #[.int .i64 ((f.size : Nat) : Int), .int .i64 ((f.E : Nat) : Int), .int .i64 ((f.F : Nat) : Int), .int .i64 f.g.rad, .int .i64 f.g.digs, .int .i64 f.g.lo, .int .i64 f.g.hi, .bool f.g.grad, .bool f.hid, .bool f.inf, .bool f.res, .func (.func (ordF f)) #[] #[]] ?_
  clear b4
  intro V5 hOV5 b4
  have hzV5 := hOV5.size
  refine yzt 1 ?_
  refine wp_ret ?_
  repeat (first | with_reducible refine sx_thenret ?_ | with_reducible refine sx_blockret ?_)
  refine yret (.tuple #[.agg #[.int .i64 ((f.size : Nat) : Int), .int .i64 ((f.E : Nat) : Int), .int .i64 ((f.F : Nat) : Int), .int .i64 f.g.rad, .int .i64 f.g.digs, .int .i64 f.g.lo, .int .i64 f.g.hi, .bool f.g.grad, .bool f.hid, .bool f.inf, .bool f.res, .func (.func (ordF f)) #[] #[]], .int .i64 1]) (res2 Tryd.results58 (rvr b4 hT116) rvt) ?_
  exact ⟨rfl, (((bthru (bthru hbV1 hbV2) hbV3).trans (hOV4.below (by omega))).trans (hOV5.below (by omega)))⟩
theorem open_six (n : Int) (s : ByteArray) (w : World) (hn : ¬ IsFm n) :
    Calls Tryd.prog 58 #[.int .i64 n, .string s] w fun en w' => en = .returned (.tuple #[.agg #[.int .i64 0, .int .i64 0, .int .i64 0, .int .i64 0, .int .i64 0, .int .i64 0, .int .i64 0, .bool false, .bool false, .bool false, .bool false, .nilFunc], .int .i64 6]) ∧ Below w.heap.size w w' := by
  have HF := fun W => Lib.hid (forms_not n hn W)
  have hT116 : SxAgg Tryd.prog 116 12 := sxAgg_of (by kernel_rfl) (by kernel_rfl)
  refine calls_of_wp Tryd.func58 rfl ?_
  refine sx_frame (a' := ⟨((.int .i64 n) :: (.string s) :: us 22 []).toArray, []⟩) (by kernel_rfl) ?_
  refine ye ?_
  refine yw 0 rfl 4 #[.int .i64 0, .int .i64 0, .int .i64 0, .int .i64 0, .int .i64 0, .int .i64 0, .int .i64 0, .bool false, .bool false, .bool false, .bool false, .nilFunc] 116 (fun V1 hbV1 hzV1 b4 => ?_)
  refine yzt 1 ?_
  refine ye ?_
  refine yc 1 rfl 10 ((HF V1).out) (fun Gx hGx => ?_)
  rintro eV2 V2 ⟨rfl, hbV2⟩
  have hzV2 := hbV2.size
  refine ⟨_, rfl, hGx _ _ ?_⟩
  clear hGx Gx
  refine yw 3 rfl 6 #[.int .i64 0, .int .i64 0, .int .i64 0, .int .i64 0, .int .i64 0, .int .i64 0, .int .i64 0, .bool false, .bool false, .bool false, .bool false, .nilFunc] 116 (fun V3 hbV3 hzV3 b6 => ?_)
  have boV4 := b6
  refine ysw 0 rfl b6 hT116 #[.int .i64 0, .int .i64 0, .int .i64 0, .int .i64 0, .int .i64 0, .int .i64 0, .int .i64 0, .bool false, .bool false, .bool false, .bool false, .nilFunc] ?_
  clear b6
  intro V4 hOV4 b6
  have hzV4 := hOV4.size
  refine yzt 1 ?_
  refine wp_seq ?_
  refine yq ?_
  refine yF ?_
  refine wp_skip ?_
  refine sx_then ?_
  refine ye ?_
  refine yla 0 rfl 22 b6 hT116 0 ?_
  replace b4 := (b4.past ((bthru hbV2 hbV3).trans (hOV4.below (by omega))))
  have boV5 := b4
  refine ysw 1 rfl b4 hT116 #[.int .i64 0, .int .i64 0, .int .i64 0, .int .i64 0, .int .i64 0, .int .i64 0, .int .i64 0, .bool false, .bool false, .bool false, .bool false, .nilFunc] ?_
  clear b4
  intro V5 hOV5 b4
  have hzV5 := hOV5.size
  refine yzt 1 ?_
  refine wp_ret ?_
  repeat (first | with_reducible refine sx_thenret ?_ | with_reducible refine sx_blockret ?_)
  refine yret (.tuple #[.agg #[.int .i64 0, .int .i64 0, .int .i64 0, .int .i64 0, .int .i64 0, .int .i64 0, .int .i64 0, .bool false, .bool false, .bool false, .bool false, .nilFunc], .int .i64 6]) (res2 Tryd.results58 (rvr b4 hT116) rvt) ?_
  exact ⟨rfl, (((bthru (bthru hbV1 hbV2) hbV3).trans (hOV4.below (by omega))).trans (hOV5.below (by omega)))⟩

def GivesVe (w : World) (v : Vl) (er : Int) (en : Ending) (w' : World) : Prop :=
  ∃ p c, en = .returned (.tuple #[.agg #[.int .i64 ((v.cls : Nat) : Int), .bool v.neg, .slice p (dig B32 v.d).length c, .int .i64 v.pow], .int .i64 er]) ∧ Own w' w.heap.size .u32 91 p c (dig B32 v.d) ∧ Below w.heap.size w w'
def zeroVl : Vl := ⟨0, false, 0, 0⟩
def decP (n : Int) (s : ByteArray) : Vl := if errPat n s = 0 then (fmt n).valN (numOfS (fmt n) s) else zeroVl
theorem errPat_zero {n : Int} {s : ByteArray} : errPat n s = 0 ↔ IsFm n ∧ s.size = (fmt n).size := by
  unfold errPat
  by_cases h1 : IsFm n
  · rw [if_pos h1]
    by_cases h2 : s.size = (fmt n).size
    · rw [if_pos h2]; simp [h1, h2]
    · rw [if_neg h2]; simp [h2]
  · rw [if_neg h1]; simp [h1]
theorem givesVe_err {w w' : World} {er : Int} {en : Ending} (h : en = .returned (.tuple #[.agg #[.int .i64 0, .bool false, .slice none 0 0, .int .i64 0], .int .i64 er])) (hb : Below w.heap.size w w') : GivesVe w zeroVl er en w' := by
  refine ⟨none, 0, ?_, ?_, hb⟩
  · rw [h]; show _ = Ending.returned (.tuple #[.agg #[_, _, .slice none (dig B32 0).length 0, _], _]); rw [dig_zero]; rfl
  · show Own _ _ _ _ _ _ (dig B32 0); rw [dig_zero]; exact Own.nil _ _ _ _

theorem Decode_any (n : Int) (s : ByteArray) (w : World) (hT : TabW w) :
    Calls Tryd.prog 23 #[.int .i64 n, .string s] w (GivesVe w (decP n s) (errPat n s)) := by
  by_cases hn : IsFm n
  · by_cases hs : s.size = (fmt n).size
    · have h0 : errPat n s = 0 := errPat_zero.2 ⟨hn, hs⟩
      have hd : decP n s = (fmt n).valN (numOfS (fmt n) s) := by unfold decP; rw [if_pos h0]
      rw [hd, h0]
      have HF := fun W => Lib.hid (open_ok n s W hn hs)
      have HD := fun W h => Lib.hid (decode_any (fmt n) s W (good_fm hn) hs h)
      generalize (fmt n).valN (numOfS (fmt n) s) = v at *
      generalize (fmt n).neg (numOfS (fmt n) s) = g at *
      generalize fmt n = f at *
      have hT56 : SxAgg Tryd.prog 56 4 := sxAgg_of (by kernel_rfl) (by kernel_rfl)
      have hT116 : SxAgg Tryd.prog 116 12 := sxAgg_of (by kernel_rfl) (by kernel_rfl)
      refine calls_of_wp Tryd.func23 rfl ?_
      refine sx_frame (a' := ⟨((.int .i64 n) :: (.string s) :: us 25 []).toArray, []⟩) (by kernel_rfl) ?_
      refine ye ?_
      refine yw 0 rfl 4 #[.int .i64 0, .bool false, .slice none 0 0, .int .i64 0] 56 (fun V1 hbV1 hzV1 b4 => ?_)
      refine yzt 1 ?_
      refine ye ?_
      refine yc 2 rfl 13 ((HF V1).out) (fun Gx hGx => ?_)
      rintro eV2 V2 ⟨rfl, hbV2⟩
      have hzV2 := hbV2.size
      refine ⟨_, rfl, hGx _ _ ?_⟩
      clear hGx Gx
      refine yw 3 rfl 6 #[.int .i64 0, .int .i64 0, .int .i64 0, .int .i64 0, .int .i64 0, .int .i64 0, .int .i64 0, .bool false, .bool false, .bool false, .bool false, .nilFunc] 116 (fun V3 hbV3 hzV3 b6 => ?_)
      have boV4 := b6
      refine ysw 0 rfl b6 hT116 #[.int .i64 ((f.size : Nat) : Int), .int .i64 ((f.E : Nat) : Int), .int .i64 ((f.F : Nat) : Int), .int .i64 f.g.rad, .int .i64 f.g.digs, .int .i64 f.g.lo, .int .i64 f.g.hi, .bool f.g.grad, .bool f.hid, .bool f.inf, .bool f.res, .func (.func (ordF f)) #[] #[]] ?_
      clear b6
      intro V4 hOV4 b6
      have hzV4 := hOV4.size
      refine yzt 1 ?_
      refine wp_seq ?_
      refine yq ?_
      refine yF ?_
      refine wp_skip ?_
      refine sx_then ?_
      refine ye ?_
      refine yla 0 rfl 21 b6 hT116 0 ?_
      replace hT := (hT.past ((bthru (bthru hbV1 hbV2) hbV3).trans (hOV4.below (by omega))))
      refine yc 1 rfl 23 ((HD V4 hT).out) (fun Gx hGx => ?_)
      rintro eV5 V5 ⟨p23, c23, rfl, o23, hbV5⟩
      have hzV5 := hbV5.size
      refine ⟨_, rfl, hGx _ _ ?_⟩
      clear hGx Gx
      refine yw 3 rfl 8 #[.int .i64 0, .bool false, .slice none 0 0, .int .i64 0] 56 (fun V6 hbV6 hzV6 b8 => ?_)
      have boV7 := b8
      refine ysw 0 rfl b8 hT56 #[.int .i64 ((v.cls : Nat) : Int), .bool v.neg, .slice p23 (dig B32 v.d).length c23, .int .i64 v.pow] ?_
      clear b8
      intro V7 hOV7 b8
      have hzV7 := hOV7.size
      refine yzt 1 ?_
      refine ye ?_
      refine yla 0 rfl 26 b8 hT56 0 ?_
      replace b4 := (b4.past ((bthru (bthru ((bthru hbV2 hbV3).trans (hOV4.below (by omega))) hbV5) hbV6).trans (hOV7.below (by omega))))
      have boV8 := b4
      refine ysw 0 rfl b4 hT56 #[.int .i64 ((v.cls : Nat) : Int), .bool v.neg, .slice p23 (dig B32 v.d).length c23, .int .i64 v.pow] ?_
      clear b4
      intro V8 hOV8 b4
      have hzV8 := hOV8.size
      refine yzt 1 ?_
      refine wp_ret ?_
      repeat (first | with_reducible refine sx_thenret ?_ | with_reducible refine sx_blockret ?_)
      refine yret (.tuple #[.agg #[.int .i64 ((v.cls : Nat) : Int), .bool v.neg, .slice p23 (dig B32 v.d).length c23, .int .i64 v.pow], .int .i64 0]) (res2 Tryd.results23 (rvr b4 hT56) rvt) ?_
      replace o23 := ((o23.past (hbV6.trans (hOV7.below (by omega)))).put boV8 hOV8 (by kernel_rfl))
      exact ⟨p23, c23, rfl, o23.mono (by omega), (((bthru (bthru ((bthru (bthru hbV1 hbV2) hbV3).trans (hOV4.below (by omega))) hbV5) hbV6).trans (hOV7.below (by omega))).trans (hOV8.below (by omega)))⟩
    · have h0 : errPat n s = 1 := by unfold errPat; rw [if_pos hn, if_neg hs]
      have hd : decP n s = zeroVl := by unfold decP; rw [if_neg (by omega)]
      rw [hd, h0]
      have HF := fun W => Lib.hid (open_one n s W hn hs)
      generalize fmt n = f at *
      have hT56 : SxAgg Tryd.prog 56 4 := sxAgg_of (by kernel_rfl) (by kernel_rfl)
      have hT116 : SxAgg Tryd.prog 116 12 := sxAgg_of (by kernel_rfl) (by kernel_rfl)
      refine calls_of_wp Tryd.func23 rfl ?_
      refine sx_frame (a' := ⟨((.int .i64 n) :: (.string s) :: us 25 []).toArray, []⟩) (by kernel_rfl) ?_
      refine ye ?_
      refine yw 0 rfl 4 #[.int .i64 0, .bool false, .slice none 0 0, .int .i64 0] 56 (fun V1 hbV1 hzV1 b4 => ?_)
      refine yzt 1 ?_
      refine ye ?_
      refine yc 2 rfl 13 ((HF V1).out) (fun Gx hGx => ?_)
      rintro eV2 V2 ⟨rfl, hbV2⟩
      have hzV2 := hbV2.size
      refine ⟨_, rfl, hGx _ _ ?_⟩
      clear hGx Gx
      refine yw 3 rfl 6 #[.int .i64 0, .int .i64 0, .int .i64 0, .int .i64 0, .int .i64 0, .int .i64 0, .int .i64 0, .bool false, .bool false, .bool false, .bool false, .nilFunc] 116 (fun V3 hbV3 hzV3 b6 => ?_)
      have boV4 := b6
      refine ysw 0 rfl b6 hT116 #[.int .i64 ((f.size : Nat) : Int), .int .i64 ((f.E : Nat) : Int), .int .i64 ((f.F : Nat) : Int), .int .i64 f.g.rad, .int .i64 f.g.digs, .int .i64 f.g.lo, .int .i64 f.g.hi, .bool f.g.grad, .bool f.hid, .bool f.inf, .bool f.res, .func (.func (ordF f)) #[] #[]] ?_
      clear b6
      intro V4 hOV4 b6
      have hzV4 := hOV4.size
      refine yzt 1 ?_
      refine wp_seq ?_
      refine yq ?_
      refine yT ?_
      refine ye ?_
      replace b4 := (b4.past ((bthru hbV2 hbV3).trans (hOV4.below (by omega))))
      have boV5 := b4
      refine ysw 2 rfl b4 hT56 #[.int .i64 0, .bool false, .slice none 0 0, .int .i64 0] ?_
      clear b4
      intro V5 hOV5 b4
      have hzV5 := hOV5.size
      refine yzt 1 ?_
      refine wp_ret ?_
      repeat (first | with_reducible refine sx_thenret ?_ | with_reducible refine sx_blockret ?_)
      refine yret (.tuple #[.agg #[.int .i64 0, .bool false, .slice none 0 0, .int .i64 0], .int .i64 1]) (res2 Tryd.results23 (rvr b4 hT56) rvt) ?_
      exact givesVe_err rfl (((bthru (bthru hbV1 hbV2) hbV3).trans (hOV4.below (by omega))).trans (hOV5.below (by omega)))
  · have h0 : errPat n s = 6 := by unfold errPat; rw [if_neg hn]
    have hd : decP n s = zeroVl := by unfold decP; rw [if_neg (by omega)]
    rw [hd, h0]
    have HF := fun W => Lib.hid (open_six n s W hn)
    have hT56 : SxAgg Tryd.prog 56 4 := sxAgg_of (by kernel_rfl) (by kernel_rfl)
    have hT116 : SxAgg Tryd.prog 116 12 := sxAgg_of (by kernel_rfl) (by kernel_rfl)
    refine calls_of_wp Tryd.func23 rfl ?_
    refine sx_frame (a' := ⟨((.int .i64 n) :: (.string s) :: us 25 []).toArray, []⟩) (by kernel_rfl) ?_
    refine ye ?_
    refine yw 0 rfl 4 #[.int .i64 0, .bool false, .slice none 0 0, .int .i64 0] 56 (fun V1 hbV1 hzV1 b4 => ?_)
    refine yzt 1 ?_
    refine ye ?_
    refine yc 2 rfl 13 ((HF V1).out) (fun Gx hGx => ?_)
    rintro eV2 V2 ⟨rfl, hbV2⟩
    have hzV2 := hbV2.size
    refine ⟨_, rfl, hGx _ _ ?_⟩
    clear hGx Gx
    refine yw 3 rfl 6 #[.int .i64 0, .int .i64 0, .int .i64 0, .int .i64 0, .int .i64 0, .int .i64 0, .int .i64 0, .bool false, .bool false, .bool false, .bool false, .nilFunc] 116 (fun V3 hbV3 hzV3 b6 => ?_)
    have boV4 := b6
    refine ysw 0 rfl b6 hT116 #[.int .i64 0, .int .i64 0, .int .i64 0, .int .i64 0, .int .i64 0, .int .i64 0, .int .i64 0, .bool false, .bool false, .bool false, .bool false, .nilFunc] ?_
    clear b6
    intro V4 hOV4 b6
    have hzV4 := hOV4.size
    refine yzt 1 ?_
    refine wp_seq ?_
    refine yq ?_
    refine yT ?_
    refine ye ?_
    replace b4 := (b4.past ((bthru hbV2 hbV3).trans (hOV4.below (by omega))))
    have boV5 := b4
    refine ysw 2 rfl b4 hT56 #[.int .i64 0, .bool false, .slice none 0 0, .int .i64 0] ?_
    clear b4
    intro V5 hOV5 b4
    have hzV5 := hOV5.size
    refine yzt 1 ?_
    refine wp_ret ?_
    repeat (first | with_reducible refine sx_thenret ?_ | with_reducible refine sx_blockret ?_)
    refine yret (.tuple #[.agg #[.int .i64 0, .bool false, .slice none 0 0, .int .i64 0], .int .i64 6]) (res2 Tryd.results23 (rvr b4 hT56) rvt) ?_
    exact givesVe_err rfl (((bthru (bthru hbV1 hbV2) hbV3).trans (hOV4.below (by omega))).trans (hOV5.below (by omega)))

def errFm (n : Int) : Int := if IsFm n then 0 else 6
theorem fmt_not {n : Int} (h : ¬ IsFm n) : fmt n = ⟨0, 0, 0, ⟨0, 0, 0, 0, false⟩, 0, false⟩ := by
  unfold IsFm at h
  unfold fmt
  rw [if_neg (by omega), if_neg (by omega), if_neg (by omega), if_neg (by omega), if_neg (by omega), if_neg (by omega), if_neg (by omega), if_neg (by omega)]
theorem Size_any (n : Int) (w : World) : Calls Tryd.prog 32 #[.int .i64 n] w fun en w' => en = .returned (.tuple #[.int .i64 (((fmt n).size : Nat) : Int), .int .i64 (errFm n)]) ∧ Below w.heap.size w w' := by
  by_cases hn : IsFm n
  · have h0 : errFm n = 0 := by unfold errFm; rw [if_pos hn]
    rw [h0]
    have HF := fun W => Lib.hid (forms_any n hn W)
    generalize fmt n = f at *
    have hT3 : SxOne Tryd.prog 3 := sxOne_of (by kernel_rfl) (by kernel_rfl)
    have hT116 : SxAgg Tryd.prog 116 12 := sxAgg_of (by kernel_rfl) (by kernel_rfl)
    refine calls_of_wp Tryd.func32 rfl ?_
    refine sx_frame (a' := ⟨((.int .i64 n) :: us 13 []).toArray, []⟩) (by kernel_rfl) ?_
    refine yq ?_
    refine ye ?_
    refine yc 1 rfl 8 ((HF w).out) (fun Gx hGx => ?_)
    rintro eV1 V1 ⟨rfl, hbV1⟩
    have hzV1 := hbV1.size
    refine ⟨_, rfl, hGx _ _ ?_⟩
    clear hGx Gx
    refine yw 3 rfl 4 #[.int .i64 0, .int .i64 0, .int .i64 0, .int .i64 0, .int .i64 0, .int .i64 0, .int .i64 0, .bool false, .bool false, .bool false, .bool false, .nilFunc] 116 (fun V2 hbV2 hzV2 b4 => ?_)
    have boV3 := b4
    refine ysw 0 rfl b4 hT116 #[.int .i64 ((f.size : Nat) : Int), .int .i64 ((f.E : Nat) : Int), .int .i64 ((f.F : Nat) : Int), .int .i64 f.g.rad, .int .i64 f.g.digs, .int .i64 f.g.lo, .int .i64 f.g.hi, .bool f.g.grad, .bool f.hid, .bool f.inf, .bool f.res, .func (.func (ordF f)) #[] #[]] ?_
    clear b4
    intro V3 hOV3 b4
    have hzV3 := hOV3.size
    refine yzt 1 ?_
    refine ye ?_
    refine yl 1 rfl 12 b4 hT3 0 ?_
    refine yzt 3 ?_
    refine wp_ret ?_
    repeat (first | with_reducible refine sx_thenret ?_ | with_reducible refine sx_blockret ?_)
    refine yret (.tuple #[.int .i64 ((f.size : Nat) : Int), .int .i64 0]) (res2 Tryd.results32 rvt rvt) ?_
    exact ⟨rfl, ((bthru hbV1 hbV2).trans (hOV3.below (by omega)))⟩
  · have h0 : errFm n = 6 := by unfold errFm; rw [if_neg hn]
    rw [h0, fmt_not hn]
    have HF := fun W => Lib.hid (forms_not n hn W)
    have hT3 : SxOne Tryd.prog 3 := sxOne_of (by kernel_rfl) (by kernel_rfl)
    have hT116 : SxAgg Tryd.prog 116 12 := sxAgg_of (by kernel_rfl) (by kernel_rfl)
    refine calls_of_wp Tryd.func32 rfl ?_
    refine sx_frame (a' := ⟨((.int .i64 n) :: us 13 []).toArray, []⟩) (by kernel_rfl) ?_
    refine yq ?_
    refine ye ?_
    refine yc 1 rfl 8 ((HF w).out) (fun Gx hGx => ?_)
    rintro eV1 V1 ⟨rfl, hbV1⟩
    have hzV1 := hbV1.size
    refine ⟨_, rfl, hGx _ _ ?_⟩
    clear hGx Gx
    refine yw 3 rfl 4 #[.int .i64 0, .int .i64 0, .int .i64 0, .int .i64 0, .int .i64 0, .int .i64 0, .int .i64 0, .bool false, .bool false, .bool false, .bool false, .nilFunc] 116 (fun V2 hbV2 hzV2 b4 => ?_)
    have boV3 := b4
    refine ysw 0 rfl b4 hT116 #[.int .i64 0, .int .i64 0, .int .i64 0, .int .i64 0, .int .i64 0, .int .i64 0, .int .i64 0, .bool false, .bool false, .bool false, .bool false, .nilFunc] ?_
    clear b4
    intro V3 hOV3 b4
    have hzV3 := hOV3.size
    refine yzt 1 ?_
    refine ye ?_
    refine yl 1 rfl 12 b4 hT3 0 ?_
    refine yzt 3 ?_
    refine wp_ret ?_
    repeat (first | with_reducible refine sx_thenret ?_ | with_reducible refine sx_blockret ?_)
    refine yret (.tuple #[.int .i64 0, .int .i64 6]) (res2 Tryd.results32 rvt rvt) ?_
    exact ⟨rfl, ((bthru hbV1 hbV2).trans (hOV3.below (by omega)))⟩
end Go.Proofs.YtcipdimogodndaaDoor

namespace Go.Proofs.YtcipdimogodndaaDoor
open Go.RowKit Go.Slip

def numD (f : Fm) (a : Din) : Dv := bare ⟨a.g, val B32 a.xs, wid f.g * a.e⟩
def errEnc (f : Fm) (cls : Int) (a : Din) : Int :=
  if cls < 1 ∨ 5 < cls then 6
  else if errNat a.xs ≠ 0 then errNat a.xs
  else if ((cls = 3 ∨ cls = 4) ∧ f.inf = false) ∨ (cls = 5 ∧ f.res = false) then 5
  else if cls = 2 then
    if a.e < -20000 ∨ 20000 < a.e then 3
    else if a.xs.length = 0 ∨ inGridD (numD f a) f.g = false then 4 else 0
  else if 0 < a.xs.length ∨ a.e ≠ 0 ∨ (a.g = true ∧ (4 ≤ cls ∨ f.res = true)) then 4 else 0
def encOut (f : Fm) (cls : Int) (a : Din) : ByteArray := strOf (f.strP (f.encP cls.toNat a.g (numD f a)))
def GivesS (w : World) (er : Int) (s : ByteArray) (en : Ending) (w' : World) : Prop :=
  en = .returned (.tuple #[.string (if er = 0 then s else strOf []), .int .i64 er]) ∧ Below w.heap.size w w'
theorem givesS_err {w w' : World} {er r : Int} {s : ByteArray} {en : Ending} (h : er = r) (hr : r ≠ 0) (he : en = .returned (.tuple #[.string ⟨#[]⟩, .int .i64 r])) (hb : Below w.heap.size w w') : GivesS w er s en w' := by
  subst h
  exact ⟨by rw [he, if_neg hr]; rfl, hb⟩
theorem givesS_ok {w w' : World} {er : Int} {s t : ByteArray} {en : Ending} (h : er = 0) (hs : s = t) (he : en = .returned (.tuple #[.string t, .int .i64 0])) (hb : Below w.heap.size w w') : GivesS w er s en w' := by
  subst h hs
  exact ⟨by rw [he, if_pos rfl], hb⟩

theorem numD_bd {f : Fm} {w : World} {a : Din} (ha : InD w a) (h : errNat a.xs = 0) (he : -20000 ≤ a.e ∧ a.e ≤ 20000) : (dig B32 (numD f a).m).length ≤ 1200 ∧ -100000 ≤ (numD f a).e ∧ (numD f a).e ≤ 150000 := by
  obtain ⟨h1, h2⟩ := errNat_ok ha.lt h
  have hl : (dig B32 (val B32 a.xs)).length ≤ 1200 := by rw [← h1]; exact h2
  have k1 := bare_len B32_two (⟨a.g, val B32 a.xs, wid f.g * a.e⟩ : Dv)
  have wp := wid_pos f.g
  have hmu := mul_bd (wd := wid f.g) (k := a.e) (B := 20000) wp.2 he
  refine ⟨Nat.le_trans k1 hl, ?_⟩
  unfold numD
  by_cases h0 : val B32 a.xs = 0
  · rw [h0, bare_zero]; simp
  · have ht := tz_lt_blen (m := val B32 a.xs) (by omega)
    have hb := blen_len32 (val B32 a.xs)
    unfold bare
    rw [if_neg h0]
    simp only
    omega

theorem join_nil (f : Fm) (g : Bool) (E : Int) (e : Nat) (hE : E = e) (w : World) (G : GoodF f) (he : e < 2 ^ f.E) :
    Calls Tryd.prog 75 #[.agg #[.int .i64 ((f.size : Nat) : Int), .int .i64 ((f.E : Nat) : Int), .int .i64 ((f.F : Nat) : Int), .int .i64 f.g.rad, .int .i64 f.g.digs, .int .i64 f.g.lo, .int .i64 f.g.hi, .bool f.g.grad, .bool f.hid, .bool f.inf, .bool f.res, .func (.func (ordF f)) #[] #[]], .agg #[.bool g, .int .i64 E, .slice none 0 0]] w fun en w' => en = .returned (.string (strOf (f.str g e 0))) ∧ Below w.heap.size w w' := by
  have := join_int f g E e 0 hE none 0 w G (by rw [dig_zero]; exact Rd.nil _ _ _) he (Nat.pow_pos (by omega))
  rw [dig_zero] at this
  exact this

set_option maxHeartbeats 4000000 in
set_option maxRecDepth 100000 in
theorem encode_fm (n : Int) (cls : Int) (a : Din) (w : World) (hn : IsFm n) (ha : InD w a) (hT : TabW w) :
    Calls Tryd.prog 29 #[.int .i64 n, .agg #[.int .i64 cls, .bool a.g, .slice a.p a.xs.length a.c, .int .i64 a.e]] w (GivesS w (errEnc (fmt n) cls a) (encOut (fmt n) cls a)) := by
  have G := good_fm hn
  have HF := fun W => Lib.hid (forms_any n hn W)
  generalize fmt n = f at *
  have HR : ∀ (W : World), errNat a.xs = 0 → Rd W .u32 a.p a.xs → -20000 ≤ a.e ∧ a.e ≤ 20000 → TabW W → Hid (Calls Tryd.prog 71 #[.agg #[.int .i64 ((f.size : Nat) : Int), .int .i64 ((f.E : Nat) : Int), .int .i64 ((f.F : Nat) : Int), .int .i64 f.g.rad, .int .i64 f.g.digs, .int .i64 f.g.lo, .int .i64 f.g.hi, .bool f.g.grad, .bool f.hid, .bool f.inf, .bool f.res, .func (.func (ordF f)) #[] #[]], .agg #[.int .i64 cls, .bool a.g, .slice a.p a.xs.length a.c, .int .i64 a.e]] W (GivesD W W.heap.size (numD f a))) := by
    intro W h1 h2 h3 h4
    obtain ⟨k1, k2⟩ := errNat_ok ha.lt h1
    have hc := ha.cap
    have := raw_any f a.g (val B32 a.xs) a.e cls a.p a.c W (by rw [← k1]; exact h2) (by rw [← k1]; exact hc) (by rw [← k1]; omega) ⟨by omega, by omega⟩ h4
    rw [← k1] at this
    exact Lib.hid this
  have hB : Bare (numD f a) := bare_bare _
  have hbd := fun h h2 => numD_bd (f := f) ha h h2
  have hkp := keeps_eq hB (goodG_of G.g)
  have hxl : 0 < a.xs.length ↔ a.xs.length ≠ 0 := by omega
  have hm0 : errNat a.xs = 0 → a.xs.length ≠ 0 → (numD f a).m ≠ 0 := fun h1 h2 h3 => by
    obtain ⟨k1, _⟩ := errNat_ok ha.lt h1
    have h4 : val B32 a.xs ≠ 0 := fun h => h2 (by rw [k1]; exact (dig_len_zero B32_two _).2 h)
    unfold numD bare at h3
    rw [if_neg h4] at h3
    simp only at h3
    have := (tz_spec (val B32 a.xs) (by omega)).2
    rw [h3] at this
    simp at this
  have hige := fun h => inGrid_e (a := numD f a) G.g hB h
  have z2 := G.e2
  have z3 := G.f2
  have z4 := G.f1
  have hsh := shl_one (E := f.E) (by omega)
  have h0T : 0 < 2 ^ f.E := Nat.pow_pos (by omega)
  have h0T2 : 2 ^ f.E ≤ 2 ^ 15 := Nat.pow_le_pow_right (by omega) (by omega)
  have HSH := Lib.hid hsh
  have hlen := ha.len
  have hhid : f.inf = true → (f.hid = true ↔ f.ext = false) := fun h => by
    have h1 : f.fam = 1 := by unfold Fm.inf at h; simpa using h
    unfold Fm.hid
    rw [h1]
    cases f.ext <;> simp
  have rd := ha.rd
  unfold encOut
  obtain ⟨d, hD⟩ : ∃ d, numD f a = d := ⟨_, rfl⟩
  rw [hD] at HR hB hbd hkp hm0 hige ⊢
  have e1 : f.encP 1 a.g d = ⟨a.g, 0, 0⟩ := rfl
  have e2 : f.encP 2 a.g d = f.numP d := rfl
  have e3 : f.encP 3 a.g d = ⟨a.g, 2 ^ f.E - 1, if f.ext then 2 ^ 63 else 0⟩ := rfl
  have e4 : f.encP 4 a.g d = ⟨a.g, 2 ^ f.E - 1, if f.ext then 2 ^ 63 + 2 ^ 62 else 2 ^ (f.F - 1)⟩ := rfl
  have e5 : f.encP 5 a.g d = ⟨true, 0, 0⟩ := rfl
  have hF1 : 2 ^ (f.F - 1) < 2 ^ f.F := Nat.pow_lt_pow_right (by omega) (by omega)
  have hF0 : 0 < 2 ^ f.F := Nat.pow_pos (by omega)
  have hx64 : f.ext = true → 2 ^ f.F = 2 ^ 64 := fun h => by rw [(G.ext h).2.1]
  have hext : f.inf = true → f.hid = false → f.ext = true := fun h1 h2 => by
    cases hx : f.ext with
    | true => rfl
    | false => have := (hhid h1).2 hx; rw [h2] at this; cases this
  have hJ := fun (W : World) (g : Bool) (E : Int) (e x : Nat) (hE : E = e) (p : Option Addr) (c : Nat) h h1 h2 => Lib.hid (join_int f g E e x hE p c W G h h1 h2)
  have hJ0 := fun (W : World) (g : Bool) (E : Int) (e : Nat) (hE : E = e) h1 => Lib.hid (join_nil f g E e hE W G h1)
  have h63 : (dig B32 (2 ^ 63)).length ≤ 2 := dig_le_pow (n := 64) (by omega) (by omega)
  have h62 : (dig B32 (2 ^ 62)).length ≤ 2 := dig_le_pow (n := 64) (by omega) (by omega)
  generalize 2 ^ f.E = P at *
  clear hsh ha
  have hT3 : SxOne Tryd.prog 3 := sxOne_of (by kernel_rfl) (by kernel_rfl)
  have hT4 : SxOne Tryd.prog 4 := sxOne_of (by kernel_rfl) (by kernel_rfl)
  have hT23 : SxOne Tryd.prog 23 := sxOne_of (by kernel_rfl) (by kernel_rfl)
  have hT29 : SxAgg Tryd.prog 29 5 := sxAgg_of (by kernel_rfl) (by kernel_rfl)
  have hT56 : SxAgg Tryd.prog 56 4 := sxAgg_of (by kernel_rfl) (by kernel_rfl)
  have hT116 : SxAgg Tryd.prog 116 12 := sxAgg_of (by kernel_rfl) (by kernel_rfl)
  have hT137 : SxAgg Tryd.prog 137 3 := sxAgg_of (by kernel_rfl) (by kernel_rfl)
  refine calls_of_wp Tryd.func29 rfl ?_
  refine sx_frame (a' := ⟨((.int .i64 n) :: (.agg #[.int .i64 cls, .bool a.g, .slice a.p a.xs.length a.c, .int .i64 a.e]) :: us 145 []).toArray, []⟩) (by kernel_rfl) ?_
  refine ye ?_
  refine yw 0 rfl 3 #[.int .i64 cls, .bool a.g, .slice a.p a.xs.length a.c, .int .i64 a.e] 56 (fun V1 hbV1 hzV1 b3 => ?_)
  refine yzt 2 ?_
  refine ye ?_
  refine yc 1 rfl 13 ((HF V1).out) (fun Gx hGx => ?_)
  rintro eV2 V2 ⟨rfl, hbV2⟩
  have hzV2 := hbV2.size
  refine ⟨_, rfl, hGx _ _ ?_⟩
  clear hGx Gx
  refine yw 3 rfl 6 #[.int .i64 0, .int .i64 0, .int .i64 0, .int .i64 0, .int .i64 0, .int .i64 0, .int .i64 0, .bool false, .bool false, .bool false, .bool false, .nilFunc] 116 (fun V3 hbV3 hzV3 b6 => ?_)
  have boV4 := b6
  refine ysw 0 rfl b6 hT116 #[.int .i64 ((f.size : Nat) : Int), .int .i64 ((f.E : Nat) : Int), .int .i64 ((f.F : Nat) : Int), .int .i64 f.g.rad, .int .i64 f.g.digs, .int .i64 f.g.lo, .int .i64 f.g.hi, .bool f.g.grad, .bool f.hid, .bool f.inf, .bool f.res, .func (.func (ordF f)) #[] #[]] ?_
  clear b6
  intro V4 hOV4 b6
  have hzV4 := hOV4.size
  refine yzt 1 ?_
  refine wp_seq ?_
  refine yq ?_
  refine yF ?_
  refine wp_skip ?_
  refine sx_then ?_
  refine wp_seq ?_
  refine ye ?_
  replace b3 := (b3.past ((bthru hbV2 hbV3).trans (hOV4.below (by omega))))
  refine yl 1 rfl 20 b3 hT3 0 ?_
  rcases Bool.eq_false_or_eq_true (decide (cls < 1)) with f21 | f21
  · skip
    refine yb 0 rfl 21 (decide (cls < 1)) (true) (f21) ?_
    refine yzt 5 ?_
    refine yT ?_
    have hE : errEnc f cls a = 6 := by unfold errEnc; rw [if_pos (by first | (have := of_decide_eq_true f21; omega) | (have := of_decide_eq_true f25; omega))]
    have hN : (6 : Int) ≠ 0 := by decide
    refine yq ?_
    refine wp_ret ?_
    repeat (first | with_reducible refine sx_thenret ?_ | with_reducible refine sx_blockret ?_)
    refine yret (.tuple #[Go.Value.string (ByteArray.mk #[]), .int .i64 6]) (res2 Tryd.results29 rvt rvt) ?_
    exact givesS_err hE hN rfl ((bthru (bthru hbV1 hbV2) hbV3).trans (hOV4.below (by omega)))
  refine yb 0 rfl 21 (decide (cls < 1)) (false) (f21) ?_
  refine yl 2 rfl 24 b3 hT3 0 ?_
  rcases Bool.eq_false_or_eq_true (decide (cls > 5)) with f25 | f25
  · skip
    refine yb 0 rfl 25 (decide (cls > 5)) (true) (f25) ?_
    refine yzt 1 ?_
    refine yT ?_
    have hE : errEnc f cls a = 6 := by unfold errEnc; rw [if_pos (by first | (have := of_decide_eq_true f21; omega) | (have := of_decide_eq_true f25; omega))]
    have hN : (6 : Int) ≠ 0 := by decide
    refine yq ?_
    refine wp_ret ?_
    repeat (first | with_reducible refine sx_thenret ?_ | with_reducible refine sx_blockret ?_)
    refine yret (.tuple #[Go.Value.string (ByteArray.mk #[]), .int .i64 6]) (res2 Tryd.results29 rvt rvt) ?_
    exact givesS_err hE hN rfl ((bthru (bthru hbV1 hbV2) hbV3).trans (hOV4.below (by omega)))
  refine yb 0 rfl 25 (decide (cls > 5)) (false) (f25) ?_
  refine yzt 1 ?_
  refine yF ?_
  refine wp_skip ?_
  refine sx_then ?_
  refine wp_seq ?_
  have c1 : ¬ (cls < 1 ∨ 5 < cls) := by have := of_decide_eq_false f21; have := of_decide_eq_false f25; omega
  refine ye ?_
  refine yl 1 rfl 28 b3 hT23 2 ?_
  replace rd := (rd.past ((bthru (bthru hbV1 hbV2) hbV3).trans (hOV4.below (by omega))))
  refine yc 0 rfl 29 (natCheck1_any a.p _ a.c a.xs V4 rd rfl hlen) (fun Gx hGx => ?_)
  rintro eV5 V5 ⟨rfl, hbV5⟩
  have hzV5 := hbV5.size
  refine ⟨_, rfl, hGx _ _ ?_⟩
  clear hGx Gx
  refine yzt 1 ?_
  refine ye ?_
  rcases Bool.eq_false_or_eq_true ((errNat a.xs) != 0) with f31 | f31
  · skip
    refine yb 1 rfl 31 ((errNat a.xs) != 0) (true) (f31) ?_
    refine yzt 0 ?_
    refine yT ?_
    have hN : errNat a.xs ≠ 0 := bne_iff_ne.1 f31
    have hE : errEnc f cls a = errNat a.xs := by unfold errEnc; rw [if_neg c1, if_pos hN]
    refine yq ?_
    refine wp_ret ?_
    repeat (first | with_reducible refine sx_thenret ?_ | with_reducible refine sx_blockret ?_)
    refine yret (.tuple #[Go.Value.string (ByteArray.mk #[]), .int .i64 (errNat a.xs)]) (res2 Tryd.results29 rvt rvt) ?_
    exact givesS_err hE hN rfl (bthru ((bthru (bthru hbV1 hbV2) hbV3).trans (hOV4.below (by omega))) hbV5)
  refine yb 1 rfl 31 ((errNat a.xs) != 0) (false) (f31) ?_
  refine yzt 0 ?_
  refine yF ?_
  refine wp_skip ?_
  refine sx_then ?_
  refine wp_seq ?_
  have c2 : errNat a.xs = 0 := by simpa using f31
  refine ye ?_
  replace b3 := (b3.past hbV5)
  refine yl 1 rfl 34 b3 hT3 0 ?_
  rcases Bool.eq_false_or_eq_true (cls == 3) with f35 | f35
  · skip
    refine yb 0 rfl 35 (cls == 3) (true) (f35) ?_
    rcases Bool.eq_false_or_eq_true (f.inf) with f43 | f43
    · skip
      replace b6 := (b6.past hbV5)
      refine ylb 7 rfl 43 b6 hT4 9 (f.inf) true (f43) ?_
      refine yl 4 rfl 48 b3 hT3 0 ?_
      refine yb 0 rfl 49 (cls == 5) (false) (beq_eq_false_iff_ne.2 (by have := beq_iff_eq.1 f35; omega)) ?_
      refine yzt 6 ?_
      refine yF ?_
      refine wp_skip ?_
      refine sx_then ?_
      refine wp_seq ?_
      have c3 : ¬ (((cls = 3 ∨ cls = 4) ∧ f.inf = false) ∨ (cls = 5 ∧ f.res = false)) := fun h => by rcases h with ⟨h, k⟩ | ⟨h, k⟩ <;> first | (rw [f43] at k; cases k; done) | (rw [f52] at k; cases k; done) | (have q := beq_iff_eq.1 f35; omega) | (have q := beq_iff_eq.1 f39; omega) | (have q := beq_eq_false_iff_ne.1 f35; have q2 := beq_eq_false_iff_ne.1 f39; omega) | (have q := beq_eq_false_iff_ne.1 f49; omega)
      refine ye ?_
      refine yl 1 rfl 57 b3 hT3 0 ?_
      refine yb 0 rfl 58 (cls == 2) (false) (beq_eq_false_iff_ne.2 (by have := beq_iff_eq.1 f35; omega)) ?_
      refine yzt 0 ?_
      refine yF ?_
      refine wp_skip ?_
      refine sx_then ?_
      refine wp_seq ?_
      have c58 : cls ≠ 2 := by first | (have := beq_iff_eq.1 f35; omega) | (have := beq_iff_eq.1 f39; omega) | (have := beq_iff_eq.1 f49; omega) | exact beq_eq_false_iff_ne.1 f58
      refine ye ?_
      refine yl 1 rfl 86 b3 hT23 2 ?_
      rcases Bool.eq_false_or_eq_true (decide (((a.xs.length : Nat) : Int) > 0)) with f88 | f88
      · skip
        refine yb 1 rfl 88 (decide (((a.xs.length : Nat) : Int) > 0)) (true) (f88) ?_
        refine yzt 18 ?_
        refine yT ?_
        have hE : errEnc f cls a = 4 := by unfold errEnc; rw [if_neg c1, if_neg (by omega), if_neg c3, if_neg c58, if_pos (by first | (have := of_decide_eq_true f88; omega) | exact .inr (.inl (bne_iff_ne.1 f92)) | exact .inr (.inr ⟨f96, .inr f103⟩) | exact .inr (.inr ⟨f96, .inl (by first | (have := beq_iff_eq.1 f39; omega) | (have := beq_iff_eq.1 f49; omega))⟩))]
        have hN : (4 : Int) ≠ 0 := by decide
        refine yq ?_
        refine wp_ret ?_
        repeat (first | with_reducible refine sx_thenret ?_ | with_reducible refine sx_blockret ?_)
        refine yret (.tuple #[Go.Value.string (ByteArray.mk #[]), .int .i64 4]) (res2 Tryd.results29 rvt rvt) ?_
        exact givesS_err hE hN rfl (bthru ((bthru (bthru hbV1 hbV2) hbV3).trans (hOV4.below (by omega))) hbV5)
      refine yb 1 rfl 88 (decide (((a.xs.length : Nat) : Int) > 0)) (false) (f88) ?_
      refine yl 2 rfl 91 b3 hT3 3 ?_
      rcases Bool.eq_false_or_eq_true (a.e != 0) with f92 | f92
      · skip
        refine yb 0 rfl 92 (a.e != 0) (true) (f92) ?_
        refine yzt 14 ?_
        refine yT ?_
        have hE : errEnc f cls a = 4 := by unfold errEnc; rw [if_neg c1, if_neg (by omega), if_neg c3, if_neg c58, if_pos (by first | (have := of_decide_eq_true f88; omega) | exact .inr (.inl (bne_iff_ne.1 f92)) | exact .inr (.inr ⟨f96, .inr f103⟩) | exact .inr (.inr ⟨f96, .inl (by first | (have := beq_iff_eq.1 f39; omega) | (have := beq_iff_eq.1 f49; omega))⟩))]
        have hN : (4 : Int) ≠ 0 := by decide
        refine yq ?_
        refine wp_ret ?_
        repeat (first | with_reducible refine sx_thenret ?_ | with_reducible refine sx_blockret ?_)
        refine yret (.tuple #[Go.Value.string (ByteArray.mk #[]), .int .i64 4]) (res2 Tryd.results29 rvt rvt) ?_
        exact givesS_err hE hN rfl (bthru ((bthru (bthru hbV1 hbV2) hbV3).trans (hOV4.below (by omega))) hbV5)
      refine yb 0 rfl 92 (a.e != 0) (false) (f92) ?_
      rcases Bool.eq_false_or_eq_true (a.g) with f96 | f96
      · skip
        refine ylb 3 rfl 96 b3 hT4 1 (a.g) true (f96) ?_
        refine yl 2 rfl 99 b3 hT3 0 ?_
        refine yb 0 rfl 100 (decide (cls ≥ 4)) (false) (decide_eq_false (by have := beq_iff_eq.1 f35; omega)) ?_
        rcases Bool.eq_false_or_eq_true (f.res) with f103 | f103
        · skip
          refine ylb 2 rfl 103 b6 hT4 10 (f.res) true (f103) ?_
          refine yzt 3 ?_
          refine yT ?_
          have hE : errEnc f cls a = 4 := by unfold errEnc; rw [if_neg c1, if_neg (by omega), if_neg c3, if_neg c58, if_pos (by first | (have := of_decide_eq_true f88; omega) | exact .inr (.inl (bne_iff_ne.1 f92)) | exact .inr (.inr ⟨f96, .inr f103⟩) | exact .inr (.inr ⟨f96, .inl (by first | (have := beq_iff_eq.1 f39; omega) | (have := beq_iff_eq.1 f49; omega))⟩))]
          have hN : (4 : Int) ≠ 0 := by decide
          refine yq ?_
          refine wp_ret ?_
          repeat (first | with_reducible refine sx_thenret ?_ | with_reducible refine sx_blockret ?_)
          refine yret (.tuple #[Go.Value.string (ByteArray.mk #[]), .int .i64 4]) (res2 Tryd.results29 rvt rvt) ?_
          exact givesS_err hE hN rfl (bthru ((bthru (bthru hbV1 hbV2) hbV3).trans (hOV4.below (by omega))) hbV5)
        refine ylb 2 rfl 103 b6 hT4 10 (f.res) false (f103) ?_
        refine yzt 3 ?_
        refine yF ?_
        refine wp_skip ?_
        refine sx_then ?_
        have hE : errEnc f cls a = 0 := by unfold errEnc; rw [if_neg c1, if_neg (by omega), if_neg c3, if_neg c58, if_neg (fun h => by rcases h with h | h | ⟨h, k⟩ <;> first | (have := of_decide_eq_false f88; omega) | (rw [show (a.e != 0) = true from bne_iff_ne.2 h] at f92; cases f92; done) | (rw [f96] at h; cases h; done) | (rcases k with k | k <;> first | (have := beq_iff_eq.1 f35; omega) | (have := beq_eq_false_iff_ne.1 f49; have := beq_eq_false_iff_ne.1 f35; have := beq_eq_false_iff_ne.1 f39; omega) | (rw [f103] at k; cases k; done)))]
        refine ye ?_
        refine yl 1 rfl 108 b6 hT3 1 ?_
        refine yv 0 rfl 109 (.int .i64 ((P : Nat) : Int)) ?_ (exec_shl (X := (1)) (Y := ((f.E : Nat) : Int)) (k2 := .i64) ((P : Nat) : Int) (by kernel_rfl) (by kernel_rfl) (by omega) ((HSH.out)))
        refine ya 0 rfl 110 .i64 (((P : Nat) : Int) - 1) (((P - 1 : Nat) : Int)) ((by rw [show (((P : Nat) : Int) - 1) = ((P - 1 : Nat) : Int) by omega]; exact IntWalk.i64_in _ (by omega))) ?_
        refine yzt 1 ?_
        refine ye ?_
        refine yl 1 rfl 112 b3 hT4 1 ?_
        refine yw 1 rfl 10 #[.bool false, .int .i64 0, .slice none 0 0] 137 (fun V6 hbV6 hzV6 b10 => ?_)
        have boV7 := b10
        refine ysw 0 rfl b10 hT137 #[.bool a.g, .int .i64 0, .slice none 0 0] ?_
        clear b10
        intro V7 hOV7 b10
        have hzV7 := hOV7.size
        refine yzt 0 ?_
        refine wp_seq ?_
        refine ye ?_
        replace b3 := (b3.past (hbV6.trans (hOV7.below (by omega))))
        refine yl 1 rfl 115 b3 hT3 0 ?_
        refine yzt 0 ?_
        refine wp_block ?_
        refine ye ?_
        refine yb 0 rfl 117 (cls == 3) (true) (f35) ?_
        refine yzt 1 ?_
        refine yT ?_
        refine ye ?_
        have boV8 := b10
        refine ys1 2 rfl b10 hT3 1 (.int .i64 ((P - 1 : Nat) : Int)) #[.bool a.g, .int .i64 ((P - 1 : Nat) : Int), .slice none 0 0] ?_
        clear b10
        intro V8 hOV8 b10
        have hzV8 := hOV8.size
        refine yzt 0 ?_
        refine ye ?_
        rcases Bool.eq_false_or_eq_true (f.hid) with f121 | f121
        · skip
          replace b6 := (b6.past ((hbV6.trans (hOV7.below (by omega))).trans (hOV8.below (by omega))))
          refine ylb 1 rfl 121 b6 hT4 8 (f.hid) true (f121) ?_
          refine yzt 1 ?_
          refine yF ?_
          refine wp_skip ?_
          refine sx_inblock ?_
          refine sx_then ?_
          refine ye ?_
          refine yla 0 rfl 144 b6 hT116 0 ?_
          refine yla 0 rfl 145 b10 hT137 0 ?_
          refine yc 0 rfl 146 ((hJ0 V8 a.g ((P - 1 : Nat) : Int) (P - 1) rfl (by omega)).out) (fun Gx hGx => ?_)
          rintro eV9 V9 ⟨rfl, hbV9⟩
          have hzV9 := hbV9.size
          have hS : strOf (f.strP (f.encP cls.toNat a.g d)) = strOf (f.str a.g (P - 1) 0) := by rw [show cls.toNat = 3 by have := beq_iff_eq.1 f35; omega, e3, if_neg (by rw [(hhid f43).1 f121]; simp)]; rfl
          refine ⟨_, rfl, hGx _ _ ?_⟩
          clear hGx Gx
          refine yzt 2 ?_
          refine wp_ret ?_
          repeat (first | with_reducible refine sx_thenret ?_ | with_reducible refine sx_blockret ?_)
          refine yret (.tuple #[.string (strOf (f.str a.g (P - 1) 0)), .int .i64 0]) (res2 Tryd.results29 rvt rvt) ?_
          exact givesS_ok hE hS rfl (bthru (((bthru (bthru ((bthru (bthru hbV1 hbV2) hbV3).trans (hOV4.below (by omega))) hbV5) hbV6).trans (hOV7.below (by omega))).trans (hOV8.below (by omega))) hbV9)
        replace b6 := (b6.past ((hbV6.trans (hOV7.below (by omega))).trans (hOV8.below (by omega))))
        refine ylb 1 rfl 121 b6 hT4 8 (f.hid) false (f121) ?_
        refine yzt 1 ?_
        refine yT ?_
        refine sx_region ?_
        refine yc 0 rfl 123 (two_any 63 (2 ^ 63) 63 V8 (by omega) rfl rfl) (fun Gx hGx => ?_)
        rintro eV9 V9 ⟨p123, c123, rfl, o123, hbV9⟩
        have hzV9 := hbV9.size
        refine ⟨_, rfl, hGx _ _ ?_⟩
        clear hGx Gx
        replace b10 := (b10.past hbV9)
        have boV10 := b10
        refine ys1 1 rfl b10 hT23 2 (.slice p123 (dig B32 (2 ^ 63)).length c123) #[.bool a.g, .int .i64 ((P - 1 : Nat) : Int), .slice p123 (dig B32 (2 ^ 63)).length c123] ?_
        clear b10
        intro V10 hOV10 b10
        have hzV10 := hOV10.size
        refine yz 0 ?_
        refine sx_inblock ?_
        refine sx_then ?_
        refine ye ?_
        replace b6 := ((b6.past hbV9).only hOV10 (by omega))
        refine yla 0 rfl 144 b6 hT116 0 ?_
        refine yla 0 rfl 145 b10 hT137 0 ?_
        replace o123 := (o123.put boV10 hOV10 (by kernel_rfl))
        refine yc 0 rfl 146 ((hJ V10 a.g ((P - 1 : Nat) : Int) (P - 1) (2 ^ 63) rfl p123 c123 o123.rd (by omega) (by rw [hx64 (hext f43 f121)]; omega)).out) (fun Gx hGx => ?_)
        rintro eV11 V11 ⟨rfl, hbV11⟩
        have hzV11 := hbV11.size
        have hS : strOf (f.strP (f.encP cls.toNat a.g d)) = strOf (f.str a.g (P - 1) (2 ^ 63)) := by rw [show cls.toNat = 3 by have := beq_iff_eq.1 f35; omega, e3, if_pos (hext f43 f121)]; rfl
        refine ⟨_, rfl, hGx _ _ ?_⟩
        clear hGx Gx
        refine yzt 2 ?_
        refine wp_ret ?_
        repeat (first | with_reducible refine sx_thenret ?_ | with_reducible refine sx_blockret ?_)
        refine yret (.tuple #[.string (strOf (f.str a.g (P - 1) (2 ^ 63))), .int .i64 0]) (res2 Tryd.results29 rvt rvt) ?_
        exact givesS_ok hE hS rfl (bthru ((bthru (((bthru (bthru ((bthru (bthru hbV1 hbV2) hbV3).trans (hOV4.below (by omega))) hbV5) hbV6).trans (hOV7.below (by omega))).trans (hOV8.below (by omega))) hbV9).trans (hOV10.below (by omega))) hbV11)
      refine ylb 3 rfl 96 b3 hT4 1 (a.g) false (f96) ?_
      refine yzt 10 ?_
      refine yF ?_
      refine wp_skip ?_
      refine sx_then ?_
      have hE : errEnc f cls a = 0 := by unfold errEnc; rw [if_neg c1, if_neg (by omega), if_neg c3, if_neg c58, if_neg (fun h => by rcases h with h | h | ⟨h, k⟩ <;> first | (have := of_decide_eq_false f88; omega) | (rw [show (a.e != 0) = true from bne_iff_ne.2 h] at f92; cases f92; done) | (rw [f96] at h; cases h; done) | (rcases k with k | k <;> first | (have := beq_iff_eq.1 f35; omega) | (have := beq_eq_false_iff_ne.1 f49; have := beq_eq_false_iff_ne.1 f35; have := beq_eq_false_iff_ne.1 f39; omega) | (rw [f103] at k; cases k; done)))]
      refine ye ?_
      refine yl 1 rfl 108 b6 hT3 1 ?_
      refine yv 0 rfl 109 (.int .i64 ((P : Nat) : Int)) ?_ (exec_shl (X := (1)) (Y := ((f.E : Nat) : Int)) (k2 := .i64) ((P : Nat) : Int) (by kernel_rfl) (by kernel_rfl) (by omega) ((HSH.out)))
      refine ya 0 rfl 110 .i64 (((P : Nat) : Int) - 1) (((P - 1 : Nat) : Int)) ((by rw [show (((P : Nat) : Int) - 1) = ((P - 1 : Nat) : Int) by omega]; exact IntWalk.i64_in _ (by omega))) ?_
      refine yzt 1 ?_
      refine ye ?_
      refine yl 1 rfl 112 b3 hT4 1 ?_
      refine yw 1 rfl 10 #[.bool false, .int .i64 0, .slice none 0 0] 137 (fun V6 hbV6 hzV6 b10 => ?_)
      have boV7 := b10
      refine ysw 0 rfl b10 hT137 #[.bool a.g, .int .i64 0, .slice none 0 0] ?_
      clear b10
      intro V7 hOV7 b10
      have hzV7 := hOV7.size
      refine yzt 0 ?_
      refine wp_seq ?_
      refine ye ?_
      replace b3 := (b3.past (hbV6.trans (hOV7.below (by omega))))
      refine yl 1 rfl 115 b3 hT3 0 ?_
      refine yzt 0 ?_
      refine wp_block ?_
      refine ye ?_
      refine yb 0 rfl 117 (cls == 3) (true) (f35) ?_
      refine yzt 1 ?_
      refine yT ?_
      refine ye ?_
      have boV8 := b10
      refine ys1 2 rfl b10 hT3 1 (.int .i64 ((P - 1 : Nat) : Int)) #[.bool a.g, .int .i64 ((P - 1 : Nat) : Int), .slice none 0 0] ?_
      clear b10
      intro V8 hOV8 b10
      have hzV8 := hOV8.size
      refine yzt 0 ?_
      refine ye ?_
      rcases Bool.eq_false_or_eq_true (f.hid) with f121 | f121
      · skip
        replace b6 := (b6.past ((hbV6.trans (hOV7.below (by omega))).trans (hOV8.below (by omega))))
        refine ylb 1 rfl 121 b6 hT4 8 (f.hid) true (f121) ?_
        refine yzt 1 ?_
        refine yF ?_
        refine wp_skip ?_
        refine sx_inblock ?_
        refine sx_then ?_
        refine ye ?_
        refine yla 0 rfl 144 b6 hT116 0 ?_
        refine yla 0 rfl 145 b10 hT137 0 ?_
        refine yc 0 rfl 146 ((hJ0 V8 a.g ((P - 1 : Nat) : Int) (P - 1) rfl (by omega)).out) (fun Gx hGx => ?_)
        rintro eV9 V9 ⟨rfl, hbV9⟩
        have hzV9 := hbV9.size
        have hS : strOf (f.strP (f.encP cls.toNat a.g d)) = strOf (f.str a.g (P - 1) 0) := by rw [show cls.toNat = 3 by have := beq_iff_eq.1 f35; omega, e3, if_neg (by rw [(hhid f43).1 f121]; simp)]; rfl
        refine ⟨_, rfl, hGx _ _ ?_⟩
        clear hGx Gx
        refine yzt 2 ?_
        refine wp_ret ?_
        repeat (first | with_reducible refine sx_thenret ?_ | with_reducible refine sx_blockret ?_)
        refine yret (.tuple #[.string (strOf (f.str a.g (P - 1) 0)), .int .i64 0]) (res2 Tryd.results29 rvt rvt) ?_
        exact givesS_ok hE hS rfl (bthru (((bthru (bthru ((bthru (bthru hbV1 hbV2) hbV3).trans (hOV4.below (by omega))) hbV5) hbV6).trans (hOV7.below (by omega))).trans (hOV8.below (by omega))) hbV9)
      replace b6 := (b6.past ((hbV6.trans (hOV7.below (by omega))).trans (hOV8.below (by omega))))
      refine ylb 1 rfl 121 b6 hT4 8 (f.hid) false (f121) ?_
      refine yzt 1 ?_
      refine yT ?_
      refine sx_region ?_
      refine yc 0 rfl 123 (two_any 63 (2 ^ 63) 63 V8 (by omega) rfl rfl) (fun Gx hGx => ?_)
      rintro eV9 V9 ⟨p123, c123, rfl, o123, hbV9⟩
      have hzV9 := hbV9.size
      refine ⟨_, rfl, hGx _ _ ?_⟩
      clear hGx Gx
      replace b10 := (b10.past hbV9)
      have boV10 := b10
      refine ys1 1 rfl b10 hT23 2 (.slice p123 (dig B32 (2 ^ 63)).length c123) #[.bool a.g, .int .i64 ((P - 1 : Nat) : Int), .slice p123 (dig B32 (2 ^ 63)).length c123] ?_
      clear b10
      intro V10 hOV10 b10
      have hzV10 := hOV10.size
      refine yz 0 ?_
      refine sx_inblock ?_
      refine sx_then ?_
      refine ye ?_
      replace b6 := ((b6.past hbV9).only hOV10 (by omega))
      refine yla 0 rfl 144 b6 hT116 0 ?_
      refine yla 0 rfl 145 b10 hT137 0 ?_
      replace o123 := (o123.put boV10 hOV10 (by kernel_rfl))
      refine yc 0 rfl 146 ((hJ V10 a.g ((P - 1 : Nat) : Int) (P - 1) (2 ^ 63) rfl p123 c123 o123.rd (by omega) (by rw [hx64 (hext f43 f121)]; omega)).out) (fun Gx hGx => ?_)
      rintro eV11 V11 ⟨rfl, hbV11⟩
      have hzV11 := hbV11.size
      have hS : strOf (f.strP (f.encP cls.toNat a.g d)) = strOf (f.str a.g (P - 1) (2 ^ 63)) := by rw [show cls.toNat = 3 by have := beq_iff_eq.1 f35; omega, e3, if_pos (hext f43 f121)]; rfl
      refine ⟨_, rfl, hGx _ _ ?_⟩
      clear hGx Gx
      refine yzt 2 ?_
      refine wp_ret ?_
      repeat (first | with_reducible refine sx_thenret ?_ | with_reducible refine sx_blockret ?_)
      refine yret (.tuple #[.string (strOf (f.str a.g (P - 1) (2 ^ 63))), .int .i64 0]) (res2 Tryd.results29 rvt rvt) ?_
      exact givesS_ok hE hS rfl (bthru ((bthru (((bthru (bthru ((bthru (bthru hbV1 hbV2) hbV3).trans (hOV4.below (by omega))) hbV5) hbV6).trans (hOV7.below (by omega))).trans (hOV8.below (by omega))) hbV9).trans (hOV10.below (by omega))) hbV11)
    replace b6 := (b6.past hbV5)
    refine ylb 7 rfl 43 b6 hT4 9 (f.inf) false (f43) ?_
    refine yzt 12 ?_
    refine yT ?_
    have hE : errEnc f cls a = 5 := by unfold errEnc; rw [if_neg c1, if_neg (by omega), if_pos (by first | exact .inl ⟨.inl (beq_iff_eq.1 f35), f43⟩ | exact .inl ⟨.inr (beq_iff_eq.1 f39), f43⟩ | exact .inr ⟨beq_iff_eq.1 f49, f52⟩)]
    have hN : (5 : Int) ≠ 0 := by decide
    refine yq ?_
    refine wp_ret ?_
    repeat (first | with_reducible refine sx_thenret ?_ | with_reducible refine sx_blockret ?_)
    refine yret (.tuple #[Go.Value.string (ByteArray.mk #[]), .int .i64 5]) (res2 Tryd.results29 rvt rvt) ?_
    exact givesS_err hE hN rfl (bthru ((bthru (bthru hbV1 hbV2) hbV3).trans (hOV4.below (by omega))) hbV5)
  refine yb 0 rfl 35 (cls == 3) (false) (f35) ?_
  refine yl 2 rfl 38 b3 hT3 0 ?_
  rcases Bool.eq_false_or_eq_true (cls == 4) with f39 | f39
  · skip
    refine yb 0 rfl 39 (cls == 4) (true) (f39) ?_
    rcases Bool.eq_false_or_eq_true (f.inf) with f43 | f43
    · skip
      replace b6 := (b6.past hbV5)
      refine ylb 3 rfl 43 b6 hT4 9 (f.inf) true (f43) ?_
      refine yl 4 rfl 48 b3 hT3 0 ?_
      refine yb 0 rfl 49 (cls == 5) (false) (beq_eq_false_iff_ne.2 (by have := beq_iff_eq.1 f39; omega)) ?_
      refine yzt 6 ?_
      refine yF ?_
      refine wp_skip ?_
      refine sx_then ?_
      refine wp_seq ?_
      have c3 : ¬ (((cls = 3 ∨ cls = 4) ∧ f.inf = false) ∨ (cls = 5 ∧ f.res = false)) := fun h => by rcases h with ⟨h, k⟩ | ⟨h, k⟩ <;> first | (rw [f43] at k; cases k; done) | (rw [f52] at k; cases k; done) | (have q := beq_iff_eq.1 f35; omega) | (have q := beq_iff_eq.1 f39; omega) | (have q := beq_eq_false_iff_ne.1 f35; have q2 := beq_eq_false_iff_ne.1 f39; omega) | (have q := beq_eq_false_iff_ne.1 f49; omega)
      refine ye ?_
      refine yl 1 rfl 57 b3 hT3 0 ?_
      refine yb 0 rfl 58 (cls == 2) (false) (beq_eq_false_iff_ne.2 (by have := beq_iff_eq.1 f39; omega)) ?_
      refine yzt 0 ?_
      refine yF ?_
      refine wp_skip ?_
      refine sx_then ?_
      refine wp_seq ?_
      have c58 : cls ≠ 2 := by first | (have := beq_iff_eq.1 f35; omega) | (have := beq_iff_eq.1 f39; omega) | (have := beq_iff_eq.1 f49; omega) | exact beq_eq_false_iff_ne.1 f58
      refine ye ?_
      refine yl 1 rfl 86 b3 hT23 2 ?_
      rcases Bool.eq_false_or_eq_true (decide (((a.xs.length : Nat) : Int) > 0)) with f88 | f88
      · skip
        refine yb 1 rfl 88 (decide (((a.xs.length : Nat) : Int) > 0)) (true) (f88) ?_
        refine yzt 18 ?_
        refine yT ?_
        have hE : errEnc f cls a = 4 := by unfold errEnc; rw [if_neg c1, if_neg (by omega), if_neg c3, if_neg c58, if_pos (by first | (have := of_decide_eq_true f88; omega) | exact .inr (.inl (bne_iff_ne.1 f92)) | exact .inr (.inr ⟨f96, .inr f103⟩) | exact .inr (.inr ⟨f96, .inl (by first | (have := beq_iff_eq.1 f39; omega) | (have := beq_iff_eq.1 f49; omega))⟩))]
        have hN : (4 : Int) ≠ 0 := by decide
        refine yq ?_
        refine wp_ret ?_
        repeat (first | with_reducible refine sx_thenret ?_ | with_reducible refine sx_blockret ?_)
        refine yret (.tuple #[Go.Value.string (ByteArray.mk #[]), .int .i64 4]) (res2 Tryd.results29 rvt rvt) ?_
        exact givesS_err hE hN rfl (bthru ((bthru (bthru hbV1 hbV2) hbV3).trans (hOV4.below (by omega))) hbV5)
      refine yb 1 rfl 88 (decide (((a.xs.length : Nat) : Int) > 0)) (false) (f88) ?_
      refine yl 2 rfl 91 b3 hT3 3 ?_
      rcases Bool.eq_false_or_eq_true (a.e != 0) with f92 | f92
      · skip
        refine yb 0 rfl 92 (a.e != 0) (true) (f92) ?_
        refine yzt 14 ?_
        refine yT ?_
        have hE : errEnc f cls a = 4 := by unfold errEnc; rw [if_neg c1, if_neg (by omega), if_neg c3, if_neg c58, if_pos (by first | (have := of_decide_eq_true f88; omega) | exact .inr (.inl (bne_iff_ne.1 f92)) | exact .inr (.inr ⟨f96, .inr f103⟩) | exact .inr (.inr ⟨f96, .inl (by first | (have := beq_iff_eq.1 f39; omega) | (have := beq_iff_eq.1 f49; omega))⟩))]
        have hN : (4 : Int) ≠ 0 := by decide
        refine yq ?_
        refine wp_ret ?_
        repeat (first | with_reducible refine sx_thenret ?_ | with_reducible refine sx_blockret ?_)
        refine yret (.tuple #[Go.Value.string (ByteArray.mk #[]), .int .i64 4]) (res2 Tryd.results29 rvt rvt) ?_
        exact givesS_err hE hN rfl (bthru ((bthru (bthru hbV1 hbV2) hbV3).trans (hOV4.below (by omega))) hbV5)
      refine yb 0 rfl 92 (a.e != 0) (false) (f92) ?_
      rcases Bool.eq_false_or_eq_true (a.g) with f96 | f96
      · skip
        refine ylb 3 rfl 96 b3 hT4 1 (a.g) true (f96) ?_
        refine yl 2 rfl 99 b3 hT3 0 ?_
        refine yb 0 rfl 100 (decide (cls ≥ 4)) (true) (decide_eq_true (by have := beq_iff_eq.1 f39; omega)) ?_
        refine yzt 6 ?_
        refine yT ?_
        have hE : errEnc f cls a = 4 := by unfold errEnc; rw [if_neg c1, if_neg (by omega), if_neg c3, if_neg c58, if_pos (by first | (have := of_decide_eq_true f88; omega) | exact .inr (.inl (bne_iff_ne.1 f92)) | exact .inr (.inr ⟨f96, .inr f103⟩) | exact .inr (.inr ⟨f96, .inl (by first | (have := beq_iff_eq.1 f39; omega) | (have := beq_iff_eq.1 f49; omega))⟩))]
        have hN : (4 : Int) ≠ 0 := by decide
        refine yq ?_
        refine wp_ret ?_
        repeat (first | with_reducible refine sx_thenret ?_ | with_reducible refine sx_blockret ?_)
        refine yret (.tuple #[Go.Value.string (ByteArray.mk #[]), .int .i64 4]) (res2 Tryd.results29 rvt rvt) ?_
        exact givesS_err hE hN rfl (bthru ((bthru (bthru hbV1 hbV2) hbV3).trans (hOV4.below (by omega))) hbV5)
      refine ylb 3 rfl 96 b3 hT4 1 (a.g) false (f96) ?_
      refine yzt 10 ?_
      refine yF ?_
      refine wp_skip ?_
      refine sx_then ?_
      have hE : errEnc f cls a = 0 := by unfold errEnc; rw [if_neg c1, if_neg (by omega), if_neg c3, if_neg c58, if_neg (fun h => by rcases h with h | h | ⟨h, k⟩ <;> first | (have := of_decide_eq_false f88; omega) | (rw [show (a.e != 0) = true from bne_iff_ne.2 h] at f92; cases f92; done) | (rw [f96] at h; cases h; done) | (rcases k with k | k <;> first | (have := beq_iff_eq.1 f35; omega) | (have := beq_eq_false_iff_ne.1 f49; have := beq_eq_false_iff_ne.1 f35; have := beq_eq_false_iff_ne.1 f39; omega) | (rw [f103] at k; cases k; done)))]
      refine ye ?_
      refine yl 1 rfl 108 b6 hT3 1 ?_
      refine yv 0 rfl 109 (.int .i64 ((P : Nat) : Int)) ?_ (exec_shl (X := (1)) (Y := ((f.E : Nat) : Int)) (k2 := .i64) ((P : Nat) : Int) (by kernel_rfl) (by kernel_rfl) (by omega) ((HSH.out)))
      refine ya 0 rfl 110 .i64 (((P : Nat) : Int) - 1) (((P - 1 : Nat) : Int)) ((by rw [show (((P : Nat) : Int) - 1) = ((P - 1 : Nat) : Int) by omega]; exact IntWalk.i64_in _ (by omega))) ?_
      refine yzt 1 ?_
      refine ye ?_
      refine yl 1 rfl 112 b3 hT4 1 ?_
      refine yw 1 rfl 10 #[.bool false, .int .i64 0, .slice none 0 0] 137 (fun V6 hbV6 hzV6 b10 => ?_)
      have boV7 := b10
      refine ysw 0 rfl b10 hT137 #[.bool a.g, .int .i64 0, .slice none 0 0] ?_
      clear b10
      intro V7 hOV7 b10
      have hzV7 := hOV7.size
      refine yzt 0 ?_
      refine wp_seq ?_
      refine ye ?_
      replace b3 := (b3.past (hbV6.trans (hOV7.below (by omega))))
      refine yl 1 rfl 115 b3 hT3 0 ?_
      refine yzt 0 ?_
      refine wp_block ?_
      refine ye ?_
      refine yb 0 rfl 117 (cls == 3) (false) (f35) ?_
      refine yzt 1 ?_
      refine yF ?_
      refine ye ?_
      refine yb 0 rfl 126 (cls == 4) (true) (f39) ?_
      refine yzt 1 ?_
      refine yT ?_
      refine ye ?_
      replace b6 := (b6.past (hbV6.trans (hOV7.below (by omega))))
      refine yl 2 rfl 129 b6 hT3 2 ?_
      refine ya 0 rfl 130 .i64 (((f.F : Nat) : Int) - 1) (((f.F - 1 : Nat) : Int)) ((by rw [show (((f.F : Nat) : Int) - 1) = ((f.F - 1 : Nat) : Int) by omega]; exact IntWalk.i64_in _ (by omega))) ?_
      refine yc 0 rfl 131 (two_any (f.F - 1) (2 ^ (f.F - 1)) _ V7 (by omega) rfl rfl) (fun Gx hGx => ?_)
      rintro eV8 V8 ⟨p131, c131, rfl, o131, hbV8⟩
      have hzV8 := hbV8.size
      refine ⟨_, rfl, hGx _ _ ?_⟩
      clear hGx Gx
      replace b10 := (b10.past hbV8)
      have boV9 := b10
      refine ys1 1 rfl b10 hT3 1 (.int .i64 ((P - 1 : Nat) : Int)) #[.bool a.g, .int .i64 ((P - 1 : Nat) : Int), .slice none 0 0] ?_
      clear b10
      intro V9 hOV9 b10
      have hzV9 := hOV9.size
      have boV10 := b10
      refine ys1 1 rfl b10 hT23 2 (.slice p131 (dig B32 (2 ^ (f.F - 1))).length c131) #[.bool a.g, .int .i64 ((P - 1 : Nat) : Int), .slice p131 (dig B32 (2 ^ (f.F - 1))).length c131] ?_
      clear b10
      intro V10 hOV10 b10
      have hzV10 := hOV10.size
      refine yzt 0 ?_
      refine ye ?_
      rcases Bool.eq_false_or_eq_true (f.hid) with f135 | f135
      · skip
        replace b6 := (((b6.past hbV8).only hOV9 (by omega)).only hOV10 (by omega))
        refine ylb 1 rfl 135 b6 hT4 8 (f.hid) true (f135) ?_
        refine yzt 1 ?_
        refine yF ?_
        refine wp_skip ?_
        refine sx_inblock ?_
        refine sx_then ?_
        refine ye ?_
        refine yla 0 rfl 144 b6 hT116 0 ?_
        refine yla 0 rfl 145 b10 hT137 0 ?_
        replace o131 := ((o131.put boV9 hOV9 (by kernel_rfl)).put boV10 hOV10 (by kernel_rfl))
        refine yc 0 rfl 146 ((hJ V10 a.g ((P - 1 : Nat) : Int) (P - 1) (2 ^ (f.F - 1)) rfl p131 c131 o131.rd (by omega) hF1).out) (fun Gx hGx => ?_)
        rintro eV11 V11 ⟨rfl, hbV11⟩
        have hzV11 := hbV11.size
        have hS : strOf (f.strP (f.encP cls.toNat a.g d)) = strOf (f.str a.g (P - 1) (2 ^ (f.F - 1))) := by rw [show cls.toNat = 4 by have := beq_iff_eq.1 f39; omega, e4, if_neg (by rw [(hhid f43).1 f135]; simp)]; rfl
        refine ⟨_, rfl, hGx _ _ ?_⟩
        clear hGx Gx
        refine yzt 2 ?_
        refine wp_ret ?_
        repeat (first | with_reducible refine sx_thenret ?_ | with_reducible refine sx_blockret ?_)
        refine yret (.tuple #[.string (strOf (f.str a.g (P - 1) (2 ^ (f.F - 1)))), .int .i64 0]) (res2 Tryd.results29 rvt rvt) ?_
        exact givesS_ok hE hS rfl (bthru (((bthru ((bthru (bthru ((bthru (bthru hbV1 hbV2) hbV3).trans (hOV4.below (by omega))) hbV5) hbV6).trans (hOV7.below (by omega))) hbV8).trans (hOV9.below (by omega))).trans (hOV10.below (by omega))) hbV11)
      replace b6 := (((b6.past hbV8).only hOV9 (by omega)).only hOV10 (by omega))
      refine ylb 1 rfl 135 b6 hT4 8 (f.hid) false (f135) ?_
      refine yzt 1 ?_
      refine yT ?_
      refine sx_region ?_
      refine yc 0 rfl 137 (two_any 63 (2 ^ 63) 63 V10 (by omega) rfl rfl) (fun Gx hGx => ?_)
      rintro eV11 V11 ⟨p137, c137, rfl, o137, hbV11⟩
      have hzV11 := hbV11.size
      refine ⟨_, rfl, hGx _ _ ?_⟩
      clear hGx Gx
      refine yc 0 rfl 138 (two_any 62 (2 ^ 62) 62 V11 (by omega) rfl rfl) (fun Gx hGx => ?_)
      rintro eV12 V12 ⟨p138, c138, rfl, o138, hbV12⟩
      have hzV12 := hbV12.size
      refine ⟨_, rfl, hGx _ _ ?_⟩
      clear hGx Gx
      replace o137 := (o137.past hbV12)
      refine yc 0 rfl 139 (sadd p137 p138 _ _ c137 c138 (2 ^ 63) (2 ^ 62) (2 ^ 63 + 2 ^ 62) V12 o137.rd o138.rd rfl rfl (by omega) (by omega) rfl) (fun Gx hGx => ?_)
      rintro eV13 V13 ⟨p139, c139, rfl, o139, hbV13⟩
      have hzV13 := hbV13.size
      refine ⟨_, rfl, hGx _ _ ?_⟩
      clear hGx Gx
      replace b10 := (b10.past (bthru (bthru hbV11 hbV12) hbV13))
      have boV14 := b10
      refine ys1 1 rfl b10 hT23 2 (.slice p139 (dig B32 (2 ^ 63 + 2 ^ 62)).length c139) #[.bool a.g, .int .i64 ((P - 1 : Nat) : Int), .slice p139 (dig B32 (2 ^ 63 + 2 ^ 62)).length c139] ?_
      clear b10
      intro V14 hOV14 b10
      have hzV14 := hOV14.size
      refine yz 0 ?_
      refine sx_inblock ?_
      refine sx_then ?_
      refine ye ?_
      replace b6 := ((b6.past (bthru (bthru hbV11 hbV12) hbV13)).only hOV14 (by omega))
      refine yla 0 rfl 144 b6 hT116 0 ?_
      refine yla 0 rfl 145 b10 hT137 0 ?_
      replace o139 := (o139.put boV14 hOV14 (by kernel_rfl))
      refine yc 0 rfl 146 ((hJ V14 a.g ((P - 1 : Nat) : Int) (P - 1) (2 ^ 63 + 2 ^ 62) rfl p139 c139 o139.rd (by omega) (by rw [hx64 (hext f43 f135)]; omega)).out) (fun Gx hGx => ?_)
      rintro eV15 V15 ⟨rfl, hbV15⟩
      have hzV15 := hbV15.size
      have hS : strOf (f.strP (f.encP cls.toNat a.g d)) = strOf (f.str a.g (P - 1) (2 ^ 63 + 2 ^ 62)) := by rw [show cls.toNat = 4 by have := beq_iff_eq.1 f39; omega, e4, if_pos (hext f43 f135)]; rfl
      refine ⟨_, rfl, hGx _ _ ?_⟩
      clear hGx Gx
      refine yzt 2 ?_
      refine wp_ret ?_
      repeat (first | with_reducible refine sx_thenret ?_ | with_reducible refine sx_blockret ?_)
      refine yret (.tuple #[.string (strOf (f.str a.g (P - 1) (2 ^ 63 + 2 ^ 62))), .int .i64 0]) (res2 Tryd.results29 rvt rvt) ?_
      exact givesS_ok hE hS rfl (bthru ((bthru (bthru (bthru (((bthru ((bthru (bthru ((bthru (bthru hbV1 hbV2) hbV3).trans (hOV4.below (by omega))) hbV5) hbV6).trans (hOV7.below (by omega))) hbV8).trans (hOV9.below (by omega))).trans (hOV10.below (by omega))) hbV11) hbV12) hbV13).trans (hOV14.below (by omega))) hbV15)
    replace b6 := (b6.past hbV5)
    refine ylb 3 rfl 43 b6 hT4 9 (f.inf) false (f43) ?_
    refine yzt 12 ?_
    refine yT ?_
    have hE : errEnc f cls a = 5 := by unfold errEnc; rw [if_neg c1, if_neg (by omega), if_pos (by first | exact .inl ⟨.inl (beq_iff_eq.1 f35), f43⟩ | exact .inl ⟨.inr (beq_iff_eq.1 f39), f43⟩ | exact .inr ⟨beq_iff_eq.1 f49, f52⟩)]
    have hN : (5 : Int) ≠ 0 := by decide
    refine yq ?_
    refine wp_ret ?_
    repeat (first | with_reducible refine sx_thenret ?_ | with_reducible refine sx_blockret ?_)
    refine yret (.tuple #[Go.Value.string (ByteArray.mk #[]), .int .i64 5]) (res2 Tryd.results29 rvt rvt) ?_
    exact givesS_err hE hN rfl (bthru ((bthru (bthru hbV1 hbV2) hbV3).trans (hOV4.below (by omega))) hbV5)
  refine yb 0 rfl 39 (cls == 4) (false) (f39) ?_
  refine yl 8 rfl 48 b3 hT3 0 ?_
  rcases Bool.eq_false_or_eq_true (cls == 5) with f49 | f49
  · skip
    refine yb 0 rfl 49 (cls == 5) (true) (f49) ?_
    rcases Bool.eq_false_or_eq_true (f.res) with f52 | f52
    · skip
      replace b6 := (b6.past hbV5)
      refine ylb 2 rfl 52 b6 hT4 10 (f.res) true (f52) ?_
      refine yzt 3 ?_
      refine yF ?_
      refine wp_skip ?_
      refine sx_then ?_
      refine wp_seq ?_
      have c3 : ¬ (((cls = 3 ∨ cls = 4) ∧ f.inf = false) ∨ (cls = 5 ∧ f.res = false)) := fun h => by rcases h with ⟨h, k⟩ | ⟨h, k⟩ <;> first | (rw [f43] at k; cases k; done) | (rw [f52] at k; cases k; done) | (have q := beq_iff_eq.1 f35; omega) | (have q := beq_iff_eq.1 f39; omega) | (have q := beq_eq_false_iff_ne.1 f35; have q2 := beq_eq_false_iff_ne.1 f39; omega) | (have q := beq_eq_false_iff_ne.1 f49; omega)
      refine ye ?_
      refine yl 1 rfl 57 b3 hT3 0 ?_
      refine yb 0 rfl 58 (cls == 2) (false) (beq_eq_false_iff_ne.2 (by have := beq_iff_eq.1 f49; omega)) ?_
      refine yzt 0 ?_
      refine yF ?_
      refine wp_skip ?_
      refine sx_then ?_
      refine wp_seq ?_
      have c58 : cls ≠ 2 := by first | (have := beq_iff_eq.1 f35; omega) | (have := beq_iff_eq.1 f39; omega) | (have := beq_iff_eq.1 f49; omega) | exact beq_eq_false_iff_ne.1 f58
      refine ye ?_
      refine yl 1 rfl 86 b3 hT23 2 ?_
      rcases Bool.eq_false_or_eq_true (decide (((a.xs.length : Nat) : Int) > 0)) with f88 | f88
      · skip
        refine yb 1 rfl 88 (decide (((a.xs.length : Nat) : Int) > 0)) (true) (f88) ?_
        refine yzt 18 ?_
        refine yT ?_
        have hE : errEnc f cls a = 4 := by unfold errEnc; rw [if_neg c1, if_neg (by omega), if_neg c3, if_neg c58, if_pos (by first | (have := of_decide_eq_true f88; omega) | exact .inr (.inl (bne_iff_ne.1 f92)) | exact .inr (.inr ⟨f96, .inr f103⟩) | exact .inr (.inr ⟨f96, .inl (by first | (have := beq_iff_eq.1 f39; omega) | (have := beq_iff_eq.1 f49; omega))⟩))]
        have hN : (4 : Int) ≠ 0 := by decide
        refine yq ?_
        refine wp_ret ?_
        repeat (first | with_reducible refine sx_thenret ?_ | with_reducible refine sx_blockret ?_)
        refine yret (.tuple #[Go.Value.string (ByteArray.mk #[]), .int .i64 4]) (res2 Tryd.results29 rvt rvt) ?_
        exact givesS_err hE hN rfl (bthru ((bthru (bthru hbV1 hbV2) hbV3).trans (hOV4.below (by omega))) hbV5)
      refine yb 1 rfl 88 (decide (((a.xs.length : Nat) : Int) > 0)) (false) (f88) ?_
      refine yl 2 rfl 91 b3 hT3 3 ?_
      rcases Bool.eq_false_or_eq_true (a.e != 0) with f92 | f92
      · skip
        refine yb 0 rfl 92 (a.e != 0) (true) (f92) ?_
        refine yzt 14 ?_
        refine yT ?_
        have hE : errEnc f cls a = 4 := by unfold errEnc; rw [if_neg c1, if_neg (by omega), if_neg c3, if_neg c58, if_pos (by first | (have := of_decide_eq_true f88; omega) | exact .inr (.inl (bne_iff_ne.1 f92)) | exact .inr (.inr ⟨f96, .inr f103⟩) | exact .inr (.inr ⟨f96, .inl (by first | (have := beq_iff_eq.1 f39; omega) | (have := beq_iff_eq.1 f49; omega))⟩))]
        have hN : (4 : Int) ≠ 0 := by decide
        refine yq ?_
        refine wp_ret ?_
        repeat (first | with_reducible refine sx_thenret ?_ | with_reducible refine sx_blockret ?_)
        refine yret (.tuple #[Go.Value.string (ByteArray.mk #[]), .int .i64 4]) (res2 Tryd.results29 rvt rvt) ?_
        exact givesS_err hE hN rfl (bthru ((bthru (bthru hbV1 hbV2) hbV3).trans (hOV4.below (by omega))) hbV5)
      refine yb 0 rfl 92 (a.e != 0) (false) (f92) ?_
      rcases Bool.eq_false_or_eq_true (a.g) with f96 | f96
      · skip
        refine ylb 3 rfl 96 b3 hT4 1 (a.g) true (f96) ?_
        refine yl 2 rfl 99 b3 hT3 0 ?_
        refine yb 0 rfl 100 (decide (cls ≥ 4)) (true) (decide_eq_true (by have := beq_iff_eq.1 f49; omega)) ?_
        refine yzt 6 ?_
        refine yT ?_
        have hE : errEnc f cls a = 4 := by unfold errEnc; rw [if_neg c1, if_neg (by omega), if_neg c3, if_neg c58, if_pos (by first | (have := of_decide_eq_true f88; omega) | exact .inr (.inl (bne_iff_ne.1 f92)) | exact .inr (.inr ⟨f96, .inr f103⟩) | exact .inr (.inr ⟨f96, .inl (by first | (have := beq_iff_eq.1 f39; omega) | (have := beq_iff_eq.1 f49; omega))⟩))]
        have hN : (4 : Int) ≠ 0 := by decide
        refine yq ?_
        refine wp_ret ?_
        repeat (first | with_reducible refine sx_thenret ?_ | with_reducible refine sx_blockret ?_)
        refine yret (.tuple #[Go.Value.string (ByteArray.mk #[]), .int .i64 4]) (res2 Tryd.results29 rvt rvt) ?_
        exact givesS_err hE hN rfl (bthru ((bthru (bthru hbV1 hbV2) hbV3).trans (hOV4.below (by omega))) hbV5)
      refine ylb 3 rfl 96 b3 hT4 1 (a.g) false (f96) ?_
      refine yzt 10 ?_
      refine yF ?_
      refine wp_skip ?_
      refine sx_then ?_
      have hE : errEnc f cls a = 0 := by unfold errEnc; rw [if_neg c1, if_neg (by omega), if_neg c3, if_neg c58, if_neg (fun h => by rcases h with h | h | ⟨h, k⟩ <;> first | (have := of_decide_eq_false f88; omega) | (rw [show (a.e != 0) = true from bne_iff_ne.2 h] at f92; cases f92; done) | (rw [f96] at h; cases h; done) | (rcases k with k | k <;> first | (have := beq_iff_eq.1 f35; omega) | (have := beq_eq_false_iff_ne.1 f49; have := beq_eq_false_iff_ne.1 f35; have := beq_eq_false_iff_ne.1 f39; omega) | (rw [f103] at k; cases k; done)))]
      refine ye ?_
      refine yl 1 rfl 108 b6 hT3 1 ?_
      refine yv 0 rfl 109 (.int .i64 ((P : Nat) : Int)) ?_ (exec_shl (X := (1)) (Y := ((f.E : Nat) : Int)) (k2 := .i64) ((P : Nat) : Int) (by kernel_rfl) (by kernel_rfl) (by omega) ((HSH.out)))
      refine ya 0 rfl 110 .i64 (((P : Nat) : Int) - 1) (((P - 1 : Nat) : Int)) ((by rw [show (((P : Nat) : Int) - 1) = ((P - 1 : Nat) : Int) by omega]; exact IntWalk.i64_in _ (by omega))) ?_
      refine yzt 1 ?_
      refine ye ?_
      refine yl 1 rfl 112 b3 hT4 1 ?_
      refine yw 1 rfl 10 #[.bool false, .int .i64 0, .slice none 0 0] 137 (fun V6 hbV6 hzV6 b10 => ?_)
      have boV7 := b10
      refine ysw 0 rfl b10 hT137 #[.bool a.g, .int .i64 0, .slice none 0 0] ?_
      clear b10
      intro V7 hOV7 b10
      have hzV7 := hOV7.size
      refine yzt 0 ?_
      refine wp_seq ?_
      refine ye ?_
      replace b3 := (b3.past (hbV6.trans (hOV7.below (by omega))))
      refine yl 1 rfl 115 b3 hT3 0 ?_
      refine yzt 0 ?_
      refine wp_block ?_
      refine ye ?_
      refine yb 0 rfl 117 (cls == 3) (false) (f35) ?_
      refine yzt 1 ?_
      refine yF ?_
      refine ye ?_
      refine yb 0 rfl 126 (cls == 4) (false) (f39) ?_
      refine yzt 1 ?_
      refine yF ?_
      refine ye ?_
      refine yb 0 rfl 142 (cls == 5) (true) (f49) ?_
      refine yzt 1 ?_
      refine yT ?_
      refine sx_region ?_
      have boV8 := b10
      refine ys1 1 rfl b10 hT4 0 (.bool true) #[.bool true, .int .i64 0, .slice none 0 0] ?_
      clear b10
      intro V8 hOV8 b10
      have hzV8 := hOV8.size
      refine yz 0 ?_
      refine sx_inblock ?_
      refine sx_then ?_
      refine ye ?_
      replace b6 := (b6.past ((hbV6.trans (hOV7.below (by omega))).trans (hOV8.below (by omega))))
      refine yla 0 rfl 144 b6 hT116 0 ?_
      refine yla 0 rfl 145 b10 hT137 0 ?_
      refine yc 0 rfl 146 ((hJ0 V8 true 0 0 rfl h0T).out) (fun Gx hGx => ?_)
      rintro eV9 V9 ⟨rfl, hbV9⟩
      have hzV9 := hbV9.size
      have hS : strOf (f.strP (f.encP cls.toNat a.g d)) = strOf (f.str true 0 0) := by rw [show cls.toNat = 5 by have := beq_iff_eq.1 f49; omega, e5]; rfl
      refine ⟨_, rfl, hGx _ _ ?_⟩
      clear hGx Gx
      refine yzt 2 ?_
      refine wp_ret ?_
      repeat (first | with_reducible refine sx_thenret ?_ | with_reducible refine sx_blockret ?_)
      refine yret (.tuple #[.string (strOf (f.str true 0 0)), .int .i64 0]) (res2 Tryd.results29 rvt rvt) ?_
      exact givesS_ok hE hS rfl (bthru (((bthru (bthru ((bthru (bthru hbV1 hbV2) hbV3).trans (hOV4.below (by omega))) hbV5) hbV6).trans (hOV7.below (by omega))).trans (hOV8.below (by omega))) hbV9)
    replace b6 := (b6.past hbV5)
    refine ylb 2 rfl 52 b6 hT4 10 (f.res) false (f52) ?_
    refine yzt 3 ?_
    refine yT ?_
    have hE : errEnc f cls a = 5 := by unfold errEnc; rw [if_neg c1, if_neg (by omega), if_pos (by first | exact .inl ⟨.inl (beq_iff_eq.1 f35), f43⟩ | exact .inl ⟨.inr (beq_iff_eq.1 f39), f43⟩ | exact .inr ⟨beq_iff_eq.1 f49, f52⟩)]
    have hN : (5 : Int) ≠ 0 := by decide
    refine yq ?_
    refine wp_ret ?_
    repeat (first | with_reducible refine sx_thenret ?_ | with_reducible refine sx_blockret ?_)
    refine yret (.tuple #[Go.Value.string (ByteArray.mk #[]), .int .i64 5]) (res2 Tryd.results29 rvt rvt) ?_
    exact givesS_err hE hN rfl (bthru ((bthru (bthru hbV1 hbV2) hbV3).trans (hOV4.below (by omega))) hbV5)
  refine yb 0 rfl 49 (cls == 5) (false) (f49) ?_
  refine yzt 6 ?_
  refine yF ?_
  refine wp_skip ?_
  refine sx_then ?_
  refine wp_seq ?_
  have c3 : ¬ (((cls = 3 ∨ cls = 4) ∧ f.inf = false) ∨ (cls = 5 ∧ f.res = false)) := fun h => by rcases h with ⟨h, k⟩ | ⟨h, k⟩ <;> first | (rw [f43] at k; cases k; done) | (rw [f52] at k; cases k; done) | (have q := beq_iff_eq.1 f35; omega) | (have q := beq_iff_eq.1 f39; omega) | (have q := beq_eq_false_iff_ne.1 f35; have q2 := beq_eq_false_iff_ne.1 f39; omega) | (have q := beq_eq_false_iff_ne.1 f49; omega)
  refine ye ?_
  refine yl 1 rfl 57 b3 hT3 0 ?_
  rcases Bool.eq_false_or_eq_true (cls == 2) with f58 | f58
  · skip
    refine yb 0 rfl 58 (cls == 2) (true) (f58) ?_
    refine yzt 0 ?_
    refine yT ?_
    refine wp_seq ?_
    have c58 : cls = 2 := beq_iff_eq.1 f58
    refine ye ?_
    refine yl 1 rfl 60 b3 hT3 3 ?_
    rcases Bool.eq_false_or_eq_true (decide (a.e < (-20000))) with f61 | f61
    · skip
      refine yb 0 rfl 61 (decide (a.e < (-20000))) (true) (f61) ?_
      refine yzt 5 ?_
      refine yT ?_
      have hE : errEnc f cls a = 3 := by unfold errEnc; rw [if_neg c1, if_neg (by omega), if_neg c3, if_pos c58, if_pos (by first | (have := of_decide_eq_true f61; omega) | (have := of_decide_eq_true f65; omega))]
      have hN : (3 : Int) ≠ 0 := by decide
      refine yq ?_
      refine wp_ret ?_
      repeat (first | with_reducible refine sx_thenret ?_ | with_reducible refine sx_blockret ?_)
      refine yret (.tuple #[Go.Value.string (ByteArray.mk #[]), .int .i64 3]) (res2 Tryd.results29 rvt rvt) ?_
      exact givesS_err hE hN rfl (bthru ((bthru (bthru hbV1 hbV2) hbV3).trans (hOV4.below (by omega))) hbV5)
    refine yb 0 rfl 61 (decide (a.e < (-20000))) (false) (f61) ?_
    refine yl 2 rfl 64 b3 hT3 3 ?_
    rcases Bool.eq_false_or_eq_true (decide (a.e > 20000)) with f65 | f65
    · skip
      refine yb 0 rfl 65 (decide (a.e > 20000)) (true) (f65) ?_
      refine yzt 1 ?_
      refine yT ?_
      have hE : errEnc f cls a = 3 := by unfold errEnc; rw [if_neg c1, if_neg (by omega), if_neg c3, if_pos c58, if_pos (by first | (have := of_decide_eq_true f61; omega) | (have := of_decide_eq_true f65; omega))]
      have hN : (3 : Int) ≠ 0 := by decide
      refine yq ?_
      refine wp_ret ?_
      repeat (first | with_reducible refine sx_thenret ?_ | with_reducible refine sx_blockret ?_)
      refine yret (.tuple #[Go.Value.string (ByteArray.mk #[]), .int .i64 3]) (res2 Tryd.results29 rvt rvt) ?_
      exact givesS_err hE hN rfl (bthru ((bthru (bthru hbV1 hbV2) hbV3).trans (hOV4.below (by omega))) hbV5)
    refine yb 0 rfl 65 (decide (a.e > 20000)) (false) (f65) ?_
    refine yzt 1 ?_
    refine yF ?_
    refine wp_skip ?_
    refine sx_then ?_
    refine wp_seq ?_
    refine wp_seq ?_
    by_cases h70 : a.xs.length = 0
    · skip
      by_cases h77 : inGridD d f.g = true
      · skip
        have c4 : -20000 ≤ a.e ∧ a.e ≤ 20000 := by have := of_decide_eq_false f61; have := of_decide_eq_false f65; omega
        have hb1 := hbd c2 c4
        replace b6 := (b6.past hbV5)
        obtain ⟨V6, hVV6, hbV6, hzV6⟩ := drew_of V5
        replace b3 := (b3.past hbV6)
        replace b6 := (b6.past hbV6)
        refine yd2 hVV6 ⟨b3, b6⟩ ?_
        clear hVV6
        refine yt 12 [0] rfl ⟨b3, b6⟩ ?_
        refine ytl 1 rfl 68 (fun _ h => h.1) hT23 2 ⟨b3, b6⟩ ?_
        refine yt 10 [2] rfl ⟨b3, b6⟩ ?_
        refine tk 3 70 (.bool true) ⟨b3, b6⟩ ?_ (hy := fun w' _ => ((show _ = Result.ok (Next.value (.bool (((a.xs.length : Nat) : Int) == 0))) _ from (by kernel_rfl)).trans (congrArg (fun z => Result.ok (Next.value (.bool z)) _) (show (((a.xs.length : Nat) : Int) == 0) = true from beq_iff_eq.2 (by omega)))))
        refine yt 0 [4, 5, 6, 7, 8, 9, 10, 11, 12] rfl ⟨b3, b6⟩ ?_
        refine sx_done (by kernel_rfl) ?_
        refine sx_then ?_
        refine yT ?_
        have hE : errEnc f cls a = 4 := by unfold errEnc; rw [if_neg c1, if_neg (by omega), if_neg c3, if_pos c58, if_neg (by omega), if_pos (by first | exact .inl h70 | exact .inr (by rw [hD]; simpa using h77))]
        have hN : (4 : Int) ≠ 0 := by decide
        refine yq ?_
        refine wp_ret ?_
        repeat (first | with_reducible refine sx_thenret ?_ | with_reducible refine sx_blockret ?_)
        refine yret (.tuple #[Go.Value.string (ByteArray.mk #[]), .int .i64 4]) (res2 Tryd.results29 rvt rvt) ?_
        exact givesS_err hE hN rfl (bthru (bthru ((bthru (bthru hbV1 hbV2) hbV3).trans (hOV4.below (by omega))) hbV5) hbV6)
      have c4 : -20000 ≤ a.e ∧ a.e ≤ 20000 := by have := of_decide_eq_false f61; have := of_decide_eq_false f65; omega
      have hb1 := hbd c2 c4
      replace b6 := (b6.past hbV5)
      obtain ⟨V6, hVV6, hbV6, hzV6⟩ := drew_of V5
      replace b3 := (b3.past hbV6)
      replace b6 := (b6.past hbV6)
      refine yd2 hVV6 ⟨b3, b6⟩ ?_
      clear hVV6
      refine yt 12 [0] rfl ⟨b3, b6⟩ ?_
      refine ytl 1 rfl 68 (fun _ h => h.1) hT23 2 ⟨b3, b6⟩ ?_
      refine yt 10 [2] rfl ⟨b3, b6⟩ ?_
      refine tk 3 70 (.bool true) ⟨b3, b6⟩ ?_ (hy := fun w' _ => ((show _ = Result.ok (Next.value (.bool (((a.xs.length : Nat) : Int) == 0))) _ from (by kernel_rfl)).trans (congrArg (fun z => Result.ok (Next.value (.bool z)) _) (show (((a.xs.length : Nat) : Int) == 0) = true from beq_iff_eq.2 (by omega)))))
      refine yt 0 [4, 5, 6, 7, 8, 9, 10, 11, 12] rfl ⟨b3, b6⟩ ?_
      refine sx_done (by kernel_rfl) ?_
      refine sx_then ?_
      refine yT ?_
      have hE : errEnc f cls a = 4 := by unfold errEnc; rw [if_neg c1, if_neg (by omega), if_neg c3, if_pos c58, if_neg (by omega), if_pos (by first | exact .inl h70 | exact .inr (by rw [hD]; simpa using h77))]
      have hN : (4 : Int) ≠ 0 := by decide
      refine yq ?_
      refine wp_ret ?_
      repeat (first | with_reducible refine sx_thenret ?_ | with_reducible refine sx_blockret ?_)
      refine yret (.tuple #[Go.Value.string (ByteArray.mk #[]), .int .i64 4]) (res2 Tryd.results29 rvt rvt) ?_
      exact givesS_err hE hN rfl (bthru (bthru ((bthru (bthru hbV1 hbV2) hbV3).trans (hOV4.below (by omega))) hbV5) hbV6)
    by_cases h77 : inGridD d f.g = true
    · skip
      have c4 : -20000 ≤ a.e ∧ a.e ≤ 20000 := by have := of_decide_eq_false f61; have := of_decide_eq_false f65; omega
      have hb1 := hbd c2 c4
      replace b6 := (b6.past hbV5)
      obtain ⟨V6, hVV6, hbV6, hzV6⟩ := drew_of V5
      replace b3 := (b3.past hbV6)
      replace b6 := (b6.past hbV6)
      refine yd2 hVV6 ⟨b3, b6⟩ ?_
      clear hVV6
      refine yt 12 [0] rfl ⟨b3, b6⟩ ?_
      refine ytl 1 rfl 68 (fun _ h => h.1) hT23 2 ⟨b3, b6⟩ ?_
      refine yt 10 [2] rfl ⟨b3, b6⟩ ?_
      refine tk 3 70 (.bool false) ⟨b3, b6⟩ ?_ (hy := fun w' _ => ((show _ = Result.ok (Next.value (.bool (((a.xs.length : Nat) : Int) == 0))) _ from (by kernel_rfl)).trans (congrArg (fun z => Result.ok (Next.value (.bool z)) _) (show (((a.xs.length : Nat) : Int) == 0) = false from beq_eq_false_iff_ne.2 (by omega)))))
      refine yt 8 [4] rfl ⟨b3, b6⟩ ?_
      refine ytla 5 rfl 72 (fun _ h => h.2) hT116 0 ⟨b3, b6⟩ ?_
      refine ytla 6 rfl 73 (fun _ h => h.1) hT56 0 ⟨b3, b6⟩ ?_
      refine yt 5 [8] rfl ⟨b3, b6⟩ ?_
      refine ytla 9 rfl 76 (fun _ h => h.2) hT29 3 ⟨b3, b6⟩ ?_
      refine sxr [7] ?_
      refine rd1 (fun Kx hKx => ?_)
      replace rd := (rd.past (bthru hbV5 hbV6))
      replace hT := (hT.past (bthru (bthru ((bthru (bthru hbV1 hbV2) hbV3).trans (hOV4.below (by omega))) hbV5) hbV6))
      refine yck 74 ((HR V6 c2 rd c4 hT).out) ?_
      rintro eV7 V7 ⟨p74, c74, rfl, o74, hbV7⟩
      have hzV7 := hbV7.size
      refine ⟨_, rfl, ?_⟩
      replace b3 := (b3.past hbV7)
      replace b6 := (b6.past hbV7)
      refine hKx.out _ _ ⟨b3, b6⟩ ?_
      clear hKx Kx
      refine sxr [10] ?_
      refine rd1 (fun Kx hKx => ?_)
      refine yck 77 (gkeeps_any d.neg p74 c74 d.e d.m f.g V7 o74.rd (by omega) (by omega) (goodG_of G.g)) ?_
      rintro eV8 V8 ⟨rfl, hbV8⟩
      have hzV8 := hbV8.size
      rw [show (keepsD ⟨d.neg, d.m, d.e⟩ f.g) = true from hkp.trans h77]
      refine ⟨_, rfl, ?_⟩
      replace b3 := (b3.past hbV8)
      replace b6 := (b6.past hbV8)
      refine hKx.out _ _ ⟨b3, b6⟩ ?_
      clear hKx Kx
      refine yt 0 [11, 12] rfl ⟨b3, b6⟩ ?_
      refine sx_done (by kernel_rfl) ?_
      refine sx_then ?_
      refine yF ?_
      refine wp_skip ?_
      refine sx_then ?_
      refine wp_seq ?_
      have hi := hige h77
      obtain ⟨V9, hVV9, hbV9, hzV9⟩ := drew_of V8
      replace b6 := (b6.past hbV9)
      replace b3 := (b3.past hbV9)
      refine yd2 hVV9 ⟨b6, b3⟩ ?_
      clear hVV9
      refine ytla 0 rfl 80 (fun _ h => h.1) hT116 0 ⟨b6, b3⟩ ?_
      refine ytla 1 rfl 81 (fun _ h => h.1) hT116 0 ⟨b6, b3⟩ ?_
      refine ytla 2 rfl 82 (fun _ h => h.2) hT56 0 ⟨b6, b3⟩ ?_
      refine sxr [3] ?_
      refine rd1 (fun Kx hKx => ?_)
      replace rd := (rd.past (bthru (bthru hbV7 hbV8) hbV9))
      replace hT := (hT.past (bthru (bthru hbV7 hbV8) hbV9))
      refine yck 83 ((HR V9 c2 rd c4 hT).out) ?_
      rintro eV10 V10 ⟨p83, c83, rfl, o83, hbV10⟩
      have hzV10 := hbV10.size
      refine ⟨_, rfl, ?_⟩
      replace b6 := (b6.past hbV10)
      replace b3 := (b3.past hbV10)
      refine hKx.out _ _ ⟨b6, b3⟩ ?_
      clear hKx Kx
      refine sxr [4] ?_
      refine rd1 (fun Kx hKx => ?_)
      refine yck 84 (number_any f d p83 c83 V10 G o83.rd hb1.1 (by omega) h77 (hm0 c2 h70)) ?_
      rintro eV11 V11 ⟨rfl, hbV11⟩
      have hzV11 := hbV11.size
      refine ⟨_, rfl, ?_⟩
      replace b6 := (b6.past hbV11)
      replace b3 := (b3.past hbV11)
      refine hKx.out _ _ ⟨b6, b3⟩ ?_
      clear hKx Kx
      refine yt 0 [5, 6] rfl ⟨b6, b3⟩ ?_
      refine sx_done (by kernel_rfl) ?_
      refine sx_then ?_
      refine wp_ret ?_
      repeat (first | with_reducible refine sx_thenret ?_ | with_reducible refine sx_blockret ?_)
      refine yret (.tuple #[.string (strOf (f.strP (f.numP d))), .int .i64 0]) (res2 Tryd.results29 rvt rvt) ?_
      have hE : errEnc f cls a = 0 := by unfold errEnc; rw [if_neg c1, if_neg (by omega), if_neg c3, if_pos c58, if_neg (by omega), if_neg (fun h => by rcases h with h | h <;> first | exact h70 h | (rw [hD, h77] at h; cases h; done))]
      exact givesS_ok hE (by rw [show cls.toNat = 2 by omega, e2]) rfl (bthru (bthru (bthru (bthru (bthru (bthru (bthru ((bthru (bthru hbV1 hbV2) hbV3).trans (hOV4.below (by omega))) hbV5) hbV6) hbV7) hbV8) hbV9) hbV10) hbV11)
    have c4 : -20000 ≤ a.e ∧ a.e ≤ 20000 := by have := of_decide_eq_false f61; have := of_decide_eq_false f65; omega
    have hb1 := hbd c2 c4
    replace b6 := (b6.past hbV5)
    obtain ⟨V6, hVV6, hbV6, hzV6⟩ := drew_of V5
    replace b3 := (b3.past hbV6)
    replace b6 := (b6.past hbV6)
    refine yd2 hVV6 ⟨b3, b6⟩ ?_
    clear hVV6
    refine yt 12 [0] rfl ⟨b3, b6⟩ ?_
    refine ytl 1 rfl 68 (fun _ h => h.1) hT23 2 ⟨b3, b6⟩ ?_
    refine yt 10 [2] rfl ⟨b3, b6⟩ ?_
    refine tk 3 70 (.bool false) ⟨b3, b6⟩ ?_ (hy := fun w' _ => ((show _ = Result.ok (Next.value (.bool (((a.xs.length : Nat) : Int) == 0))) _ from (by kernel_rfl)).trans (congrArg (fun z => Result.ok (Next.value (.bool z)) _) (show (((a.xs.length : Nat) : Int) == 0) = false from beq_eq_false_iff_ne.2 (by omega)))))
    refine yt 8 [4] rfl ⟨b3, b6⟩ ?_
    refine ytla 5 rfl 72 (fun _ h => h.2) hT116 0 ⟨b3, b6⟩ ?_
    refine ytla 6 rfl 73 (fun _ h => h.1) hT56 0 ⟨b3, b6⟩ ?_
    refine yt 5 [8] rfl ⟨b3, b6⟩ ?_
    refine ytla 9 rfl 76 (fun _ h => h.2) hT29 3 ⟨b3, b6⟩ ?_
    refine sxr [7] ?_
    refine rd1 (fun Kx hKx => ?_)
    replace rd := (rd.past (bthru hbV5 hbV6))
    replace hT := (hT.past (bthru (bthru ((bthru (bthru hbV1 hbV2) hbV3).trans (hOV4.below (by omega))) hbV5) hbV6))
    refine yck 74 ((HR V6 c2 rd c4 hT).out) ?_
    rintro eV7 V7 ⟨p74, c74, rfl, o74, hbV7⟩
    have hzV7 := hbV7.size
    refine ⟨_, rfl, ?_⟩
    replace b3 := (b3.past hbV7)
    replace b6 := (b6.past hbV7)
    refine hKx.out _ _ ⟨b3, b6⟩ ?_
    clear hKx Kx
    refine sxr [10] ?_
    refine rd1 (fun Kx hKx => ?_)
    refine yck 77 (gkeeps_any d.neg p74 c74 d.e d.m f.g V7 o74.rd (by omega) (by omega) (goodG_of G.g)) ?_
    rintro eV8 V8 ⟨rfl, hbV8⟩
    have hzV8 := hbV8.size
    rw [show (keepsD ⟨d.neg, d.m, d.e⟩ f.g) = false from hkp.trans (by simpa using h77)]
    refine ⟨_, rfl, ?_⟩
    replace b3 := (b3.past hbV8)
    replace b6 := (b6.past hbV8)
    refine hKx.out _ _ ⟨b3, b6⟩ ?_
    clear hKx Kx
    refine yt 0 [11, 12] rfl ⟨b3, b6⟩ ?_
    refine sx_done (by kernel_rfl) ?_
    refine sx_then ?_
    refine yT ?_
    have hE : errEnc f cls a = 4 := by unfold errEnc; rw [if_neg c1, if_neg (by omega), if_neg c3, if_pos c58, if_neg (by omega), if_pos (by first | exact .inl h70 | exact .inr (by rw [hD]; simpa using h77))]
    have hN : (4 : Int) ≠ 0 := by decide
    refine yq ?_
    refine wp_ret ?_
    repeat (first | with_reducible refine sx_thenret ?_ | with_reducible refine sx_blockret ?_)
    refine yret (.tuple #[Go.Value.string (ByteArray.mk #[]), .int .i64 4]) (res2 Tryd.results29 rvt rvt) ?_
    exact givesS_err hE hN rfl (bthru (bthru (bthru (bthru ((bthru (bthru hbV1 hbV2) hbV3).trans (hOV4.below (by omega))) hbV5) hbV6) hbV7) hbV8)
  refine yb 0 rfl 58 (cls == 2) (false) (f58) ?_
  refine yzt 0 ?_
  refine yF ?_
  refine wp_skip ?_
  refine sx_then ?_
  refine wp_seq ?_
  have c58 : cls ≠ 2 := by first | (have := beq_iff_eq.1 f35; omega) | (have := beq_iff_eq.1 f39; omega) | (have := beq_iff_eq.1 f49; omega) | exact beq_eq_false_iff_ne.1 f58
  refine ye ?_
  refine yl 1 rfl 86 b3 hT23 2 ?_
  rcases Bool.eq_false_or_eq_true (decide (((a.xs.length : Nat) : Int) > 0)) with f88 | f88
  · skip
    refine yb 1 rfl 88 (decide (((a.xs.length : Nat) : Int) > 0)) (true) (f88) ?_
    refine yzt 18 ?_
    refine yT ?_
    have hE : errEnc f cls a = 4 := by unfold errEnc; rw [if_neg c1, if_neg (by omega), if_neg c3, if_neg c58, if_pos (by first | (have := of_decide_eq_true f88; omega) | exact .inr (.inl (bne_iff_ne.1 f92)) | exact .inr (.inr ⟨f96, .inr f103⟩) | exact .inr (.inr ⟨f96, .inl (by first | (have := beq_iff_eq.1 f39; omega) | (have := beq_iff_eq.1 f49; omega))⟩))]
    have hN : (4 : Int) ≠ 0 := by decide
    refine yq ?_
    refine wp_ret ?_
    repeat (first | with_reducible refine sx_thenret ?_ | with_reducible refine sx_blockret ?_)
    refine yret (.tuple #[Go.Value.string (ByteArray.mk #[]), .int .i64 4]) (res2 Tryd.results29 rvt rvt) ?_
    exact givesS_err hE hN rfl (bthru ((bthru (bthru hbV1 hbV2) hbV3).trans (hOV4.below (by omega))) hbV5)
  refine yb 1 rfl 88 (decide (((a.xs.length : Nat) : Int) > 0)) (false) (f88) ?_
  refine yl 2 rfl 91 b3 hT3 3 ?_
  rcases Bool.eq_false_or_eq_true (a.e != 0) with f92 | f92
  · skip
    refine yb 0 rfl 92 (a.e != 0) (true) (f92) ?_
    refine yzt 14 ?_
    refine yT ?_
    have hE : errEnc f cls a = 4 := by unfold errEnc; rw [if_neg c1, if_neg (by omega), if_neg c3, if_neg c58, if_pos (by first | (have := of_decide_eq_true f88; omega) | exact .inr (.inl (bne_iff_ne.1 f92)) | exact .inr (.inr ⟨f96, .inr f103⟩) | exact .inr (.inr ⟨f96, .inl (by first | (have := beq_iff_eq.1 f39; omega) | (have := beq_iff_eq.1 f49; omega))⟩))]
    have hN : (4 : Int) ≠ 0 := by decide
    refine yq ?_
    refine wp_ret ?_
    repeat (first | with_reducible refine sx_thenret ?_ | with_reducible refine sx_blockret ?_)
    refine yret (.tuple #[Go.Value.string (ByteArray.mk #[]), .int .i64 4]) (res2 Tryd.results29 rvt rvt) ?_
    exact givesS_err hE hN rfl (bthru ((bthru (bthru hbV1 hbV2) hbV3).trans (hOV4.below (by omega))) hbV5)
  refine yb 0 rfl 92 (a.e != 0) (false) (f92) ?_
  rcases Bool.eq_false_or_eq_true (a.g) with f96 | f96
  · skip
    refine ylb 3 rfl 96 b3 hT4 1 (a.g) true (f96) ?_
    refine yl 2 rfl 99 b3 hT3 0 ?_
    refine yb 0 rfl 100 (decide (cls ≥ 4)) (false) (decide_eq_false (by have := beq_eq_false_iff_ne.1 f49; have := beq_eq_false_iff_ne.1 f35; have := beq_eq_false_iff_ne.1 f39; omega)) ?_
    rcases Bool.eq_false_or_eq_true (f.res) with f103 | f103
    · skip
      replace b6 := (b6.past hbV5)
      refine ylb 2 rfl 103 b6 hT4 10 (f.res) true (f103) ?_
      refine yzt 3 ?_
      refine yT ?_
      have hE : errEnc f cls a = 4 := by unfold errEnc; rw [if_neg c1, if_neg (by omega), if_neg c3, if_neg c58, if_pos (by first | (have := of_decide_eq_true f88; omega) | exact .inr (.inl (bne_iff_ne.1 f92)) | exact .inr (.inr ⟨f96, .inr f103⟩) | exact .inr (.inr ⟨f96, .inl (by first | (have := beq_iff_eq.1 f39; omega) | (have := beq_iff_eq.1 f49; omega))⟩))]
      have hN : (4 : Int) ≠ 0 := by decide
      refine yq ?_
      refine wp_ret ?_
      repeat (first | with_reducible refine sx_thenret ?_ | with_reducible refine sx_blockret ?_)
      refine yret (.tuple #[Go.Value.string (ByteArray.mk #[]), .int .i64 4]) (res2 Tryd.results29 rvt rvt) ?_
      exact givesS_err hE hN rfl (bthru ((bthru (bthru hbV1 hbV2) hbV3).trans (hOV4.below (by omega))) hbV5)
    replace b6 := (b6.past hbV5)
    refine ylb 2 rfl 103 b6 hT4 10 (f.res) false (f103) ?_
    refine yzt 3 ?_
    refine yF ?_
    refine wp_skip ?_
    refine sx_then ?_
    have hE : errEnc f cls a = 0 := by unfold errEnc; rw [if_neg c1, if_neg (by omega), if_neg c3, if_neg c58, if_neg (fun h => by rcases h with h | h | ⟨h, k⟩ <;> first | (have := of_decide_eq_false f88; omega) | (rw [show (a.e != 0) = true from bne_iff_ne.2 h] at f92; cases f92; done) | (rw [f96] at h; cases h; done) | (rcases k with k | k <;> first | (have := beq_iff_eq.1 f35; omega) | (have := beq_eq_false_iff_ne.1 f49; have := beq_eq_false_iff_ne.1 f35; have := beq_eq_false_iff_ne.1 f39; omega) | (rw [f103] at k; cases k; done)))]
    refine ye ?_
    refine yl 1 rfl 108 b6 hT3 1 ?_
    refine yv 0 rfl 109 (.int .i64 ((P : Nat) : Int)) ?_ (exec_shl (X := (1)) (Y := ((f.E : Nat) : Int)) (k2 := .i64) ((P : Nat) : Int) (by kernel_rfl) (by kernel_rfl) (by omega) ((HSH.out)))
    refine ya 0 rfl 110 .i64 (((P : Nat) : Int) - 1) (((P - 1 : Nat) : Int)) ((by rw [show (((P : Nat) : Int) - 1) = ((P - 1 : Nat) : Int) by omega]; exact IntWalk.i64_in _ (by omega))) ?_
    refine yzt 1 ?_
    refine ye ?_
    refine yl 1 rfl 112 b3 hT4 1 ?_
    refine yw 1 rfl 10 #[.bool false, .int .i64 0, .slice none 0 0] 137 (fun V6 hbV6 hzV6 b10 => ?_)
    have boV7 := b10
    refine ysw 0 rfl b10 hT137 #[.bool a.g, .int .i64 0, .slice none 0 0] ?_
    clear b10
    intro V7 hOV7 b10
    have hzV7 := hOV7.size
    refine yzt 0 ?_
    refine wp_seq ?_
    refine ye ?_
    replace b3 := (b3.past (hbV6.trans (hOV7.below (by omega))))
    refine yl 1 rfl 115 b3 hT3 0 ?_
    refine yzt 0 ?_
    refine wp_block ?_
    refine ye ?_
    refine yb 0 rfl 117 (cls == 3) (false) (f35) ?_
    refine yzt 1 ?_
    refine yF ?_
    refine ye ?_
    refine yb 0 rfl 126 (cls == 4) (false) (f39) ?_
    refine yzt 1 ?_
    refine yF ?_
    refine ye ?_
    refine yb 0 rfl 142 (cls == 5) (false) (f49) ?_
    refine yzt 1 ?_
    refine yF ?_
    refine wp_skip ?_
    refine sx_inblock ?_
    refine sx_then ?_
    refine ye ?_
    replace b6 := (b6.past (hbV6.trans (hOV7.below (by omega))))
    refine yla 0 rfl 144 b6 hT116 0 ?_
    refine yla 0 rfl 145 b10 hT137 0 ?_
    refine yc 0 rfl 146 ((hJ0 V7 a.g 0 0 rfl h0T).out) (fun Gx hGx => ?_)
    rintro eV8 V8 ⟨rfl, hbV8⟩
    have hzV8 := hbV8.size
    have hS : strOf (f.strP (f.encP cls.toNat a.g d)) = strOf (f.str a.g 0 0) := by rw [show cls.toNat = 1 by have := beq_eq_false_iff_ne.1 f49; have := beq_eq_false_iff_ne.1 f35; have := beq_eq_false_iff_ne.1 f39; omega, e1]; rfl
    refine ⟨_, rfl, hGx _ _ ?_⟩
    clear hGx Gx
    refine yzt 2 ?_
    refine wp_ret ?_
    repeat (first | with_reducible refine sx_thenret ?_ | with_reducible refine sx_blockret ?_)
    refine yret (.tuple #[.string (strOf (f.str a.g 0 0)), .int .i64 0]) (res2 Tryd.results29 rvt rvt) ?_
    exact givesS_ok hE hS rfl (bthru ((bthru (bthru ((bthru (bthru hbV1 hbV2) hbV3).trans (hOV4.below (by omega))) hbV5) hbV6).trans (hOV7.below (by omega))) hbV8)
  refine ylb 3 rfl 96 b3 hT4 1 (a.g) false (f96) ?_
  refine yzt 10 ?_
  refine yF ?_
  refine wp_skip ?_
  refine sx_then ?_
  have hE : errEnc f cls a = 0 := by unfold errEnc; rw [if_neg c1, if_neg (by omega), if_neg c3, if_neg c58, if_neg (fun h => by rcases h with h | h | ⟨h, k⟩ <;> first | (have := of_decide_eq_false f88; omega) | (rw [show (a.e != 0) = true from bne_iff_ne.2 h] at f92; cases f92; done) | (rw [f96] at h; cases h; done) | (rcases k with k | k <;> first | (have := beq_iff_eq.1 f35; omega) | (have := beq_eq_false_iff_ne.1 f49; have := beq_eq_false_iff_ne.1 f35; have := beq_eq_false_iff_ne.1 f39; omega) | (rw [f103] at k; cases k; done)))]
  refine ye ?_
  replace b6 := (b6.past hbV5)
  refine yl 1 rfl 108 b6 hT3 1 ?_
  refine yv 0 rfl 109 (.int .i64 ((P : Nat) : Int)) ?_ (exec_shl (X := (1)) (Y := ((f.E : Nat) : Int)) (k2 := .i64) ((P : Nat) : Int) (by kernel_rfl) (by kernel_rfl) (by omega) ((HSH.out)))
  refine ya 0 rfl 110 .i64 (((P : Nat) : Int) - 1) (((P - 1 : Nat) : Int)) ((by rw [show (((P : Nat) : Int) - 1) = ((P - 1 : Nat) : Int) by omega]; exact IntWalk.i64_in _ (by omega))) ?_
  refine yzt 1 ?_
  refine ye ?_
  refine yl 1 rfl 112 b3 hT4 1 ?_
  refine yw 1 rfl 10 #[.bool false, .int .i64 0, .slice none 0 0] 137 (fun V6 hbV6 hzV6 b10 => ?_)
  have boV7 := b10
  refine ysw 0 rfl b10 hT137 #[.bool a.g, .int .i64 0, .slice none 0 0] ?_
  clear b10
  intro V7 hOV7 b10
  have hzV7 := hOV7.size
  refine yzt 0 ?_
  refine wp_seq ?_
  refine ye ?_
  replace b3 := (b3.past (hbV6.trans (hOV7.below (by omega))))
  refine yl 1 rfl 115 b3 hT3 0 ?_
  refine yzt 0 ?_
  refine wp_block ?_
  refine ye ?_
  refine yb 0 rfl 117 (cls == 3) (false) (f35) ?_
  refine yzt 1 ?_
  refine yF ?_
  refine ye ?_
  refine yb 0 rfl 126 (cls == 4) (false) (f39) ?_
  refine yzt 1 ?_
  refine yF ?_
  refine ye ?_
  refine yb 0 rfl 142 (cls == 5) (false) (f49) ?_
  refine yzt 1 ?_
  refine yF ?_
  refine wp_skip ?_
  refine sx_inblock ?_
  refine sx_then ?_
  refine ye ?_
  replace b6 := (b6.past (hbV6.trans (hOV7.below (by omega))))
  refine yla 0 rfl 144 b6 hT116 0 ?_
  refine yla 0 rfl 145 b10 hT137 0 ?_
  refine yc 0 rfl 146 ((hJ0 V7 a.g 0 0 rfl h0T).out) (fun Gx hGx => ?_)
  rintro eV8 V8 ⟨rfl, hbV8⟩
  have hzV8 := hbV8.size
  have hS : strOf (f.strP (f.encP cls.toNat a.g d)) = strOf (f.str a.g 0 0) := by rw [show cls.toNat = 1 by have := beq_eq_false_iff_ne.1 f49; have := beq_eq_false_iff_ne.1 f35; have := beq_eq_false_iff_ne.1 f39; omega, e1]; rfl
  refine ⟨_, rfl, hGx _ _ ?_⟩
  clear hGx Gx
  refine yzt 2 ?_
  refine wp_ret ?_
  repeat (first | with_reducible refine sx_thenret ?_ | with_reducible refine sx_blockret ?_)
  refine yret (.tuple #[.string (strOf (f.str a.g 0 0)), .int .i64 0]) (res2 Tryd.results29 rvt rvt) ?_
  exact givesS_ok hE hS rfl (bthru ((bthru (bthru ((bthru (bthru hbV1 hbV2) hbV3).trans (hOV4.below (by omega))) hbV5) hbV6).trans (hOV7.below (by omega))) hbV8)
end Go.Proofs.YtcipdimogodndaaDoor

namespace Go.Slip

def GrpIn (N : Nat) (D : List Nat) (i d A : Nat) : Prop := (∀ x ∈ D, x < 10) ∧ d < 10 ^ (4 - i) ∧ N = val 10 D + 10 ^ D.length * (d + 10 ^ (4 - i) * A)
def GrpOut (N : Nat) (D : List Nat) (A : Nat) : Prop := (∀ x ∈ D, x < 10) ∧ N = val 10 D + 10 ^ D.length * A

theorem GrpOut.start (N : Nat) : GrpOut N [] N := ⟨by simp, by simp⟩

theorem GrpOut.enter {N : Nat} {D : List Nat} {A : Nat} (h : GrpOut N D A) : GrpIn N D 0 (A % 10000) (A / 10000) := by
  refine ⟨h.1, Nat.mod_lt _ (by omega), ?_⟩
  rw [h.2]
  congr 2
  have := Nat.mod_add_div A 10000
  show A = A % 10000 + 10000 * (A / 10000)
  omega

theorem GrpIn.step {N : Nat} {D : List Nat} {i d A : Nat} (h : GrpIn N D i d A) (hi : i < 4) : GrpIn N (D ++ [d % 10]) (i + 1) (d / 10) A := by
  obtain ⟨h1, h2, h3⟩ := h
  have e : 4 - i = 4 - (i + 1) + 1 := by omega
  rw [e, Nat.pow_succ] at h2 h3
  refine ⟨fun x hx => ?_, by omega, ?_⟩
  · rcases List.mem_append.1 hx with hx | hx
    · exact h1 x hx
    · simp at hx; omega
  · rw [h3, val_snoc, List.length_append, List.length_singleton, Nat.pow_succ]
    have := Nat.mod_add_div d 10
    generalize d % 10 = s at *
    generalize d / 10 = q at *
    subst this
    grind

theorem GrpIn.leave {N : Nat} {D : List Nat} {d A : Nat} (h : GrpIn N D 4 d A) : GrpOut N D A := by
  obtain ⟨h1, h2, h3⟩ := h
  have hd : d = 0 := by simpa using h2
  subst hd
  exact ⟨h1, by rw [h3]; simp⟩

theorem GrpOut.size {N : Nat} {D : List Nat} {A : Nat} (h : GrpOut N D A) (hA : 0 < A) : D.length ≤ 16 * (dig B16 N).length := by
  have h1 : 10 ^ D.length ≤ N := by
    rw [h.2]
    have := Nat.le_mul_of_pos_right (10 ^ D.length) hA
    omega
  have h2 := (dig_len_le B16_two N _).1 (Nat.le_refl _)
  have h3 : B16 ^ (dig B16 N).length = 2 ^ (16 * (dig B16 N).length) := by rw [Nat.pow_mul]; congr 1
  have h4 : 2 ^ D.length ≤ 10 ^ D.length := Nat.pow_le_pow_left (by omega) _
  have h5 : 2 ^ D.length < 2 ^ (16 * (dig B16 N).length) := by rw [← h3]; omega
  exact Nat.le_of_lt ((Nat.pow_lt_pow_iff_right (by omega)).1 h5)

end Go.Slip

namespace Go.Slip

def MaRel (L X : List Nat) (ten d0 i d : Nat) : Prop :=
  (∀ x ∈ L, x < B32) ∧ L.length = X.length ∧ (∀ j, i ≤ j → dg L j = dg X j) ∧ val B32 (L.take i) + d * B32 ^ i = val B32 (X.take i) * ten + d0

theorem MaRel.start {X : List Nat} (h : ∀ x ∈ X, x < B32) (ten d0 : Nat) : MaRel X X ten d0 0 d0 := ⟨h, rfl, fun _ _ => rfl, by simp⟩

theorem MaRel.step {L X : List Nat} {ten d0 i d : Nat} (h : MaRel L X ten d0 i d) (hi : i < X.length) (t : Nat) (ht : t = dg X i * ten + d) : MaRel (L.set i (t % B32)) X ten d0 (i + 1) (t / B32) := by
  obtain ⟨h1, h2, h3, h4⟩ := h
  refine ⟨set_lt L h1 i _ (Nat.mod_lt _ B32_pos), by simpa using h2, fun j hj => ?_, ?_⟩
  · rw [dg_set_ne (by omega)]; exact h3 j (by omega)
  · rw [val_take_succ, take_set_same, dg_set_same (by omega), val_take_succ, Nat.pow_succ]
    have h5 := Nat.div_add_mod t B32
    generalize t / B32 = q at *
    generalize t % B32 = r at *
    have e : B32 ^ i * (B32 * q + r) = B32 ^ i * (dg X i * ten + d) := by rw [h5, ht]
    grind

theorem MaRel.done0 {L : List Nat} {ten d0 a : Nat} (h : MaRel L (dig B32 a) ten d0 (dig B32 a).length 0) (h1 : 0 < ten) : L = dig B32 (a * ten + d0) := by
  have h4 := h.2.2.2
  rw [List.take_length, val_dig B32_two, ← h.2.1, List.take_length] at h4
  obtain ⟨m, rfl⟩ : ∃ m, ten = m + 1 := ⟨ten - 1, by omega⟩
  have e : a * (m + 1) + d0 = a + (a * m + d0) := by grind
  rw [e] at h4 ⊢
  exact add_end0 B32_two L a _ h.1 h.2.1 (by omega)

theorem MaRel.done1 {L : List Nat} {ten d0 a d : Nat} (h : MaRel L (dig B32 a) ten d0 (dig B32 a).length d) (h1 : 0 < d) (h2 : d < B32) : L ++ [d] = dig B32 (a * ten + d0) := by
  have h4 := h.2.2.2
  rw [List.take_length, val_dig B32_two, ← h.2.1, List.take_length] at h4
  exact add_end1 B32_two L d _ h.1 h1 h2 h4

end Go.Slip

namespace Go.Proofs.YtcipdimogodndaaDoor
open Go.RowKit Go.Slip

theorem _root_.Go.Slip.SmallRel.skip {B : Nat} {L xs : List Nat} {d k r : Nat} (h : SmallRel B L xs d (k + 1) r) (hk : k < xs.length) (hL : k < L.length) (hx : dg xs k < B) (hz : dg L k = 0) (hlt : r * B + dg xs k < d) : SmallRel B L xs d k (r * B + dg xs k) := by
  have h1 := (h.step hk hL hx).1
  rw [Nat.div_eq_of_lt hlt, Nat.mod_eq_of_lt hlt, set_same L k hz] at h1
  exact h1

end Go.Proofs.YtcipdimogodndaaDoor

namespace Go.Proofs.YtcipdimogodndaaDoor
open Go.RowKit Go.Slip

instance decDv : DecidableEq Dv := fun a b => decidable_of_iff (a.neg = b.neg ∧ a.m = b.m ∧ a.e = b.e) ⟨fun h => Dv.ext' h.1 h.2.1 h.2.2, fun h => by subst h; exact ⟨rfl, rfl, rfl⟩⟩

end Go.Proofs.YtcipdimogodndaaDoor

namespace Go.Proofs.YtcipdimogodndaaDoor
open Go.RowKit Go.Slip

structure InF (w : World) (base : Nat) (a : Rw) : Prop where
  rd : Rd w .i64 a.p (dig B16 a.m)
  cap : (dig B16 a.m).length ≤ a.c
  len : (dig B16 a.m).length ≤ 1000000
  lo : -1000000 ≤ a.e
  hi : a.e ≤ 1000000
  at_ : 0 < (dig B16 a.m).length → base ≤ blk a.p

theorem InF.past {w w' : World} {base : Nat} {a : Rw} (h : InF w base a) (hb : Below w.heap.size w w') : InF w' base a := ⟨h.rd.past hb, h.cap, h.len, h.lo, h.hi, h.at_⟩
theorem InF.drew {w : World} {base : Nat} {a : Rw} (h : InF w base a) : InF w.drew base a := ⟨h.rd.drew, h.cap, h.len, h.lo, h.hi, h.at_⟩
theorem InF.mono {w : World} {base base' : Nat} {a : Rw} (h : InF w base a) (hb : base' ≤ base) : InF w base' a := ⟨h.rd, h.cap, h.len, h.lo, h.hi, fun k => Nat.le_trans hb (h.at_ k)⟩
theorem InF.only {w w' : World} {base k : Nat} {a : Rw} (h : InF w base a) (hb : Only k w w') (hne : 0 < (dig B16 a.m).length → blk a.p ≠ k) : InF w' base a := ⟨h.rd.only hb hne, h.cap, h.len, h.lo, h.hi, h.at_⟩
theorem InF.lt {w : World} {base : Nat} {a : Rw} (h : InF w base a) : 0 < (dig B16 a.m).length → blk a.p < w.heap.size := fun k => h.rd.lt k

end Go.Proofs.YtcipdimogodndaaDoor

namespace Go.Slip
end Go.Slip
namespace Go.Proofs.YtcipdimogodndaaDoor
open Go.RowKit Go.Slip

theorem dig16_le_pow {x n k : Nat} (h : x < 2 ^ n) (hk : n ≤ 16 * k) : (dig B16 x).length ≤ k := by
  rw [dig_len_le B16_two]
  unfold B16
  rw [show (65536 : Nat) = 2 ^ 16 from rfl, ← Nat.pow_mul]
  exact Nat.lt_of_lt_of_le h (Nat.pow_le_pow_right (by omega) hk)

end Go.Proofs.YtcipdimogodndaaDoor

namespace Go.Proofs.YtcipdimogodndaaDoor
open Go.RowKit Go.Slip

theorem refSameValue_any (v : Vl) (p q : Option Addr) (c d b1 b2 : Nat) (w : World) (hp : Own w b1 .u32 91 p c (dig B32 v.d)) (hq : Own w b2 .u32 91 q d (dig B32 v.d)) (hl : (dig B32 v.d).length ≤ 1000000) :
    Calls Tryd.prog 28 #[.agg #[.int .i64 ((v.cls : Nat) : Int), .bool v.neg, .slice p (dig B32 v.d).length c, .int .i64 v.pow], .agg #[.int .i64 ((v.cls : Nat) : Int), .bool v.neg, .slice q (dig B32 v.d).length d, .int .i64 v.pow]] w fun en w' => en = .returned (.bool true) ∧ Below w.heap.size w w' := by
  have hT3 : SxOne Tryd.prog 3 := sxOne_of (by kernel_rfl) (by kernel_rfl)
  have hT4 : SxOne Tryd.prog 4 := sxOne_of (by kernel_rfl) (by kernel_rfl)
  have hT23 : SxOne Tryd.prog 23 := sxOne_of (by kernel_rfl) (by kernel_rfl)
  refine calls_of_wp Tryd.func28 rfl ?_
  refine sx_frame (a' := ⟨((.agg #[.int .i64 ((v.cls : Nat) : Int), .bool v.neg, .slice p (dig B32 v.d).length c, .int .i64 v.pow]) :: (.agg #[.int .i64 ((v.cls : Nat) : Int), .bool v.neg, .slice q (dig B32 v.d).length d, .int .i64 v.pow]) :: us 29 []).toArray, []⟩) (by kernel_rfl) ?_
  refine ye ?_
  refine yw 0 rfl 2 #[.int .i64 ((v.cls : Nat) : Int), .bool v.neg, .slice p (dig B32 v.d).length c, .int .i64 v.pow] 56 (fun V1 hbV1 hzV1 b2 => ?_)
  refine yw 0 rfl 3 #[.int .i64 ((v.cls : Nat) : Int), .bool v.neg, .slice q (dig B32 v.d).length d, .int .i64 v.pow] 56 (fun V2 hbV2 hzV2 b3 => ?_)
  refine yzt 1 ?_
  refine ye ?_
  replace b2 := (b2.past hbV2)
  refine yl 1 rfl 6 b2 hT3 0 ?_
  refine yl 1 rfl 8 b3 hT3 0 ?_
  refine yb 0 rfl 9 (((v.cls : Nat) : Int) == ((v.cls : Nat) : Int)) (true) (beq_self_eq_true _) ?_
  refine yl 2 rfl 12 b2 hT4 1 ?_
  refine yl 1 rfl 14 b3 hT4 1 ?_
  refine yb 0 rfl 15 (v.neg == v.neg) (true) (beq_self_eq_true _) ?_
  refine yl 3 rfl 19 b2 hT3 3 ?_
  refine yl 1 rfl 21 b3 hT3 3 ?_
  refine yb 0 rfl 22 (v.pow == v.pow) (true) (beq_self_eq_true _) ?_
  refine yl 3 rfl 26 b2 hT23 2 ?_
  refine yl 1 rfl 28 b3 hT23 2 ?_
  replace hp := (hp.past (bthru hbV1 hbV2))
  replace hq := (hq.past (bthru hbV1 hbV2))
  refine yc 0 rfl 29 (refSameNat_any p q _ c _ d _ _ V2 hp.rd hq.rd rfl rfl rfl (by omega)) (fun Gx hGx => ?_)
  rintro eV3 V3 ⟨rfl, hbV3⟩
  have hzV3 := hbV3.size
  refine ⟨_, rfl, hGx _ _ ?_⟩
  clear hGx Gx
  refine yzt 2 ?_
  refine wp_ret ?_
  repeat (first | with_reducible refine sx_thenret ?_ | with_reducible refine sx_blockret ?_)
  refine yret (.bool true) (res1 Tryd.results28 rvt) ?_
  exact ⟨rfl, (bthru (bthru hbV1 hbV2) hbV3)⟩
end Go.Proofs.YtcipdimogodndaaDoor

namespace Go.Slip
theorem bytesOf_strOf {xs : List Nat} (h : ∀ x ∈ xs, x < 256) : bytesOf (strOf xs) = xs := by
  unfold bytesOf strOf
  simp only [List.map_map]
  rw [show (xs.map (UInt8.toNat ∘ UInt8.ofNat)) = xs.map id from List.map_congr_left fun x hx => by
    have := h x hx
    simp only [Function.comp, id]
    rw [UInt8.toNat_ofNat']
    omega]
  simp
theorem rd_lit4 {w : World} {b : Nat} {t : TypeId} {k : IntKind} {x0 x1 x2 x3 : Nat} (h : Bt w b t #[.int k (x0 : Int), .int k (x1 : Int), .int k (x2 : Int), .int k (x3 : Int)]) : Rd w k (some ⟨b, 0, none⟩) [x0, x1, x2, x3] := by
  refine ⟨fun _ => ⟨rfl, rfl⟩, fun j hj => ?_⟩
  obtain ⟨h0, h1, h2, h3⟩ := h.bx.e4
  simp only [List.length_cons, List.length_nil] at hj
  match j, hj with
  | 0, _ => exact h0
  | 1, _ => exact h1
  | 2, _ => exact h2
  | 3, _ => exact h3
theorem rd_lit1 {w : World} {b : Nat} {t : TypeId} {k : IntKind} {x0 : Nat} (h : Bt w b t #[.int k (x0 : Int)]) : Rd w k (some ⟨b, 0, none⟩) [x0] := by
  refine ⟨fun _ => ⟨rfl, rfl⟩, fun j hj => ?_⟩
  simp only [List.length_cons, List.length_nil] at hj
  obtain rfl : j = 0 := by omega
  exact h.e1
theorem exec_seq {P : Program} {a : Act} {w : World} {x y : Operand} {dst : Option Tmp} {t t2 tt : TypeId} {pos : String} {af : Array Edge} {g : Option (Nat × Bool)} {s : ByteArray} (hx : a.eval x = .string s) (hy : a.eval y = .string s) :
    (execOp a.eval ⟨dst, .binOp .eql t x y tt, t2, pos, af, g⟩).run P w = .ok (.value (.bool true)) w := by
  unfold execOp
  simp only [hx, hy]
  simp [go_sem, eqGuard]
end Go.Slip
namespace Go.Proofs.YtcipdimogodndaaDoor
open Go.RowKit Go.Slip

def errEncN (n cls : Int) (a : Din) : Int := if IsFm n then errEnc (fmt n) cls a else 6
theorem Encode_any (n : Int) (cls : Int) (a : Din) (w : World) (ha : InD w a) (hT : TabW w) :
    Calls Tryd.prog 29 #[.int .i64 n, .agg #[.int .i64 cls, .bool a.g, .slice a.p a.xs.length a.c, .int .i64 a.e]] w (GivesS w (errEncN n cls a) (encOut (fmt n) cls a)) := by
  unfold errEncN
  by_cases hn : IsFm n
  · rw [if_pos hn]; exact encode_fm n cls a w hn ha hT
  · rw [if_neg hn]
    have HF := fun W => Lib.hid (forms_not n hn W)
    generalize encOut (fmt n) cls a = s
    have hT116 : SxAgg Tryd.prog 116 12 := sxAgg_of (by kernel_rfl) (by kernel_rfl)
    refine calls_of_wp Tryd.func29 rfl ?_
    refine sx_frame (a' := ⟨((.int .i64 n) :: (.agg #[.int .i64 cls, .bool a.g, .slice a.p a.xs.length a.c, .int .i64 a.e]) :: us 145 []).toArray, []⟩) (by kernel_rfl) ?_
    refine ye ?_
    refine yw 0 rfl 3 #[.int .i64 cls, .bool a.g, .slice a.p a.xs.length a.c, .int .i64 a.e] 56 (fun V1 hbV1 hzV1 b3 => ?_)
    refine yzt 2 ?_
    refine ye ?_
    refine yc 1 rfl 13 ((HF V1).out) (fun Gx hGx => ?_)
    rintro eV2 V2 ⟨rfl, hbV2⟩
    have hzV2 := hbV2.size
    refine ⟨_, rfl, hGx _ _ ?_⟩
    clear hGx Gx
    refine yw 3 rfl 6 #[.int .i64 0, .int .i64 0, .int .i64 0, .int .i64 0, .int .i64 0, .int .i64 0, .int .i64 0, .bool false, .bool false, .bool false, .bool false, .nilFunc] 116 (fun V3 hbV3 hzV3 b6 => ?_)
    have boV4 := b6
    refine ysw 0 rfl b6 hT116 #[.int .i64 0, .int .i64 0, .int .i64 0, .int .i64 0, .int .i64 0, .int .i64 0, .int .i64 0, .bool false, .bool false, .bool false, .bool false, .nilFunc] ?_
    clear b6
    intro V4 hOV4 b6
    have hzV4 := hOV4.size
    refine yzt 1 ?_
    refine wp_seq ?_
    refine yq ?_
    refine yT ?_
    refine yq ?_
    refine wp_ret ?_
    repeat (first | with_reducible refine sx_thenret ?_ | with_reducible refine sx_blockret ?_)
    refine yret (.tuple #[Go.Value.string (ByteArray.mk #[]), .int .i64 6]) (res2 Tryd.results29 rvt rvt) ?_
    exact givesS_err (r := 6) rfl (by decide) rfl ((bthru (bthru hbV1 hbV2) hbV3).trans (hOV4.below (by omega)))

def a5 : Din := ⟨false, none, 0, [], 0⟩
theorem beg_num : numOfS (fmt 1) (strOf [64, 64, 0, 0]) = 1077936128 := by
  unfold numOfS
  rw [bytesOf_strOf (by decide)]
  decide +kernel
theorem beg_err : errPat 1 (strOf [64, 64, 0, 0]) = 0 := errPat_zero.2 ⟨by decide, by rw [strOf_size]; rfl⟩
theorem beg_dec : decP 1 (strOf [64, 64, 0, 0]) = ⟨2, false, 3, 0⟩ := by
  unfold decP
  rw [if_pos beg_err, beg_num]
  have hd : (fmt 1).decN 1077936128 = ⟨2, 12582912, -22⟩ := by kernel_rfl
  have hg : (fmt 1).neg 1077936128 = false := by decide +kernel
  unfold Fm.valN Fm.vl
  rw [hd, hg]
  have ht : tz 12582912 = 22 := tz_mul 3 22 rfl
  have hw : wid (fmt 1).g = 1 := by decide
  unfold Dc.c
  simp [ht, hw]
theorem beg_enc : errEncN 6 5 a5 = 0 ∧ encOut (fmt 6) 5 a5 = strOf [0, 128, 0, 0] := by
  refine ⟨by decide +kernel, ?_⟩
  show strOf ((fmt 6).strP ((fmt 6).encP 5 a5.g (numD (fmt 6) a5))) = _
  have h1 : (fmt 6).encP 5 a5.g (numD (fmt 6) a5) = ⟨true, 0, 0⟩ := rfl
  have h2 : (fmt 6).strP ⟨true, 0, 0⟩ = [0, 128, 0, 0] := by decide +kernel
  rw [h1, h2]

set_option maxRecDepth 100000 in
theorem codecBegun_any (w : World) (hT : TabW w) : Calls Tryd.prog 27 #[] w fun en w' => en = .returned (.bool true) ∧ Below w.heap.size w w' := by
  have HD := fun W h => Lib.hid (Decode_any 1 (strOf [64, 64, 0, 0]) W h)
  rw [beg_dec, beg_err] at HD
  have HE : ∀ W, TabW W → Hid (Calls Tryd.prog 29 #[.int .i64 6, .agg #[.int .i64 5, .bool false, .slice none 0 0, .int .i64 0]] W fun en w' => en = .returned (.tuple #[.string (strOf [0, 128, 0, 0]), .int .i64 0]) ∧ Below W.heap.size W w') := by
    intro W h
    have := Encode_any 6 5 a5 W ⟨Rd.nil _ _ _, by simp [a5], by simp [a5], by simp [a5]⟩ h
    rw [beg_enc.1, beg_enc.2] at this
    unfold GivesS at this
    rw [if_pos rfl] at this
    exact Lib.hid this
  have e3 : dig B32 3 = [3] := dig_small B32_two (by omega) (by unfold B32; omega)
  have hT3 : SxOne Tryd.prog 3 := sxOne_of (by kernel_rfl) (by kernel_rfl)
  have hT23 : SxOne Tryd.prog 23 := sxOne_of (by kernel_rfl) (by kernel_rfl)
  have hT56 : SxAgg Tryd.prog 56 4 := sxAgg_of (by kernel_rfl) (by kernel_rfl)
  refine calls_of_wp Tryd.func27 rfl ?_
  refine sx_frame (a' := ⟨(us 44 []).toArray, []⟩) (by kernel_rfl) ?_
  refine yq ?_
  refine ye ?_
  refine ywv 0 rfl 6 (.slice (some ⟨w.heap.size, 0, none⟩) 4 4) #[.int .u8 64, .int .u8 64, .int .u8 0, .int .u8 0] 5 (fun V1 hbV1 hzV1 b6 => ?_)
  refine yv 0 rfl 7 (.string (strOf [64, 64, 0, 0])) ?_ (exec_str (p := some ⟨w.heap.size, 0, none⟩) (n := 4) (c := 4) (xs := [64, 64, 0, 0]) uBytes uByte uStr (rd_lit4 b6) rfl (by kernel_rfl))
  replace hT := (hT.past hbV1)
  refine yc 0 rfl 8 ((HD V1 hT).out) (fun Gx hGx => ?_)
  rintro eV2 V2 ⟨p8, c8, rfl, o8, hbV2⟩
  have hzV2 := hbV2.size
  refine ⟨_, rfl, hGx _ _ ?_⟩
  clear hGx Gx
  refine yw 3 rfl 1 #[.int .i64 0, .bool false, .slice none 0 0, .int .i64 0] 56 (fun V3 hbV3 hzV3 b1 => ?_)
  have boV4 := b1
  refine ysw 0 rfl b1 hT56 #[.int .i64 2, .bool false, .slice p8 (dig B32 3).length c8, .int .i64 0] ?_
  clear b1
  intro V4 hOV4 b1
  have hzV4 := hOV4.size
  refine yzt 1 ?_
  refine ye ?_
  replace hT := (hT.past ((bthru hbV2 hbV3).trans (hOV4.below (by omega))))
  refine yc 1 rfl 13 ((HE V4 hT).out) (fun Gx hGx => ?_)
  rintro eV5 V5 ⟨rfl, hbV5⟩
  have hzV5 := hbV5.size
  refine ⟨_, rfl, hGx _ _ ?_⟩
  clear hGx Gx
  refine yzt 5 ?_
  refine ye ?_
  replace b1 := (b1.past hbV5)
  refine yl 4 rfl 20 b1 hT3 0 ?_
  refine yl 4 rfl 25 b1 hT23 2 ?_
  refine ywv 0 rfl 26 (.slice (some ⟨V5.heap.size, 0, none⟩) 1 1) #[.int .u32 3] 91 (fun V6 hbV6 hzV6 b26 => ?_)
  replace o8 := (o8.past (bthru (bthru (hbV3.trans (hOV4.below (by omega))) hbV5) hbV6))
  refine yc 0 rfl 27 (refSameNat_any p8 (some ⟨V5.heap.size, 0, none⟩) _ c8 1 1 (dig B32 3) [3] V6 o8.rd (rd_lit1 b26) rfl rfl e3 (by rw [e3]; decide)) (fun Gx hGx => ?_)
  rintro eV7 V7 ⟨rfl, hbV7⟩
  have hzV7 := hbV7.size
  refine ⟨_, rfl, hGx _ _ ?_⟩
  clear hGx Gx
  replace b1 := (b1.past (bthru hbV6 hbV7))
  refine yl 3 rfl 31 b1 hT3 3 ?_
  refine ywv 8 rfl 40 (.slice (some ⟨V7.heap.size, 0, none⟩) 4 4) #[.int .u8 0, .int .u8 128, .int .u8 0, .int .u8 0] 5 (fun V8 hbV8 hzV8 b40 => ?_)
  refine yv 0 rfl 41 (.string (strOf [0, 128, 0, 0])) ?_ (exec_str (p := some ⟨V7.heap.size, 0, none⟩) (n := 4) (c := 4) (xs := [0, 128, 0, 0]) uBytes uByte uStr (rd_lit4 b40) rfl (by kernel_rfl))
  refine yv 0 rfl 42 (.bool true) ?_ (exec_seq (s := strOf [0, 128, 0, 0]) (by kernel_rfl) (by kernel_rfl))
  refine yzt 2 ?_
  refine wp_ret ?_
  repeat (first | with_reducible refine sx_thenret ?_ | with_reducible refine sx_blockret ?_)
  refine yret (.bool true) (res1 Tryd.results27 rvt) ?_
  exact ⟨rfl, (bthru (bthru (bthru (bthru ((bthru (bthru hbV1 hbV2) hbV3).trans (hOV4.below (by omega))) hbV5) hbV6) hbV7) hbV8)⟩

end Go.Proofs.YtcipdimogodndaaDoor

namespace Go.Proofs.YtcipdimogodndaaDoor
open Go.RowKit Go.Slip

structure DecF (f : Fm) (s : ByteArray) : Prop where
  same : f.toV (f.refN (numOfS f s)) = f.valN (numOfS f s)
  len : (dig B16 (f.refN (numOfS f s)).x.m).length ≤ 1000
  lo : -80000 ≤ (f.refN (numOfS f s)).x.e
  hi : (f.refN (numOfS f s)).x.e ≤ 80000
  vlen : (dig B32 (f.valN (numOfS f s)).d).length ≤ 1000
theorem decF_aux (f : Fm) (g : Bool) (D : Dc) (k2 : D.m < 2 ^ (f.F + 1)) (k3 : -16445 ≤ D.p ∧ D.p ≤ 16323) (z2 : f.F ≤ 64) :
    f.toV (f.vr g D) = f.vl g D ∧ (dig B16 (f.vr g D).x.m).length ≤ 1000 ∧ -80000 ≤ (f.vr g D).x.e ∧ (f.vr g D).x.e ≤ 80000 ∧ (dig B32 (f.vl g D).d).length ≤ 1000 := by
  refine ⟨toV_same f g D (by omega) (by omega), ?_, ?_, ?_, ?_⟩
  · unfold Fm.vr
    simp only
    split
    · exact Nat.le_trans (bare_len B16_two _) (Nat.le_trans (dig16_le_pow k2 (k := 5) (by omega)) (by omega))
    · simp [dig_zero]
  · unfold Fm.vr
    simp only
    split
    · have := bare_e (⟨g, D.m, wid f.g * D.p⟩ : Dv) (n := 3) (dig_le_pow k2 (by omega)) (lo := -80000) (hi := 70000) (by have := mul_bd (wd := wid f.g) (k := D.p) (B := 16445) (wid_pos f.g).2 (by omega); simp only; omega) (by have := mul_bd (wd := wid f.g) (k := D.p) (B := 16445) (wid_pos f.g).2 (by omega); simp only; omega) (by omega) (by omega)
      exact this.1
    · simp
  · unfold Fm.vr
    simp only
    split
    · have := bare_e (⟨g, D.m, wid f.g * D.p⟩ : Dv) (n := 3) (dig_le_pow k2 (by omega)) (lo := -80000) (hi := 70000) (by have := mul_bd (wd := wid f.g) (k := D.p) (B := 16445) (wid_pos f.g).2 (by omega); simp only; omega) (by have := mul_bd (wd := wid f.g) (k := D.p) (B := 16445) (wid_pos f.g).2 (by omega); simp only; omega) (by omega) (by omega)
      omega
    · simp
  · unfold Fm.vl
    simp only
    split
    · exact Nat.le_trans (dig_len_mono B32_two (Nat.div_le_self _ _)) (Nat.le_trans (dig_le_pow k2 (k := 3) (by omega)) (by omega))
    · simp [dig_zero]

theorem decF_of {f : Fm} (G : GoodF f) (s : ByteArray) : DecF f s := by
  have he : f.exp (numOfS f s) < 2 ^ f.E := Nat.mod_lt _ (Nat.pow_pos (by omega))
  have hx : f.frac (numOfS f s) < 2 ^ f.F := Nat.mod_lt _ (Nat.pow_pos (by omega))
  obtain ⟨h1, h2, h3, h4, h5⟩ := decF_aux f (f.neg (numOfS f s)) (f.decN (numOfS f s)) (dec_m (f := f) (f.neg (numOfS f s)) (e := f.exp (numOfS f s)) hx) (dec_p G (f.neg (numOfS f s)) (frac := f.frac (numOfS f s)) he) G.f2
  exact ⟨h1, h2, h3, h4, h5⟩

end Go.Proofs.YtcipdimogodndaaDoor

namespace Go.Slip
open Go.RowKit

theorem RdV.grown {w w' : World} {p : Option Addr} {vs : List Value} {row : Option Nat} (h : RdV w p vs) (hg : w.grownBy w' row) (hne : 0 < vs.length → some (blk p) ≠ row) : RdV w' p vs :=
  h.same fun h0 => hg.block _ (h.lt h0) (hne h0)
theorem Rf.grown {w w' : World} {base : Nat} {p : Option Addr} {c : Nat} {xs : List Nat} {row : Option Nat} (h : Rf w base p c xs) (hg : w.grownBy w' row) (hne : 0 < xs.length → some (blk p) ≠ row) : Rf w' base p c xs :=
  ⟨h.rd.same fun h0 => hg.block _ (h.rd.lt h0) (hne h0), h.cap, h.at_⟩

section
variable {P : Program} {ops : Array Oper} {Q : Exit → Act → World → Prop} {a : Act} {w : World} {rest : List Oper} {o : Oper} {K : Act → World → Prop}
end
end Go.Slip

namespace Go.Proofs.YtcipdimogodndaaDoor
open Go.RowKit Go.Slip

def encV (f : Fm) (cls : Int) (a : Din) : Vr := if cls = 2 then ⟨2, a.g, numD f a⟩ else ⟨cls.toNat, a.g, ⟨false, 0, 0⟩⟩
end Go.Proofs.YtcipdimogodndaaDoor

namespace Go.Proofs.YtcipdimogodndaaDoor
open Go.RowKit Go.Slip

theorem encP_other (f : Fm) {k : Nat} (h : k ≠ 2) (g : Bool) (d d' : Dv) : f.encP k g d = f.encP k g d' := by
  unfold Fm.encP
  rw [if_neg h, if_neg h]
structure EncV (f : Fm) (cls : Int) (a : Din) : Prop where
  len : (dig B16 (encV f cls a).x.m).length ≤ 2400
  num : (encV f cls a).cls = 2 → inGridD (encV f cls a).x f.g = true ∧ (encV f cls a).x.m ≠ 0 ∧ Bare (encV f cls a).x ∧ (encV f cls a).x.neg = (encV f cls a).neg ∧ (dig B32 (encV f cls a).x.m).length ≤ 1200
  same : f.encP (encV f cls a).cls (encV f cls a).neg (encV f cls a).x = f.encP cls.toNat a.g (numD f a)
theorem encV_ok {f : Fm} {cls : Int} {a : Din} {w : World} (ha : InD w a) (h : errEnc f cls a = 0) : EncV f cls a := by
  unfold errEnc at h
  split at h
  · omega
  · rename_i c1
    split at h
    · contradiction
    · rename_i c2
      have c2 : errNat a.xs = 0 := by omega
      split at h
      · omega
      · split at h
        · rename_i c4
          split at h
          · omega
          · rename_i c5
            split at h
            · omega
            · rename_i c6
              obtain ⟨b1, b2, b3⟩ := numD_bd (f := f) ha c2 (by omega)
              have b4 := B16_len32 (numD f a).m
              have hv : encV f cls a = ⟨2, a.g, numD f a⟩ := by unfold encV; rw [if_pos c4]
              obtain ⟨k1, _⟩ := errNat_ok ha.lt c2
              have hne : val B32 a.xs ≠ 0 := fun h => c6 (.inl (by rw [k1]; exact (dig_len_zero B32_two _).2 h))
              have hm : (numD f a).m ≠ 0 := fun h3 => by
                unfold numD bare at h3
                rw [if_neg hne] at h3
                simp only at h3
                have := (tz_spec (val B32 a.xs) (by omega)).2
                rw [h3] at this
                simp at this
              have hg : (numD f a).neg = a.g := by unfold numD bare; rw [if_neg hne]
              refine ⟨by rw [hv]; show (dig B16 (numD f a).m).length ≤ 2400; omega, fun _ => ?_, ?_⟩
              · rw [hv]
                refine ⟨?_, hm, bare_bare _, hg, b1⟩
                show inGridD (numD f a) f.g = true
                cases hi : inGridD (numD f a) f.g with
                | true => rfl
                | false => exact absurd (.inr hi) c6
              · rw [hv, c4]; rfl
        · rename_i c4
          have hv : encV f cls a = ⟨cls.toNat, a.g, ⟨false, 0, 0⟩⟩ := by unfold encV; rw [if_neg c4]
          refine ⟨by rw [hv]; show (dig B16 0).length ≤ 2400; rw [dig_zero]; decide, fun h2 => ?_, ?_⟩
          · rw [hv] at h2; simp only at h2; omega
          · rw [hv]; exact encP_other f (k := cls.toNat) (by omega) _ _ _

end Go.Proofs.YtcipdimogodndaaDoor

namespace Go.Slip

theorem dig32_len_pow {x k n : Nat} (h : x < 2 ^ k) (hk : k ≤ 32 * n) : (dig B32 x).length ≤ n := by
  rw [dig_len_le B32_two]
  unfold B32
  rw [show (4294967296 : Nat) = 2 ^ 32 from rfl, ← Nat.pow_mul]
  exact Nat.lt_of_lt_of_le h (Nat.pow_le_pow_right (by omega) hk)
theorem num_same (f : Fm) (g : Bool) (d : Dc) : bare ⟨(f.vl g d).neg, (f.vl g d).d, wid f.g * (f.vl g d).pow⟩ = (f.vr g d).x := by
  by_cases h : d.c = 2
  · unfold Fm.vl Fm.vr
    simp only [h, if_true]
    have hw := wid_pos f.g
    rw [if_pos (by omega)]
    have e : (wid f.g : Int) * (d.p + (tz d.m / wid f.g : Nat)) = wid f.g * d.p + ((tz d.m / wid f.g * wid f.g : Nat) : Int) := by
      rw [Int.mul_add, Int.natCast_mul, Int.mul_comm (wid f.g : Int) ((tz d.m / wid f.g : Nat) : Int)]
    rw [e, ← bare_shift]
    have hm : d.m ≠ 0 := by
      intro h0
      unfold Dc.c at h
      split at h
      · omega
      · rename_i k
        exact k ⟨h, h0⟩
    have hdv : 2 ^ (tz d.m / wid f.g * wid f.g) ∣ d.m := Nat.dvd_trans (Nat.pow_dvd_pow 2 (Nat.div_mul_le_self _ _)) ⟨d.m / 2 ^ tz d.m, ((tz_spec d.m (by omega)).1).symm⟩
    rw [Nat.div_mul_cancel hdv]
  · unfold Fm.vl Fm.vr
    simp only [if_neg h]
    exact bare_zero _ _

end Go.Slip

namespace Go.Slip

structure CanF (f : Fm) (cls : Nat) (g : Bool) (d : Dv) : Prop where
  c : 1 ≤ cls ∧ cls ≤ 5
  c1 : cls = 1 → g = true → f.fam ≠ 3
  c2 : cls = 2 → NumF f d ∧ Bare d ∧ d.m ≠ 0 ∧ d.neg = g
  c3 : cls = 3 → f.fam = 1
  c4 : cls = 4 → f.fam = 1 ∧ g = false
  c5 : cls = 5 → f.fam = 3 ∧ g = false

theorem fr_bare {f : Fm} {d : Dv} (N : NumF f d) (hB : Bare d) : bare ⟨d.neg, f.fr d, wid f.g * stepK d f.g⟩ = d := by
  have h0 := N.e0
  unfold Fm.fr
  rw [bare_shift, show wid f.g * stepK d f.g + (((d.e - wid f.g * stepK d f.g).toNat : Nat) : Int) = d.e by omega]
  exact bare_of hB

theorem dec_numP {f : Fm} (G : GoodF f) {d : Dv} (N : NumF f d) : (f.numP d).neg = d.neg ∧ f.dec (f.numP d).neg (f.numP d).e (f.numP d).x = ⟨2, f.fr d, stepK d f.g⟩ := by
  have hE1 : (2 : Nat) ^ 7 ≤ 2 ^ f.E := Nat.pow_le_pow_right (by omega) G.e1
  have h1 := N.k1
  have h2 := N.k2
  have hw := G.w
  by_cases hf : f.fam = 2
  · have e : f.numP d = ⟨d.neg, (stepK d f.g - f.g.lo).toNat, f.fr d⟩ := by unfold Fm.numP; rw [if_pos hf]
    rw [e]
    refine ⟨rfl, ?_⟩
    unfold Fm.dec
    rw [if_pos hf]
    simp only [Dc.mk.injEq, true_and]
    omega
  · have hhi : f.g.hi + 2 ≤ f.g.lo + (2 ^ f.E : Nat) := by
      have h3 := G.hi1
      have h4 := G.hi3
      have h5 := G.fam
      omega
    have hhi1 : f.fam = 1 → f.g.hi + 3 = f.g.lo + (2 ^ f.E : Nat) := fun h => by have := G.hi1 h; omega
    by_cases hb : (blen (f.fr d) : Int) = f.g.digs
    · have hp := blen_pow (f.fr d) (by have := N.ne; omega)
      obtain ⟨X, hX, hk1, hk2⟩ : ∃ X, f.numP d = ⟨d.neg, (stepK d f.g - f.g.lo).toNat + 1, X⟩ ∧ (f.ext = false → X + 2 ^ f.F = f.fr d) ∧ (f.ext = true → X = f.fr d ∧ 2 ^ 63 ≤ X) := by
        refine ⟨_, by unfold Fm.numP; rw [if_neg hf, if_pos hb], fun he => ?_, fun he => ?_⟩
        · rw [he]
          simp only [Bool.false_eq_true, if_false]
          rcases digs_hid G hf with ⟨_, hd⟩ | ⟨h, _⟩
          · rw [show blen (f.fr d) - 1 = f.F by omega] at hp
            omega
          · rw [he] at h; cases h
        · rw [if_pos he]
          refine ⟨rfl, ?_⟩
          rcases digs_hid G hf with ⟨h, _⟩ | ⟨_, hd, h64⟩
          · rw [he] at h; cases h
          · rw [show blen (f.fr d) - 1 = 63 by omega] at hp
            exact hp
      rw [hX]
      refine ⟨rfl, ?_⟩
      unfold Fm.dec
      simp only
      rw [if_neg hf, if_neg (by rintro ⟨h, k⟩; have := hhi1 h; omega), if_neg (by omega), if_neg (by omega)]
      cases he : f.ext with
      | false =>
        rw [if_pos rfl, hk1 he]
        simp only [Dc.mk.injEq, true_and]
        omega
      | true =>
        rw [if_neg (by simp), if_neg (by have := (hk2 he).2; omega), (hk2 he).1]
        simp only [Dc.mk.injEq, true_and]
        omega
    · obtain ⟨l1, l2⟩ := N.low hf hb
      have e : f.numP d = ⟨d.neg, (stepK d f.g - f.g.lo).toNat, f.fr d⟩ := by unfold Fm.numP; rw [if_neg hf, if_neg hb]
      rw [e]
      refine ⟨rfl, ?_⟩
      unfold Fm.dec
      simp only
      rw [if_neg hf, if_neg (by rintro ⟨h, k⟩; omega), if_neg (by omega), if_pos (by omega), l1]

theorem vr_encP {f : Fm} (G : GoodF f) {cls : Nat} {g : Bool} {d : Dv} (C : CanF f cls g d) :
    f.vr (f.encP cls g d).neg (f.dec (f.encP cls g d).neg (f.encP cls g d).e (f.encP cls g d).x) = ⟨cls, g, if cls = 2 then d else ⟨false, 0, 0⟩⟩ := by
  have hE1 : (2 : Nat) ^ 7 ≤ 2 ^ f.E := Nat.pow_le_pow_right (by omega) G.e1
  have hfam := G.fam
  obtain ⟨c1, c2⟩ := C.c
  have hx := G.ext
  rcases (show cls = 1 ∨ cls = 2 ∨ cls = 3 ∨ cls = 4 ∨ cls = 5 by omega) with rfl | rfl | rfl | rfl | rfl
  · have h := C.c1 rfl
    have hd : (f.dec g 0 0).c = 1 := by
      unfold Fm.dec
      by_cases h2 : f.fam = 2
      · rw [if_pos h2]; rfl
      · rw [if_neg h2, if_neg (by rintro ⟨_, k⟩; omega)]
        by_cases h3 : f.fam = 3
        · rw [if_pos ⟨h3, rfl⟩, if_neg (fun k => h k h3)]; rfl
        · rw [if_neg (fun k => h3 k.1), if_pos rfl]; rfl
    show f.vr g (f.dec g 0 0) = _
    unfold Fm.vr
    rw [hd]
    rfl
  · obtain ⟨N, hB, h0, hg⟩ := C.c2 rfl
    obtain ⟨k1, k2⟩ := dec_numP G N
    show f.vr (f.numP d).neg (f.dec (f.numP d).neg (f.numP d).e (f.numP d).x) = _
    rw [k2, k1]
    have hc : (⟨2, f.fr d, stepK d f.g⟩ : Dc).c = 2 := by unfold Dc.c; rw [if_neg (fun h => N.ne h.2)]
    unfold Fm.vr
    rw [hc]
    simp only [if_true]
    rw [if_pos (by omega), fr_bare N hB, hg]
  · have h := C.c3 rfl
    have hd : f.dec g (2 ^ f.E - 1) (if f.ext then 2 ^ 63 else 0) = ⟨3, 0, 0⟩ := by
      unfold Fm.dec
      rw [if_neg (by omega), if_pos ⟨h, rfl⟩, if_pos (by cases f.ext <;> simp)]
    show f.vr g (f.dec g (2 ^ f.E - 1) (if f.ext then 2 ^ 63 else 0)) = _
    rw [hd]
    rfl
  · obtain ⟨h, rfl⟩ := C.c4 rfl
    have hp : 0 < 2 ^ (f.F - 1) := Nat.pow_pos (by omega)
    have hd : f.dec false (2 ^ f.E - 1) (if f.ext then 2 ^ 63 + 2 ^ 62 else 2 ^ (f.F - 1)) = ⟨4, 0, 0⟩ := by
      unfold Fm.dec
      rw [if_neg (by omega), if_pos ⟨h, rfl⟩, if_neg (by cases f.ext <;> simp <;> omega)]
    show f.vr false (f.dec false (2 ^ f.E - 1) (if f.ext then 2 ^ 63 + 2 ^ 62 else 2 ^ (f.F - 1))) = _
    rw [hd]
    rfl
  · obtain ⟨h, rfl⟩ := C.c5 rfl
    have hd : f.dec true 0 0 = ⟨5, 0, 0⟩ := by
      unfold Fm.dec
      rw [if_neg (by omega), if_neg (by omega), if_pos ⟨h, rfl⟩, if_pos rfl]
    show f.vr true (f.dec true 0 0) = _
    rw [hd]
    rfl

theorem dc_two {D : Dc} (h : D.c = 2) : D.m ≠ 0 := by
  intro h0
  unfold Dc.c at h
  split at h
  · omega
  · rename_i k
    exact k ⟨h, h0⟩
theorem vl_bd {f : Fm} (G : GoodF f) (g : Bool) {e x : Nat} (he : e < 2 ^ f.E) (hx : x < 2 ^ f.F) (neg : Bool) :
    (dig B32 (f.vl g (f.dec neg e x)).d).length ≤ 1000 ∧ -20000 ≤ (f.vl g (f.dec neg e x)).pow ∧ (f.vl g (f.dec neg e x)).pow ≤ 20000 := by
  have k2 := dec_m (f := f) neg (e := e) hx
  have k3 := dec_p G neg (frac := x) he
  have z2 := G.f2
  generalize f.dec neg e x = D at *
  have hml : (dig B32 D.m).length ≤ 3 := dig32_len_pow k2 (by omega)
  unfold Fm.vl
  simp only
  refine ⟨?_, ?_⟩
  · split
    · exact Nat.le_trans (dig_len_mono B32_two (Nat.div_le_self _ _)) (by omega)
    · simp [dig_zero]
  · split
    · rename_i hc
      have h1 := tz_lt_blen (m := D.m) (by have := dc_two hc; omega)
      have h3 := (blen_le _ _).2 k2
      have h2 := Nat.div_le_self (tz D.m) (wid f.g)
      obtain ⟨q, hq⟩ : ∃ q : Nat, tz D.m / wid f.g = q := ⟨_, rfl⟩
      rw [hq] at h2 ⊢
      omega
    · omega
theorem vl_num (f : Fm) (g : Bool) (D : Dc) (h : (f.vl g D).cls = 2) : (f.vl g D).d ≠ 0 := by
  have hc : D.c = 2 := h
  unfold Fm.vl
  simp only [hc, if_true]
  have hm := dc_two hc
  have hdv : 2 ^ (tz D.m / wid f.g * wid f.g) ∣ D.m := Nat.dvd_trans (Nat.pow_dvd_pow 2 (Nat.div_mul_le_self _ _)) ⟨D.m / 2 ^ tz D.m, ((tz_spec D.m (by omega)).1).symm⟩
  intro h2
  have := Nat.div_mul_cancel hdv
  rw [h2] at this
  omega
theorem vl_other (f : Fm) (g : Bool) (D : Dc) (h : (f.vl g D).cls ≠ 2) : (f.vl g D).d = 0 ∧ (f.vl g D).pow = 0 := by
  have hc : D.c ≠ 2 := h
  unfold Fm.vl
  simp only [if_neg hc, and_self]
end Go.Slip

namespace Go.Proofs.YtcipdimogodndaaDoor
open Go.RowKit Go.Slip

theorem can_of {f : Fm} (G : GoodF f) {cls : Int} {a : Din} {w : World} (ha : InD w a) (h : errEnc f cls a = 0) : CanF f cls.toNat a.g (numD f a) := by
  have V := (encV_ok ha h).num
  have hinf : f.inf = false ↔ f.fam ≠ 1 := by unfold Fm.inf; simp
  have hres : f.res = false ↔ f.fam ≠ 3 := by unfold Fm.res; simp
  have hres1 : f.res = true ↔ f.fam = 3 := by unfold Fm.res; simp
  unfold errEnc at h
  split at h
  · omega
  · rename_i c1
    split at h
    · contradiction
    · split at h
      · omega
      · rename_i c3
        rw [hinf, hres] at c3
        split at h
        · rename_i c4
          have hv : encV f cls a = ⟨2, a.g, numD f a⟩ := by unfold encV; rw [if_pos c4]
          rw [hv] at V
          obtain ⟨v1, v2, v3, v4, _⟩ := V rfl
          exact ⟨by omega, fun h => by omega, fun _ => ⟨numF_of G v1 v2, v3, v2, v4⟩, fun h => by omega, fun h => by omega, fun h => by omega⟩
        · split at h
          · omega
          · rename_i c5
            rw [hres1] at c5
            refine ⟨by omega, fun h hg => ?_, fun h => by omega, fun h => by omega, fun h => ⟨by omega, ?_⟩, fun h => ⟨by omega, ?_⟩⟩
            · exact fun h3 => c5 (.inr (.inr ⟨hg, .inr h3⟩))
            · cases hg : a.g with
              | false => rfl
              | true => exact absurd (.inr (.inr ⟨hg, .inl (by omega)⟩)) c5
            · cases hg : a.g with
              | false => rfl
              | true => exact absurd (.inr (.inr ⟨hg, .inl (by omega)⟩)) c5
theorem errEnc_cls {f : Fm} {cls : Int} {a : Din} (h : errEnc f cls a = 0) : 1 ≤ cls ∧ cls ≤ 5 := by
  unfold errEnc at h
  split at h <;> omega
theorem encV_is {f : Fm} {cls : Int} {a : Din} (h : 1 ≤ cls) : encV f cls a = ⟨cls.toNat, a.g, if cls.toNat = 2 then numD f a else ⟨false, 0, 0⟩⟩ := by
  unfold encV
  by_cases hc : cls = 2
  · subst hc; rfl
  · rw [if_neg hc, if_neg (by omega)]
theorem numOfS_strP {f : Fm} (G : GoodF f) {neg : Bool} {e x : Nat} (he : e < 2 ^ f.E) (hx : x < 2 ^ f.F) : numOfS f (strOf (f.str neg e x)) = f.pat neg e x := by
  have ho : f.ord = 1 → f.size % 2 = 0 := fun _ => by have := G.sz; omega
  unfold numOfS
  rw [bytesOf_strOf (by unfold Fm.str; exact ordL_bytes (by rw [bytesN_len]; exact ho) (bytesN_lt _ _)), be_str G he hx]

theorem errNat_dig_ok {r : Nat} (h : (dig B32 r).length ≤ 1200) : errNat (dig B32 r) = 0 := by rw [Go.Slip.errNat_dig, if_neg (by omega)]
structure EncD (n cls : Int) (a : Din) : Prop where
  pat : errPat n (encOut (fmt n) cls a) = 0
  dec : decP n (encOut (fmt n) cls a) = (fmt n).toV (encV (fmt n) cls a)
  len : (dig B32 ((fmt n).toV (encV (fmt n) cls a)).d).length ≤ 1000
  lo : -20000 ≤ ((fmt n).toV (encV (fmt n) cls a)).pow
  hi : ((fmt n).toV (encV (fmt n) cls a)).pow ≤ 20000
  num : cls = 2 → ((fmt n).toV (encV (fmt n) cls a)).d ≠ 0 ∧ bare ⟨a.g, ((fmt n).toV (encV (fmt n) cls a)).d, wid (fmt n).g * ((fmt n).toV (encV (fmt n) cls a)).pow⟩ = numD (fmt n) a
  oth : cls ≠ 2 → ((fmt n).toV (encV (fmt n) cls a)).d = 0 ∧ ((fmt n).toV (encV (fmt n) cls a)).pow = 0
theorem encD_of {n cls : Int} {a : Din} {w : World} (hn : IsFm n) (ha : InD w a) (h : errEnc (fmt n) cls a = 0) : EncD n cls a := by
  have G := good_fm hn
  have C := can_of G ha h
  have hc := errEnc_cls h
  have hlt := encP_lt G (cls := cls.toNat) (g := a.g) (d := numD (fmt n) a) (fun h => (C.c2 h).1)
  have hs : (encOut (fmt n) cls a).size = (fmt n).size := by unfold encOut; rw [strOf_size]; exact str_len _ _ _ _
  have hp : errPat n (encOut (fmt n) cls a) = 0 := errPat_zero.2 ⟨hn, hs⟩
  have hd : decP n (encOut (fmt n) cls a) = (fmt n).vl ((fmt n).encP cls.toNat a.g (numD (fmt n) a)).neg ((fmt n).dec ((fmt n).encP cls.toNat a.g (numD (fmt n) a)).neg ((fmt n).encP cls.toNat a.g (numD (fmt n) a)).e ((fmt n).encP cls.toNat a.g (numD (fmt n) a)).x) := by
    unfold decP
    rw [if_pos hp]
    obtain ⟨q1, q2, q3⟩ := pat_parts (f := fmt n) (neg := ((fmt n).encP cls.toNat a.g (numD (fmt n) a)).neg) hlt.1 hlt.2
    unfold Fm.valN Fm.decN encOut Fm.strP
    rw [numOfS_strP G hlt.1 hlt.2, q1, q2, q3]
  have hv := vr_encP G C
  rw [← encV_is hc.1] at hv
  have hb := dec_p G ((fmt n).encP cls.toNat a.g (numD (fmt n) a)).neg (frac := ((fmt n).encP cls.toNat a.g (numD (fmt n) a)).x) hlt.1
  have hw := vl_bd G ((fmt n).encP cls.toNat a.g (numD (fmt n) a)).neg hlt.1 hlt.2 ((fmt n).encP cls.toNat a.g (numD (fmt n) a)).neg
  generalize (fmt n).dec ((fmt n).encP cls.toNat a.g (numD (fmt n) a)).neg ((fmt n).encP cls.toNat a.g (numD (fmt n) a)).e ((fmt n).encP cls.toNat a.g (numD (fmt n) a)).x = D at *
  generalize ((fmt n).encP cls.toNat a.g (numD (fmt n) a)).neg = g at *
  have ht := toV_same (fmt n) g D (by omega) (by omega)
  have hn2 := num_same (fmt n) g D
  rw [← ht] at hd hw hn2
  have e1 : ((fmt n).vl g D).cls = cls.toNat := by rw [← ht, hv, encV_is hc.1]; rfl
  have k1 := vl_num (fmt n) g D
  have k2 := vl_other (fmt n) g D
  rw [e1, ← ht] at k1 k2
  rw [hv] at hd hw hn2 k1 k2
  refine ⟨hp, hd, hw.1, hw.2.1, hw.2.2, fun h => ?_, fun h => k2 (by omega)⟩
  subst h
  refine ⟨k1 rfl, ?_⟩
  rw [encV_is (by omega)] at hn2 ⊢
  exact hn2

structure Is (a : Din) (v : Vl) : Prop where
  g : a.g = v.neg
  xs : a.xs = dig B32 v.d
  e : a.e = v.pow
theorem Is.num {a : Din} {v : Vl} (h : Is a v) (f : Fm) : numD f a = bare ⟨v.neg, v.d, wid f.g * v.pow⟩ := by
  unfold numD
  rw [h.g, h.xs, h.e, val_dig B32_two]

theorem enc_again {n cls : Int} {a b : Din} {w : World} (hn : IsFm n) (ha : InD w a) (h : errEnc (fmt n) cls a = 0) (hb : Is b ((fmt n).toV (encV (fmt n) cls a))) :
    errEnc (fmt n) cls b = 0 ∧ encOut (fmt n) cls b = encOut (fmt n) cls a := by
  have D := encD_of hn ha h
  have hc := errEnc_cls h
  have hg : b.g = a.g := by rw [hb.g]; show (encV (fmt n) cls a).neg = _; rw [encV_is hc.1]
  have V := (encV_ok ha h).num
  have hN : cls = 2 → numD (fmt n) b = numD (fmt n) a := fun h2 => by
    rw [hb.num, ← hb.g, hg]
    exact (D.num h2).2
  have hE : errNat b.xs = 0 := by rw [hb.xs]; exact errNat_dig_ok (by have := D.len; omega)
  refine ⟨?_, ?_⟩
  · unfold errEnc at h ⊢
    split at h
    · omega
    · rename_i c1
      rw [if_neg c1, if_neg (by omega)]
      split at h
      · contradiction
      · split at h
        · omega
        · rename_i c3
          rw [if_neg c3]
          split at h
          · rename_i c4
            rw [if_pos c4, if_neg (by rw [hb.e]; have := D.lo; have := D.hi; omega), if_neg]
            have hv : encV (fmt n) cls a = ⟨2, a.g, numD (fmt n) a⟩ := by unfold encV; rw [if_pos c4]
            rw [hv] at V
            rw [hN c4, (V rfl).1, hb.xs]
            rintro (k | k)
            · exact (D.num c4).1 ((dig_len_zero B32_two _).1 k)
            · cases k
          · rename_i c4
            obtain ⟨o1, o2⟩ := D.oth c4
            rw [if_neg c4, if_neg]
            split at h
            · omega
            · rename_i c5
              rw [hb.xs, o1, dig_zero, hb.e, o2, hg]
              rintro (k | k | k)
              · simp at k
              · exact k rfl
              · exact c5 (.inr (.inr k))
  · unfold encOut
    rw [hg]
    by_cases c4 : cls = 2
    · rw [hN c4]
    · rw [encP_other (fmt n) (k := cls.toNat) (by omega) a.g (numD (fmt n) b) (numD (fmt n) a)]

theorem dec_again {n : Int} {s : ByteArray} {b : Din} {w : World} (h0 : errPat n s = 0) (ha : InD w b) (hb : Is b (decP n s)) (h : errEnc (fmt n) ((decP n s).cls : Nat) b = 0) :
    errPat n (encOut (fmt n) ((decP n s).cls : Nat) b) = 0 ∧ decP n (encOut (fmt n) ((decP n s).cls : Nat) b) = decP n s := by
  obtain ⟨hn, hs⟩ := errPat_zero.1 h0
  have D := encD_of hn ha h
  refine ⟨D.pat, D.dec.trans ?_⟩
  have hc := errEnc_cls h
  have e : decP n s = (fmt n).valN (numOfS (fmt n) s) := by unfold decP; rw [if_pos h0]
  rw [e] at hb hc ⊢
  rw [encV_is hc.1, hb.num]
  refine (congrArg (fmt n).toV ?_).trans (decF_of (good_fm hn) s).same
  have hk := num_same (fmt n) ((fmt n).neg (numOfS (fmt n) s)) ((fmt n).decN (numOfS (fmt n) s))
  have hg := hb.g
  unfold Fm.valN at hg ⊢
  rw [hk, hg]
  unfold Fm.refN
  by_cases h2 : ((fmt n).decN (numOfS (fmt n) s)).c = 2
  · rw [if_pos (by show (Int.ofNat ((fmt n).decN (numOfS (fmt n) s)).c).toNat = 2; rw [h2]; rfl)]
    rfl
  · rw [if_neg (by show ¬ (Int.ofNat ((fmt n).decN (numOfS (fmt n) s)).c).toNat = 2; simpa using h2)]
    unfold Fm.vr Fm.vl
    simp only [if_neg h2]
    rfl
end Go.Proofs.YtcipdimogodndaaDoor
