/- codec: value, bare: what parts are worth.
   codec: decode, open, Decode, Class, Size, Grid.
   codec: open, Decode, Class, Size, Grid.
   codec: Encode.
   Decimal digits, four by four, and what is stripped of them: plain arithmetic. No program is in sight here.
   A product and a sum in place; the number that decimal digits make: plain arithmetic. No program is in sight here.
   The references' division: of more than one digit.
   The references' SameNat, SameDyad, whatever the two are; ToDyad.
   The references on balls: OfBall, DSign, CheckBall, SameBall.
   What the references call, said of whole numbers over one power of 2.
   The reference's formats: FormatOf, OpenPattern, place. -/
import Derived.Deep.LoopGhost
import Derived.Deep.RegionHeld3
import Derived.Test.YtcipdimogodndaaDoorZp1
import Derived.Test.YtcipdimogodndaaDoorZp2
import Derived.Test.YtcipdimogodndaaDoorZp3
import Derived.Test.YtcipdimogodndaaDoorZp4
namespace Go.Proofs.YtcipdimogodndaaDoor
open Go.RowKit Go.Slip

theorem cmpN_zero {a b : Nat} (h : cmpN a b = 0) : a = b := by
  unfold cmpN at h
  split at h
  · omega
  · split at h <;> omega
theorem tz_bdn {n : Nat} (x : Nat) (hl : (dig B32 x).length ≤ n) : tz x ≤ 32 * n := by
  rcases Nat.eq_zero_or_pos x with h | h
  · rw [h, tz_zero]; omega
  · have h1 := (tz_spec x h).1
    have h2 := (dig_len_le B32_two x n).1 hl
    have h3 : 2 ^ tz x ≤ x := by
      have : 0 < x / 2 ^ tz x := by
        rcases Nat.eq_zero_or_pos (x / 2 ^ tz x) with h4 | h4
        · rw [h4, Nat.mul_zero] at h1; omega
        · exact h4
      have h5 := Nat.mul_le_mul_left (2 ^ tz x) this
      omega
    rw [show B32 = 2 ^ 32 from rfl, ← Nat.pow_mul] at h2
    have h6 := (Nat.pow_lt_pow_iff_right (a := 2) (by omega)).1 (Nat.lt_of_le_of_lt h3 h2)
    omega
theorem tz_bd (x : Nat) (hl : (dig B32 x).length ≤ 1000) : tz x ≤ 32000 := tz_bdn x hl

def GivesC (w : World) (base : Nat) (d : Dc) (en : Ending) (w' : World) : Prop :=
  ∃ p c, en = .returned (.tuple #[.int .i64 ((d.cls : Nat) : Int), .slice p (dig B32 d.m).length c, .int .i64 d.p]) ∧ Own w' base .u32 91 p c (dig B32 d.m) ∧ Below w.heap.size w w'

theorem givesC_none {w w' : World} {base : Nat} {k : Nat} {en : Ending} (h : en = .returned (.tuple #[.int .i64 ((k : Nat) : Int), .slice none 0 0, .int .i64 0])) (hb : Below w.heap.size w w') : GivesC w base ⟨k, 0, 0⟩ en w' := by
  refine ⟨none, 0, ?_, ?_, hb⟩
  · rw [h, dig_zero]; rfl
  · rw [dig_zero]; exact Own.nil _ _ _ _

set_option maxRecDepth 100000 in
theorem value_any (f : Fm) (g : Bool) (e x : Nat) (p : Option Addr) (c base : Nat) (w : World) (G : GoodF f) (hp : Own w base .u32 91 p c (dig B32 x)) (hb : base ≤ w.heap.size) (he : e < 2 ^ f.E) (hx : x < 2 ^ f.F) :
    Calls Tryd.prog 107 #[.agg #[.int .i64 ((f.size : Nat) : Int), .int .i64 ((f.E : Nat) : Int), .int .i64 ((f.F : Nat) : Int), .int .i64 f.g.rad, .int .i64 f.g.digs, .int .i64 f.g.lo, .int .i64 f.g.hi, .bool f.g.grad, .bool f.hid, .bool f.inf, .bool f.res, .func (.func (ordF f)) #[] #[]], .agg #[.bool g, .int .i64 ((e : Nat) : Int), .slice p (dig B32 x).length c]] w (GivesC w base (f.dec g e x)) := by
  have z2 := G.e2
  have z3 := G.f2
  have z4 := G.lo
  have hxl := dig_le_pow hx (k := 2) (by omega)
  have hx0 := dig_len_zero B32_two x
  have h0T : 0 < 2 ^ f.E := Nat.pow_pos (by omega)
  have h0T2 : 2 ^ f.E ≤ 2 ^ 15 := Nat.pow_le_pow_right (by omega) (by omega)
  have HSH := Lib.hid (shl_one (E := f.E) (by omega))
  by_cases f2 : f.fam = 2
  · have hD : f.dec g e x = ⟨2, x, f.g.lo + e⟩ := by unfold Fm.dec; rw [if_pos f2]
    rw [hD]
    generalize 2 ^ f.E = P at *
    have r1 := G.rad
    rw [if_pos f2] at r1
    have hT3 : SxOne Tryd.prog 3 := sxOne_of (by kernel_rfl) (by kernel_rfl)
    have hT23 : SxOne Tryd.prog 23 := sxOne_of (by kernel_rfl) (by kernel_rfl)
    refine calls_of_wp Tryd.func107 rfl ?_
    refine sx_frame (a' := ⟨((.agg #[.int .i64 ((f.size : Nat) : Int), .int .i64 ((f.E : Nat) : Int), .int .i64 ((f.F : Nat) : Int), .int .i64 f.g.rad, .int .i64 f.g.digs, .int .i64 f.g.lo, .int .i64 f.g.hi, .bool f.g.grad, .bool f.hid, .bool f.inf, .bool f.res, .func (.func (ordF f)) #[] #[]]) :: (.agg #[.bool g, .int .i64 ((e : Nat) : Int), .slice p (dig B32 x).length c]) :: us 97 []).toArray, []⟩) (by kernel_rfl) ?_
    refine ye ?_
    refine yw 0 rfl 2 #[.int .i64 ((f.size : Nat) : Int), .int .i64 ((f.E : Nat) : Int), .int .i64 ((f.F : Nat) : Int), .int .i64 f.g.rad, .int .i64 f.g.digs, .int .i64 f.g.lo, .int .i64 f.g.hi, .bool f.g.grad, .bool f.hid, .bool f.inf, .bool f.res, .func (.func (ordF f)) #[] #[]] 116 (fun V1 hbV1 hzV1 b2 => ?_)
    refine yw 0 rfl 3 #[.bool g, .int .i64 ((e : Nat) : Int), .slice p (dig B32 x).length c] 137 (fun V2 hbV2 hzV2 b3 => ?_)
    refine yzt 3 ?_
    refine ye ?_
    replace b2 := (b2.past hbV2)
    refine yl 1 rfl 10 b2 hT3 1 ?_
    refine yv 0 rfl 11 (.int .i64 ((P : Nat) : Int)) ?_ (exec_shl (X := (1)) (Y := ((f.E : Nat) : Int)) (k2 := .i64) ((P : Nat) : Int) (by kernel_rfl) (by kernel_rfl) (by omega) ((HSH.out)))
    refine ya 0 rfl 12 .i64 (((P : Nat) : Int) - 1) (((P - 1 : Nat) : Int)) ((by rw [show (((P : Nat) : Int) - 1) = ((P - 1 : Nat) : Int) by omega]; exact IntWalk.i64_in _ (by omega))) ?_
    refine yzt 1 ?_
    refine ye ?_
    refine yl 2 rfl 15 b2 hT3 5 ?_
    refine yzt 1 ?_
    refine wp_seq ?_
    refine wp_block ?_
    refine ye ?_
    refine yl 2 rfl 19 b2 hT3 3 ?_
    refine yb 0 rfl 20 (f.g.rad == 16) (true) (beq_iff_eq.2 r1) ?_
    refine yzt 1 ?_
    refine yT ?_
    refine wp_seq ?_
    obtain ⟨V3, hVV3, hbV3, hzV3⟩ := drew_of V2
    replace b3 := (b3.past hbV3)
    refine yd1 hVV3 b3 ?_
    clear hVV3
    refine yt 8 [0] rfl b3 ?_
    refine ytl 1 rfl 22 (fun _ h => h) hT23 2 b3 ?_
    refine yt 5 [2, 3] rfl b3 ?_
    refine ytl 4 rfl 25 (fun _ h => h) hT3 1 b3 ?_
    refine tk 5 26 (.int .i64 (f.g.lo + ((e : Nat) : Int))) b3 ?_ (hy := fun w' _ => ((show _ = Result.ok (Next.value (.int .i64 (IntKind.wrap .i64 (f.g.lo + ((e : Nat) : Int))))) _ by kernel_rfl).trans (congrArg (fun z => Result.ok (Next.value (.int .i64 z)) _) (IntWalk.i64_in _ (by omega)))))
    refine yt 0 [6, 7, 8] rfl b3 ?_
    refine sx_done (by kernel_rfl) ?_
    refine sx_then ?_
    refine wp_ret ?_
    repeat (first | with_reducible refine sx_thenret ?_ | with_reducible refine sx_blockret ?_)
    refine yret (.tuple #[.int .i64 2, .slice p (dig B32 x).length c, .int .i64 (f.g.lo + ((e : Nat) : Int))]) (res3 Tryd.results107 rvt rvt rvt) ?_
    replace hp := (hp.past (bthru (bthru hbV1 hbV2) hbV3))
    exact ⟨p, c, rfl, hp, (bthru (bthru hbV1 hbV2) hbV3)⟩
  · have r1 := G.rad
    rw [if_neg f2] at r1
    have hr : (f.g.rad == 16) = false := by rw [r1]; rfl
    by_cases f1 : f.fam = 1
    · have hinf : f.inf = true := by unfold Fm.inf; rw [f1]; rfl
      have hres : f.res = false := by unfold Fm.res; rw [f1]; rfl
      by_cases hl : e = 2 ^ f.E - 1
      · by_cases hex : f.ext = false
        · have hhid : f.hid = true := by unfold Fm.hid; rw [f1, hex]; rfl
          by_cases h0 : x = 0
          · have hD : f.dec g e x = ⟨3, 0, 0⟩ := by unfold Fm.dec; rw [if_neg f2, if_pos ⟨f1, hl⟩, if_pos (.inl ⟨hex, h0⟩)]
            rw [hD]
            generalize 2 ^ f.E = P at *
            have hT3 : SxOne Tryd.prog 3 := sxOne_of (by kernel_rfl) (by kernel_rfl)
            have hT4 : SxOne Tryd.prog 4 := sxOne_of (by kernel_rfl) (by kernel_rfl)
            have hT23 : SxOne Tryd.prog 23 := sxOne_of (by kernel_rfl) (by kernel_rfl)
            refine calls_of_wp Tryd.func107 rfl ?_
            refine sx_frame (a' := ⟨((.agg #[.int .i64 ((f.size : Nat) : Int), .int .i64 ((f.E : Nat) : Int), .int .i64 ((f.F : Nat) : Int), .int .i64 f.g.rad, .int .i64 f.g.digs, .int .i64 f.g.lo, .int .i64 f.g.hi, .bool f.g.grad, .bool f.hid, .bool f.inf, .bool f.res, .func (.func (ordF f)) #[] #[]]) :: (.agg #[.bool g, .int .i64 ((e : Nat) : Int), .slice p (dig B32 x).length c]) :: us 97 []).toArray, []⟩) (by kernel_rfl) ?_
            refine ye ?_
            refine yw 0 rfl 2 #[.int .i64 ((f.size : Nat) : Int), .int .i64 ((f.E : Nat) : Int), .int .i64 ((f.F : Nat) : Int), .int .i64 f.g.rad, .int .i64 f.g.digs, .int .i64 f.g.lo, .int .i64 f.g.hi, .bool f.g.grad, .bool f.hid, .bool f.inf, .bool f.res, .func (.func (ordF f)) #[] #[]] 116 (fun V1 hbV1 hzV1 b2 => ?_)
            refine yw 0 rfl 3 #[.bool g, .int .i64 ((e : Nat) : Int), .slice p (dig B32 x).length c] 137 (fun V2 hbV2 hzV2 b3 => ?_)
            refine yzt 3 ?_
            refine ye ?_
            replace b2 := (b2.past hbV2)
            refine yl 1 rfl 10 b2 hT3 1 ?_
            refine yv 0 rfl 11 (.int .i64 ((P : Nat) : Int)) ?_ (exec_shl (X := (1)) (Y := ((f.E : Nat) : Int)) (k2 := .i64) ((P : Nat) : Int) (by kernel_rfl) (by kernel_rfl) (by omega) ((HSH.out)))
            refine ya 0 rfl 12 .i64 (((P : Nat) : Int) - 1) (((P - 1 : Nat) : Int)) ((by rw [show (((P : Nat) : Int) - 1) = ((P - 1 : Nat) : Int) by omega]; exact IntWalk.i64_in _ (by omega))) ?_
            refine yzt 1 ?_
            refine ye ?_
            refine yl 2 rfl 15 b2 hT3 5 ?_
            refine yzt 1 ?_
            refine wp_seq ?_
            refine wp_block ?_
            refine ye ?_
            refine yl 2 rfl 19 b2 hT3 3 ?_
            refine yb 0 rfl 20 (f.g.rad == 16) (false) (hr) ?_
            refine yzt 1 ?_
            refine yF ?_
            refine ye ?_
            refine ylb 1 rfl 29 b2 hT4 9 (f.inf) true (hinf) ?_
            refine yl 2 rfl 32 b3 hT3 1 ?_
            refine yb 1 rfl 34 (((e : Nat) : Int) == ((P - 1 : Nat) : Int)) (true) (beq_iff_eq.2 (by omega)) ?_
            refine yzt 2 ?_
            refine yT ?_
            refine wp_seq ?_
            refine wp_seq ?_
            obtain ⟨V3, hVV3, hbV3, hzV3⟩ := drew_of V2
            replace b2 := (b2.past hbV3)
            replace b3 := (b3.past hbV3)
            refine yd2 hVV3 ⟨b2, b3⟩ ?_
            clear hVV3
            refine yt 19 [0] rfl ⟨b2, b3⟩ ?_
            refine tk 1 37 (.bool true) ⟨b2, b3⟩ ?_ (hy := fun w' hS => ((show _ = Result.ok (Next.value (.bool (f.hid))) _ from (exec_ld (by kernel_rfl) (run_ld1 hS.1 hT4 8 (.bool f.hid) (by kernel_rfl)))).trans (congrArg (fun z => Result.ok (Next.value (.bool z)) _) (show (f.hid) = true from hhid))))
            refine yt 16 [2, 3] rfl ⟨b2, b3⟩ ?_
            refine ytl 4 rfl 40 (fun _ h => h.2) hT23 2 ⟨b2, b3⟩ ?_
            refine yt 14 [5] rfl ⟨b2, b3⟩ ?_
            refine tk 6 42 (.bool true) ⟨b2, b3⟩ ?_ (hy := fun w' _ => ((show _ = Result.ok (Next.value (.bool ((((dig B32 x).length : Nat) : Int) == 0))) _ from (by kernel_rfl)).trans (congrArg (fun z => Result.ok (Next.value (.bool z)) _) (show ((((dig B32 x).length : Nat) : Int) == 0) = true from beq_iff_eq.2 (by omega)))))
            refine yt 0 [7, 8, 9, 10, 11, 12, 13, 14, 15, 16, 17, 18, 19] rfl ⟨b2, b3⟩ ?_
            refine sx_done (by kernel_rfl) ?_
            refine sx_then ?_
            refine yT ?_
            refine yq ?_
            refine wp_ret ?_
            repeat (first | with_reducible refine sx_thenret ?_ | with_reducible refine sx_blockret ?_)
            refine yret (.tuple #[.int .i64 3, .slice none 0 0, .int .i64 0]) (res3 Tryd.results107 rvt rvt rvt) ?_
            exact givesC_none (k := 3) rfl (bthru (bthru hbV1 hbV2) hbV3)
          · have hD : f.dec g e x = ⟨4, 0, 0⟩ := by unfold Fm.dec; rw [if_neg f2, if_pos ⟨f1, hl⟩, if_neg (by simp [hex, h0])]
            rw [hD]
            generalize 2 ^ f.E = P at *
            have hT3 : SxOne Tryd.prog 3 := sxOne_of (by kernel_rfl) (by kernel_rfl)
            have hT4 : SxOne Tryd.prog 4 := sxOne_of (by kernel_rfl) (by kernel_rfl)
            have hT23 : SxOne Tryd.prog 23 := sxOne_of (by kernel_rfl) (by kernel_rfl)
            refine calls_of_wp Tryd.func107 rfl ?_
            refine sx_frame (a' := ⟨((.agg #[.int .i64 ((f.size : Nat) : Int), .int .i64 ((f.E : Nat) : Int), .int .i64 ((f.F : Nat) : Int), .int .i64 f.g.rad, .int .i64 f.g.digs, .int .i64 f.g.lo, .int .i64 f.g.hi, .bool f.g.grad, .bool f.hid, .bool f.inf, .bool f.res, .func (.func (ordF f)) #[] #[]]) :: (.agg #[.bool g, .int .i64 ((e : Nat) : Int), .slice p (dig B32 x).length c]) :: us 97 []).toArray, []⟩) (by kernel_rfl) ?_
            refine ye ?_
            refine yw 0 rfl 2 #[.int .i64 ((f.size : Nat) : Int), .int .i64 ((f.E : Nat) : Int), .int .i64 ((f.F : Nat) : Int), .int .i64 f.g.rad, .int .i64 f.g.digs, .int .i64 f.g.lo, .int .i64 f.g.hi, .bool f.g.grad, .bool f.hid, .bool f.inf, .bool f.res, .func (.func (ordF f)) #[] #[]] 116 (fun V1 hbV1 hzV1 b2 => ?_)
            refine yw 0 rfl 3 #[.bool g, .int .i64 ((e : Nat) : Int), .slice p (dig B32 x).length c] 137 (fun V2 hbV2 hzV2 b3 => ?_)
            refine yzt 3 ?_
            refine ye ?_
            replace b2 := (b2.past hbV2)
            refine yl 1 rfl 10 b2 hT3 1 ?_
            refine yv 0 rfl 11 (.int .i64 ((P : Nat) : Int)) ?_ (exec_shl (X := (1)) (Y := ((f.E : Nat) : Int)) (k2 := .i64) ((P : Nat) : Int) (by kernel_rfl) (by kernel_rfl) (by omega) ((HSH.out)))
            refine ya 0 rfl 12 .i64 (((P : Nat) : Int) - 1) (((P - 1 : Nat) : Int)) ((by rw [show (((P : Nat) : Int) - 1) = ((P - 1 : Nat) : Int) by omega]; exact IntWalk.i64_in _ (by omega))) ?_
            refine yzt 1 ?_
            refine ye ?_
            refine yl 2 rfl 15 b2 hT3 5 ?_
            refine yzt 1 ?_
            refine wp_seq ?_
            refine wp_block ?_
            refine ye ?_
            refine yl 2 rfl 19 b2 hT3 3 ?_
            refine yb 0 rfl 20 (f.g.rad == 16) (false) (hr) ?_
            refine yzt 1 ?_
            refine yF ?_
            refine ye ?_
            refine ylb 1 rfl 29 b2 hT4 9 (f.inf) true (hinf) ?_
            refine yl 2 rfl 32 b3 hT3 1 ?_
            refine yb 1 rfl 34 (((e : Nat) : Int) == ((P - 1 : Nat) : Int)) (true) (beq_iff_eq.2 (by omega)) ?_
            refine yzt 2 ?_
            refine yT ?_
            refine wp_seq ?_
            refine wp_seq ?_
            obtain ⟨V3, hVV3, hbV3, hzV3⟩ := drew_of V2
            replace b2 := (b2.past hbV3)
            replace b3 := (b3.past hbV3)
            refine yd2 hVV3 ⟨b2, b3⟩ ?_
            clear hVV3
            refine yt 19 [0] rfl ⟨b2, b3⟩ ?_
            refine tk 1 37 (.bool true) ⟨b2, b3⟩ ?_ (hy := fun w' hS => ((show _ = Result.ok (Next.value (.bool (f.hid))) _ from (exec_ld (by kernel_rfl) (run_ld1 hS.1 hT4 8 (.bool f.hid) (by kernel_rfl)))).trans (congrArg (fun z => Result.ok (Next.value (.bool z)) _) (show (f.hid) = true from hhid))))
            refine yt 16 [2, 3] rfl ⟨b2, b3⟩ ?_
            refine ytl 4 rfl 40 (fun _ h => h.2) hT23 2 ⟨b2, b3⟩ ?_
            refine yt 14 [5] rfl ⟨b2, b3⟩ ?_
            refine tk 6 42 (.bool false) ⟨b2, b3⟩ ?_ (hy := fun w' _ => ((show _ = Result.ok (Next.value (.bool ((((dig B32 x).length : Nat) : Int) == 0))) _ from (by kernel_rfl)).trans (congrArg (fun z => Result.ok (Next.value (.bool z)) _) (show ((((dig B32 x).length : Nat) : Int) == 0) = false from beq_eq_false_iff_ne.2 (by omega)))))
            refine yt 10 [7, 8, 9] rfl ⟨b2, b3⟩ ?_
            refine tk 10 46 (.bool true) ⟨b2, b3⟩ ?_ (hy := fun w' hS => ((show _ = Result.ok (Next.value (.bool (f.hid))) _ from (exec_ld (by kernel_rfl) (run_ld1 hS.1 hT4 8 (.bool f.hid) (by kernel_rfl)))).trans (congrArg (fun z => Result.ok (Next.value (.bool z)) _) (show (f.hid) = true from hhid))))
            refine yt 0 [11, 12, 13, 14, 15, 16, 17, 18, 19] rfl ⟨b2, b3⟩ ?_
            refine sx_done (by kernel_rfl) ?_
            refine sx_then ?_
            refine yF ?_
            refine wp_skip ?_
            refine sx_then ?_
            refine yq ?_
            refine wp_ret ?_
            repeat (first | with_reducible refine sx_thenret ?_ | with_reducible refine sx_blockret ?_)
            refine yret (.tuple #[.int .i64 4, .slice none 0 0, .int .i64 0]) (res3 Tryd.results107 rvt rvt rvt) ?_
            exact givesC_none (k := 4) rfl (bthru (bthru hbV1 hbV2) hbV3)
        · have hex : f.ext = true := by simpa using hex
          have hhid : f.hid = false := by unfold Fm.hid; rw [f1, hex]; rfl
          have hl63 : (dig B32 (2 ^ 63)).length ≤ 2 := dig_le_pow (n := 64) (by omega) (by omega)
          by_cases h0 : x = 2 ^ 63
          · have hD : f.dec g e x = ⟨3, 0, 0⟩ := by unfold Fm.dec; rw [if_neg f2, if_pos ⟨f1, hl⟩, if_pos (.inr ⟨hex, h0⟩)]
            have hcm : cmpN x (2 ^ 63) = 0 := by rw [h0]; unfold cmpN; simp
            rw [hD]
            generalize 2 ^ f.E = P at *
            have hT3 : SxOne Tryd.prog 3 := sxOne_of (by kernel_rfl) (by kernel_rfl)
            have hT4 : SxOne Tryd.prog 4 := sxOne_of (by kernel_rfl) (by kernel_rfl)
            have hT23 : SxOne Tryd.prog 23 := sxOne_of (by kernel_rfl) (by kernel_rfl)
            refine calls_of_wp Tryd.func107 rfl ?_
            refine sx_frame (a' := ⟨((.agg #[.int .i64 ((f.size : Nat) : Int), .int .i64 ((f.E : Nat) : Int), .int .i64 ((f.F : Nat) : Int), .int .i64 f.g.rad, .int .i64 f.g.digs, .int .i64 f.g.lo, .int .i64 f.g.hi, .bool f.g.grad, .bool f.hid, .bool f.inf, .bool f.res, .func (.func (ordF f)) #[] #[]]) :: (.agg #[.bool g, .int .i64 ((e : Nat) : Int), .slice p (dig B32 x).length c]) :: us 97 []).toArray, []⟩) (by kernel_rfl) ?_
            refine ye ?_
            refine yw 0 rfl 2 #[.int .i64 ((f.size : Nat) : Int), .int .i64 ((f.E : Nat) : Int), .int .i64 ((f.F : Nat) : Int), .int .i64 f.g.rad, .int .i64 f.g.digs, .int .i64 f.g.lo, .int .i64 f.g.hi, .bool f.g.grad, .bool f.hid, .bool f.inf, .bool f.res, .func (.func (ordF f)) #[] #[]] 116 (fun V1 hbV1 hzV1 b2 => ?_)
            refine yw 0 rfl 3 #[.bool g, .int .i64 ((e : Nat) : Int), .slice p (dig B32 x).length c] 137 (fun V2 hbV2 hzV2 b3 => ?_)
            refine yzt 3 ?_
            refine ye ?_
            replace b2 := (b2.past hbV2)
            refine yl 1 rfl 10 b2 hT3 1 ?_
            refine yv 0 rfl 11 (.int .i64 ((P : Nat) : Int)) ?_ (exec_shl (X := (1)) (Y := ((f.E : Nat) : Int)) (k2 := .i64) ((P : Nat) : Int) (by kernel_rfl) (by kernel_rfl) (by omega) ((HSH.out)))
            refine ya 0 rfl 12 .i64 (((P : Nat) : Int) - 1) (((P - 1 : Nat) : Int)) ((by rw [show (((P : Nat) : Int) - 1) = ((P - 1 : Nat) : Int) by omega]; exact IntWalk.i64_in _ (by omega))) ?_
            refine yzt 1 ?_
            refine ye ?_
            refine yl 2 rfl 15 b2 hT3 5 ?_
            refine yzt 1 ?_
            refine wp_seq ?_
            refine wp_block ?_
            refine ye ?_
            refine yl 2 rfl 19 b2 hT3 3 ?_
            refine yb 0 rfl 20 (f.g.rad == 16) (false) (hr) ?_
            refine yzt 1 ?_
            refine yF ?_
            refine ye ?_
            refine ylb 1 rfl 29 b2 hT4 9 (f.inf) true (hinf) ?_
            refine yl 2 rfl 32 b3 hT3 1 ?_
            refine yb 1 rfl 34 (((e : Nat) : Int) == ((P - 1 : Nat) : Int)) (true) (beq_iff_eq.2 (by omega)) ?_
            refine yzt 2 ?_
            refine yT ?_
            refine wp_seq ?_
            refine wp_seq ?_
            obtain ⟨V3, hVV3, hbV3, hzV3⟩ := drew_of V2
            replace b2 := (b2.past hbV3)
            replace b3 := (b3.past hbV3)
            refine yd2 hVV3 ⟨b2, b3⟩ ?_
            clear hVV3
            refine yt 19 [0] rfl ⟨b2, b3⟩ ?_
            refine tk 1 37 (.bool false) ⟨b2, b3⟩ ?_ (hy := fun w' hS => ((show _ = Result.ok (Next.value (.bool (f.hid))) _ from (exec_ld (by kernel_rfl) (run_ld1 hS.1 hT4 8 (.bool f.hid) (by kernel_rfl)))).trans (congrArg (fun z => Result.ok (Next.value (.bool z)) _) (show (f.hid) = false from hhid))))
            refine yt 10 [2, 3, 4, 5, 6, 7, 8, 9] rfl ⟨b2, b3⟩ ?_
            refine tk 10 46 (.bool false) ⟨b2, b3⟩ ?_ (hy := fun w' hS => ((show _ = Result.ok (Next.value (.bool (f.hid))) _ from (exec_ld (by kernel_rfl) (run_ld1 hS.1 hT4 8 (.bool f.hid) (by kernel_rfl)))).trans (congrArg (fun z => Result.ok (Next.value (.bool z)) _) (show (f.hid) = false from hhid))))
            refine yt 6 [11, 12, 13] rfl ⟨b2, b3⟩ ?_
            refine ytl 14 rfl 50 (fun _ h => h.2) hT23 2 ⟨b2, b3⟩ ?_
            refine sxr [15] ?_
            refine rd1 (fun Kx hKx => ?_)
            refine yck 51 (two_any 63 (2 ^ 63) 63 V3 (by omega) rfl rfl) ?_
            rintro eV4 V4 ⟨p51, c51, rfl, o51, hbV4⟩
            have hzV4 := hbV4.size
            refine ⟨_, rfl, ?_⟩
            replace b2 := (b2.past hbV4)
            replace b3 := (b3.past hbV4)
            refine hKx.out _ _ ⟨b2, b3⟩ ?_
            clear hKx Kx
            refine sxr [16] ?_
            refine rd1 (fun Kx hKx => ?_)
            replace hp := (hp.past (bthru (bthru (bthru hbV1 hbV2) hbV3) hbV4))
            refine yck 52 (cmp_any p p51 _ _ c c51 x (2 ^ 63) V4 hp.rd o51.rd rfl rfl (by omega) (by omega)) ?_
            rintro eV5 V5 ⟨rfl, hbV5⟩
            have hzV5 := hbV5.size
            refine ⟨_, rfl, ?_⟩
            replace b2 := (b2.past hbV5)
            replace b3 := (b3.past hbV5)
            refine hKx.out _ _ ⟨b2, b3⟩ ?_
            clear hKx Kx
            refine tk 17 53 (.bool true) ⟨b2, b3⟩ ?_ (hy := fun w' _ => ((show _ = Result.ok (Next.value (.bool ((cmpN x (2 ^ 63)) == 0))) _ from (by kernel_rfl)).trans (congrArg (fun z => Result.ok (Next.value (.bool z)) _) (show ((cmpN x (2 ^ 63)) == 0) = true from by rw [hcm]; rfl))))
            refine yt 0 [18, 19] rfl ⟨b2, b3⟩ ?_
            refine sx_done (by kernel_rfl) ?_
            refine sx_then ?_
            refine yT ?_
            refine yq ?_
            refine wp_ret ?_
            repeat (first | with_reducible refine sx_thenret ?_ | with_reducible refine sx_blockret ?_)
            refine yret (.tuple #[.int .i64 3, .slice none 0 0, .int .i64 0]) (res3 Tryd.results107 rvt rvt rvt) ?_
            exact givesC_none (k := 3) rfl (bthru (bthru (bthru (bthru hbV1 hbV2) hbV3) hbV4) hbV5)
          · have hD : f.dec g e x = ⟨4, 0, 0⟩ := by unfold Fm.dec; rw [if_neg f2, if_pos ⟨f1, hl⟩, if_neg (by simp [hex]; omega)]
            have hcm : (cmpN x (2 ^ 63) == 0) = false := by rw [beq_eq_false_iff_ne]; intro h; exact h0 (cmpN_zero h)
            rw [hD]
            generalize 2 ^ f.E = P at *
            have hT3 : SxOne Tryd.prog 3 := sxOne_of (by kernel_rfl) (by kernel_rfl)
            have hT4 : SxOne Tryd.prog 4 := sxOne_of (by kernel_rfl) (by kernel_rfl)
            have hT23 : SxOne Tryd.prog 23 := sxOne_of (by kernel_rfl) (by kernel_rfl)
            refine calls_of_wp Tryd.func107 rfl ?_
            refine sx_frame (a' := ⟨((.agg #[.int .i64 ((f.size : Nat) : Int), .int .i64 ((f.E : Nat) : Int), .int .i64 ((f.F : Nat) : Int), .int .i64 f.g.rad, .int .i64 f.g.digs, .int .i64 f.g.lo, .int .i64 f.g.hi, .bool f.g.grad, .bool f.hid, .bool f.inf, .bool f.res, .func (.func (ordF f)) #[] #[]]) :: (.agg #[.bool g, .int .i64 ((e : Nat) : Int), .slice p (dig B32 x).length c]) :: us 97 []).toArray, []⟩) (by kernel_rfl) ?_
            refine ye ?_
            refine yw 0 rfl 2 #[.int .i64 ((f.size : Nat) : Int), .int .i64 ((f.E : Nat) : Int), .int .i64 ((f.F : Nat) : Int), .int .i64 f.g.rad, .int .i64 f.g.digs, .int .i64 f.g.lo, .int .i64 f.g.hi, .bool f.g.grad, .bool f.hid, .bool f.inf, .bool f.res, .func (.func (ordF f)) #[] #[]] 116 (fun V1 hbV1 hzV1 b2 => ?_)
            refine yw 0 rfl 3 #[.bool g, .int .i64 ((e : Nat) : Int), .slice p (dig B32 x).length c] 137 (fun V2 hbV2 hzV2 b3 => ?_)
            refine yzt 3 ?_
            refine ye ?_
            replace b2 := (b2.past hbV2)
            refine yl 1 rfl 10 b2 hT3 1 ?_
            refine yv 0 rfl 11 (.int .i64 ((P : Nat) : Int)) ?_ (exec_shl (X := (1)) (Y := ((f.E : Nat) : Int)) (k2 := .i64) ((P : Nat) : Int) (by kernel_rfl) (by kernel_rfl) (by omega) ((HSH.out)))
            refine ya 0 rfl 12 .i64 (((P : Nat) : Int) - 1) (((P - 1 : Nat) : Int)) ((by rw [show (((P : Nat) : Int) - 1) = ((P - 1 : Nat) : Int) by omega]; exact IntWalk.i64_in _ (by omega))) ?_
            refine yzt 1 ?_
            refine ye ?_
            refine yl 2 rfl 15 b2 hT3 5 ?_
            refine yzt 1 ?_
            refine wp_seq ?_
            refine wp_block ?_
            refine ye ?_
            refine yl 2 rfl 19 b2 hT3 3 ?_
            refine yb 0 rfl 20 (f.g.rad == 16) (false) (hr) ?_
            refine yzt 1 ?_
            refine yF ?_
            refine ye ?_
            refine ylb 1 rfl 29 b2 hT4 9 (f.inf) true (hinf) ?_
            refine yl 2 rfl 32 b3 hT3 1 ?_
            refine yb 1 rfl 34 (((e : Nat) : Int) == ((P - 1 : Nat) : Int)) (true) (beq_iff_eq.2 (by omega)) ?_
            refine yzt 2 ?_
            refine yT ?_
            refine wp_seq ?_
            refine wp_seq ?_
            obtain ⟨V3, hVV3, hbV3, hzV3⟩ := drew_of V2
            replace b2 := (b2.past hbV3)
            replace b3 := (b3.past hbV3)
            refine yd2 hVV3 ⟨b2, b3⟩ ?_
            clear hVV3
            refine yt 19 [0] rfl ⟨b2, b3⟩ ?_
            refine tk 1 37 (.bool false) ⟨b2, b3⟩ ?_ (hy := fun w' hS => ((show _ = Result.ok (Next.value (.bool (f.hid))) _ from (exec_ld (by kernel_rfl) (run_ld1 hS.1 hT4 8 (.bool f.hid) (by kernel_rfl)))).trans (congrArg (fun z => Result.ok (Next.value (.bool z)) _) (show (f.hid) = false from hhid))))
            refine yt 10 [2, 3, 4, 5, 6, 7, 8, 9] rfl ⟨b2, b3⟩ ?_
            refine tk 10 46 (.bool false) ⟨b2, b3⟩ ?_ (hy := fun w' hS => ((show _ = Result.ok (Next.value (.bool (f.hid))) _ from (exec_ld (by kernel_rfl) (run_ld1 hS.1 hT4 8 (.bool f.hid) (by kernel_rfl)))).trans (congrArg (fun z => Result.ok (Next.value (.bool z)) _) (show (f.hid) = false from hhid))))
            refine yt 6 [11, 12, 13] rfl ⟨b2, b3⟩ ?_
            refine ytl 14 rfl 50 (fun _ h => h.2) hT23 2 ⟨b2, b3⟩ ?_
            refine sxr [15] ?_
            refine rd1 (fun Kx hKx => ?_)
            refine yck 51 (two_any 63 (2 ^ 63) 63 V3 (by omega) rfl rfl) ?_
            rintro eV4 V4 ⟨p51, c51, rfl, o51, hbV4⟩
            have hzV4 := hbV4.size
            refine ⟨_, rfl, ?_⟩
            replace b2 := (b2.past hbV4)
            replace b3 := (b3.past hbV4)
            refine hKx.out _ _ ⟨b2, b3⟩ ?_
            clear hKx Kx
            refine sxr [16] ?_
            refine rd1 (fun Kx hKx => ?_)
            replace hp := (hp.past (bthru (bthru (bthru hbV1 hbV2) hbV3) hbV4))
            refine yck 52 (cmp_any p p51 _ _ c c51 x (2 ^ 63) V4 hp.rd o51.rd rfl rfl (by omega) (by omega)) ?_
            rintro eV5 V5 ⟨rfl, hbV5⟩
            have hzV5 := hbV5.size
            refine ⟨_, rfl, ?_⟩
            replace b2 := (b2.past hbV5)
            replace b3 := (b3.past hbV5)
            refine hKx.out _ _ ⟨b2, b3⟩ ?_
            clear hKx Kx
            refine tk 17 53 (.bool false) ⟨b2, b3⟩ ?_ (hy := fun w' _ => ((show _ = Result.ok (Next.value (.bool ((cmpN x (2 ^ 63)) == 0))) _ from (by kernel_rfl)).trans (congrArg (fun z => Result.ok (Next.value (.bool z)) _) (show ((cmpN x (2 ^ 63)) == 0) = false from hcm))))
            refine yt 0 [18, 19] rfl ⟨b2, b3⟩ ?_
            refine sx_done (by kernel_rfl) ?_
            refine sx_then ?_
            refine yF ?_
            refine wp_skip ?_
            refine sx_then ?_
            refine yq ?_
            refine wp_ret ?_
            repeat (first | with_reducible refine sx_thenret ?_ | with_reducible refine sx_blockret ?_)
            refine yret (.tuple #[.int .i64 4, .slice none 0 0, .int .i64 0]) (res3 Tryd.results107 rvt rvt rvt) ?_
            exact givesC_none (k := 4) rfl (bthru (bthru (bthru (bthru hbV1 hbV2) hbV3) hbV4) hbV5)
      · by_cases h0 : e = 0
        · have hD : f.dec g e x = ⟨2, x, f.g.lo⟩ := by unfold Fm.dec; rw [if_neg f2, if_neg (fun h => hl h.2), if_neg (by omega), if_pos h0]
          rw [hD]
          generalize 2 ^ f.E = P at *
          have hT3 : SxOne Tryd.prog 3 := sxOne_of (by kernel_rfl) (by kernel_rfl)
          have hT4 : SxOne Tryd.prog 4 := sxOne_of (by kernel_rfl) (by kernel_rfl)
          have hT23 : SxOne Tryd.prog 23 := sxOne_of (by kernel_rfl) (by kernel_rfl)
          refine calls_of_wp Tryd.func107 rfl ?_
          refine sx_frame (a' := ⟨((.agg #[.int .i64 ((f.size : Nat) : Int), .int .i64 ((f.E : Nat) : Int), .int .i64 ((f.F : Nat) : Int), .int .i64 f.g.rad, .int .i64 f.g.digs, .int .i64 f.g.lo, .int .i64 f.g.hi, .bool f.g.grad, .bool f.hid, .bool f.inf, .bool f.res, .func (.func (ordF f)) #[] #[]]) :: (.agg #[.bool g, .int .i64 ((e : Nat) : Int), .slice p (dig B32 x).length c]) :: us 97 []).toArray, []⟩) (by kernel_rfl) ?_
          refine ye ?_
          refine yw 0 rfl 2 #[.int .i64 ((f.size : Nat) : Int), .int .i64 ((f.E : Nat) : Int), .int .i64 ((f.F : Nat) : Int), .int .i64 f.g.rad, .int .i64 f.g.digs, .int .i64 f.g.lo, .int .i64 f.g.hi, .bool f.g.grad, .bool f.hid, .bool f.inf, .bool f.res, .func (.func (ordF f)) #[] #[]] 116 (fun V1 hbV1 hzV1 b2 => ?_)
          refine yw 0 rfl 3 #[.bool g, .int .i64 ((e : Nat) : Int), .slice p (dig B32 x).length c] 137 (fun V2 hbV2 hzV2 b3 => ?_)
          refine yzt 3 ?_
          refine ye ?_
          replace b2 := (b2.past hbV2)
          refine yl 1 rfl 10 b2 hT3 1 ?_
          refine yv 0 rfl 11 (.int .i64 ((P : Nat) : Int)) ?_ (exec_shl (X := (1)) (Y := ((f.E : Nat) : Int)) (k2 := .i64) ((P : Nat) : Int) (by kernel_rfl) (by kernel_rfl) (by omega) ((HSH.out)))
          refine ya 0 rfl 12 .i64 (((P : Nat) : Int) - 1) (((P - 1 : Nat) : Int)) ((by rw [show (((P : Nat) : Int) - 1) = ((P - 1 : Nat) : Int) by omega]; exact IntWalk.i64_in _ (by omega))) ?_
          refine yzt 1 ?_
          refine ye ?_
          refine yl 2 rfl 15 b2 hT3 5 ?_
          refine yzt 1 ?_
          refine wp_seq ?_
          refine wp_block ?_
          refine ye ?_
          refine yl 2 rfl 19 b2 hT3 3 ?_
          refine yb 0 rfl 20 (f.g.rad == 16) (false) (hr) ?_
          refine yzt 1 ?_
          refine yF ?_
          refine ye ?_
          refine ylb 1 rfl 29 b2 hT4 9 (f.inf) true (hinf) ?_
          refine yl 2 rfl 32 b3 hT3 1 ?_
          refine yb 1 rfl 34 (((e : Nat) : Int) == ((P - 1 : Nat) : Int)) (false) (beq_eq_false_iff_ne.2 (by omega)) ?_
          refine yzt 2 ?_
          refine yF ?_
          refine ye ?_
          refine yl 1 rfl 58 b3 hT3 1 ?_
          refine yb 0 rfl 59 (((e : Nat) : Int) == 0) (true) (beq_iff_eq.2 (by omega)) ?_
          refine ylb 2 rfl 62 b2 hT4 10 (f.res) false (hres) ?_
          refine yzt 2 ?_
          refine yF ?_
          refine ye ?_
          refine yl 1 rfl 68 b3 hT3 1 ?_
          refine yb 0 rfl 69 (((e : Nat) : Int) == 0) (true) (beq_iff_eq.2 (by omega)) ?_
          refine yzt 1 ?_
          refine yT ?_
          refine wp_seq ?_
          obtain ⟨V3, hVV3, hbV3, hzV3⟩ := drew_of V2
          replace b3 := (b3.past hbV3)
          refine yd1 hVV3 b3 ?_
          clear hVV3
          refine yt 5 [0] rfl b3 ?_
          refine ytl 1 rfl 71 (fun _ h => h) hT23 2 b3 ?_
          refine yt 0 [2, 3, 4, 5] rfl b3 ?_
          refine sx_done (by kernel_rfl) ?_
          refine sx_then ?_
          refine wp_ret ?_
          repeat (first | with_reducible refine sx_thenret ?_ | with_reducible refine sx_blockret ?_)
          refine yret (.tuple #[.int .i64 2, .slice p (dig B32 x).length c, .int .i64 f.g.lo]) (res3 Tryd.results107 rvt rvt rvt) ?_
          replace hp := (hp.past (bthru (bthru hbV1 hbV2) hbV3))
          exact ⟨p, c, rfl, hp, (bthru (bthru hbV1 hbV2) hbV3)⟩
        · by_cases hex : f.ext = false
          · have hhid : f.hid = true := by unfold Fm.hid; rw [f1, hex]; rfl
            have hD : f.dec g e x = ⟨2, x + 2 ^ f.F, f.g.lo + e - 1⟩ := by unfold Fm.dec; rw [if_neg f2, if_neg (fun h => hl h.2), if_neg (by omega), if_neg h0, if_pos hex]
            have hlF : (dig B32 (2 ^ f.F)).length ≤ 3 := dig_le_pow (n := f.F + 1) (Nat.pow_lt_pow_right (by omega) (by omega)) (by omega)
            rw [hD]
            generalize 2 ^ f.E = P at *
            have hT3 : SxOne Tryd.prog 3 := sxOne_of (by kernel_rfl) (by kernel_rfl)
            have hT4 : SxOne Tryd.prog 4 := sxOne_of (by kernel_rfl) (by kernel_rfl)
            have hT23 : SxOne Tryd.prog 23 := sxOne_of (by kernel_rfl) (by kernel_rfl)
            refine calls_of_wp Tryd.func107 rfl ?_
            refine sx_frame (a' := ⟨((.agg #[.int .i64 ((f.size : Nat) : Int), .int .i64 ((f.E : Nat) : Int), .int .i64 ((f.F : Nat) : Int), .int .i64 f.g.rad, .int .i64 f.g.digs, .int .i64 f.g.lo, .int .i64 f.g.hi, .bool f.g.grad, .bool f.hid, .bool f.inf, .bool f.res, .func (.func (ordF f)) #[] #[]]) :: (.agg #[.bool g, .int .i64 ((e : Nat) : Int), .slice p (dig B32 x).length c]) :: us 97 []).toArray, []⟩) (by kernel_rfl) ?_
            refine ye ?_
            refine yw 0 rfl 2 #[.int .i64 ((f.size : Nat) : Int), .int .i64 ((f.E : Nat) : Int), .int .i64 ((f.F : Nat) : Int), .int .i64 f.g.rad, .int .i64 f.g.digs, .int .i64 f.g.lo, .int .i64 f.g.hi, .bool f.g.grad, .bool f.hid, .bool f.inf, .bool f.res, .func (.func (ordF f)) #[] #[]] 116 (fun V1 hbV1 hzV1 b2 => ?_)
            refine yw 0 rfl 3 #[.bool g, .int .i64 ((e : Nat) : Int), .slice p (dig B32 x).length c] 137 (fun V2 hbV2 hzV2 b3 => ?_)
            refine yzt 3 ?_
            refine ye ?_
            replace b2 := (b2.past hbV2)
            refine yl 1 rfl 10 b2 hT3 1 ?_
            refine yv 0 rfl 11 (.int .i64 ((P : Nat) : Int)) ?_ (exec_shl (X := (1)) (Y := ((f.E : Nat) : Int)) (k2 := .i64) ((P : Nat) : Int) (by kernel_rfl) (by kernel_rfl) (by omega) ((HSH.out)))
            refine ya 0 rfl 12 .i64 (((P : Nat) : Int) - 1) (((P - 1 : Nat) : Int)) ((by rw [show (((P : Nat) : Int) - 1) = ((P - 1 : Nat) : Int) by omega]; exact IntWalk.i64_in _ (by omega))) ?_
            refine yzt 1 ?_
            refine ye ?_
            refine yl 2 rfl 15 b2 hT3 5 ?_
            refine yzt 1 ?_
            refine wp_seq ?_
            refine wp_block ?_
            refine ye ?_
            refine yl 2 rfl 19 b2 hT3 3 ?_
            refine yb 0 rfl 20 (f.g.rad == 16) (false) (hr) ?_
            refine yzt 1 ?_
            refine yF ?_
            refine ye ?_
            refine ylb 1 rfl 29 b2 hT4 9 (f.inf) true (hinf) ?_
            refine yl 2 rfl 32 b3 hT3 1 ?_
            refine yb 1 rfl 34 (((e : Nat) : Int) == ((P - 1 : Nat) : Int)) (false) (beq_eq_false_iff_ne.2 (by omega)) ?_
            refine yzt 2 ?_
            refine yF ?_
            refine ye ?_
            refine yl 1 rfl 58 b3 hT3 1 ?_
            refine yb 0 rfl 59 (((e : Nat) : Int) == 0) (false) (beq_eq_false_iff_ne.2 (by omega)) ?_
            refine yzt 5 ?_
            refine yF ?_
            refine ye ?_
            refine yl 1 rfl 68 b3 hT3 1 ?_
            refine yb 0 rfl 69 (((e : Nat) : Int) == 0) (false) (beq_eq_false_iff_ne.2 (by omega)) ?_
            refine yzt 1 ?_
            refine yF ?_
            refine ye ?_
            refine ylb 1 rfl 75 b2 hT4 8 (f.hid) true (hhid) ?_
            refine yzt 1 ?_
            refine yT ?_
            refine wp_seq ?_
            obtain ⟨V3, hVV3, hbV3, hzV3⟩ := drew_of V2
            replace b3 := (b3.past hbV3)
            replace b2 := (b2.past hbV3)
            refine yd2 hVV3 ⟨b3, b2⟩ ?_
            clear hVV3
            refine yt 13 [0] rfl ⟨b3, b2⟩ ?_
            refine ytl 1 rfl 77 (fun _ h => h.1) hT23 2 ⟨b3, b2⟩ ?_
            refine yt 11 [2] rfl ⟨b3, b2⟩ ?_
            refine ytl 3 rfl 79 (fun _ h => h.2) hT3 2 ⟨b3, b2⟩ ?_
            refine yt 8 [6, 7] rfl ⟨b3, b2⟩ ?_
            refine ytl 8 rfl 84 (fun _ h => h.1) hT3 1 ⟨b3, b2⟩ ?_
            refine tk 9 85 (.int .i64 (f.g.lo + ((e : Nat) : Int))) ⟨b3, b2⟩ ?_ (hy := fun w' _ => ((show _ = Result.ok (Next.value (.int .i64 (IntKind.wrap .i64 (f.g.lo + ((e : Nat) : Int))))) _ by kernel_rfl).trans (congrArg (fun z => Result.ok (Next.value (.int .i64 z)) _) (IntWalk.i64_in _ (by omega)))))
            refine tk 10 86 (.int .i64 ((f.g.lo + ((e : Nat) : Int)) - 1)) ⟨b3, b2⟩ ?_ (hy := fun w' _ => ((show _ = Result.ok (Next.value (.int .i64 (IntKind.wrap .i64 ((f.g.lo + ((e : Nat) : Int)) - 1)))) _ by kernel_rfl).trans (congrArg (fun z => Result.ok (Next.value (.int .i64 z)) _) (IntWalk.i64_in _ (by omega)))))
            refine sxr [4] ?_
            refine rd1 (fun Kx hKx => ?_)
            refine yck 80 (two_any f.F (2 ^ f.F) _ V3 (by omega) rfl rfl) ?_
            rintro eV4 V4 ⟨p80, c80, rfl, o80, hbV4⟩
            have hzV4 := hbV4.size
            refine ⟨_, rfl, ?_⟩
            replace b3 := (b3.past hbV4)
            replace b2 := (b2.past hbV4)
            refine hKx.out _ _ ⟨b3, b2⟩ ?_
            clear hKx Kx
            refine sxr [5] ?_
            refine rd1 (fun Kx hKx => ?_)
            replace hp := (hp.past (bthru (bthru (bthru hbV1 hbV2) hbV3) hbV4))
            refine yck 81 (sadd p p80 _ _ c c80 x (2 ^ f.F) (x + 2 ^ f.F) V4 hp.rd o80.rd rfl rfl (by omega) (by omega) rfl) ?_
            rintro eV5 V5 ⟨p81, c81, rfl, o81, hbV5⟩
            have hzV5 := hbV5.size
            refine ⟨_, rfl, ?_⟩
            replace b3 := (b3.past hbV5)
            replace b2 := (b2.past hbV5)
            refine hKx.out _ _ ⟨b3, b2⟩ ?_
            clear hKx Kx
            refine yt 0 [11, 12, 13] rfl ⟨b3, b2⟩ ?_
            refine sx_done (by kernel_rfl) ?_
            refine sx_then ?_
            refine wp_ret ?_
            repeat (first | with_reducible refine sx_thenret ?_ | with_reducible refine sx_blockret ?_)
            refine yret (.tuple #[.int .i64 2, .slice p81 (dig B32 (x + 2 ^ f.F)).length c81, .int .i64 ((f.g.lo + ((e : Nat) : Int)) - 1)]) (res3 Tryd.results107 rvt rvt rvt) ?_
            exact ⟨p81, c81, rfl, o81.mono (by omega), (bthru (bthru (bthru (bthru hbV1 hbV2) hbV3) hbV4) hbV5)⟩
          · have hex : f.ext = true := by simpa using hex
            have hhid : f.hid = false := by unfold Fm.hid; rw [f1, hex]; rfl
            by_cases h63 : x < 2 ^ 63
            · have hD : f.dec g e x = ⟨4, 0, 0⟩ := by unfold Fm.dec; rw [if_neg f2, if_neg (fun h => hl h.2), if_neg (by omega), if_neg h0, if_neg (by simp [hex]), if_pos h63]
              have hbl : blen x < 64 := by have := (blen_le x 63).2 h63; omega
              rw [hD]
              generalize 2 ^ f.E = P at *
              have hT3 : SxOne Tryd.prog 3 := sxOne_of (by kernel_rfl) (by kernel_rfl)
              have hT4 : SxOne Tryd.prog 4 := sxOne_of (by kernel_rfl) (by kernel_rfl)
              have hT23 : SxOne Tryd.prog 23 := sxOne_of (by kernel_rfl) (by kernel_rfl)
              refine calls_of_wp Tryd.func107 rfl ?_
              refine sx_frame (a' := ⟨((.agg #[.int .i64 ((f.size : Nat) : Int), .int .i64 ((f.E : Nat) : Int), .int .i64 ((f.F : Nat) : Int), .int .i64 f.g.rad, .int .i64 f.g.digs, .int .i64 f.g.lo, .int .i64 f.g.hi, .bool f.g.grad, .bool f.hid, .bool f.inf, .bool f.res, .func (.func (ordF f)) #[] #[]]) :: (.agg #[.bool g, .int .i64 ((e : Nat) : Int), .slice p (dig B32 x).length c]) :: us 97 []).toArray, []⟩) (by kernel_rfl) ?_
              refine ye ?_
              refine yw 0 rfl 2 #[.int .i64 ((f.size : Nat) : Int), .int .i64 ((f.E : Nat) : Int), .int .i64 ((f.F : Nat) : Int), .int .i64 f.g.rad, .int .i64 f.g.digs, .int .i64 f.g.lo, .int .i64 f.g.hi, .bool f.g.grad, .bool f.hid, .bool f.inf, .bool f.res, .func (.func (ordF f)) #[] #[]] 116 (fun V1 hbV1 hzV1 b2 => ?_)
              refine yw 0 rfl 3 #[.bool g, .int .i64 ((e : Nat) : Int), .slice p (dig B32 x).length c] 137 (fun V2 hbV2 hzV2 b3 => ?_)
              refine yzt 3 ?_
              refine ye ?_
              replace b2 := (b2.past hbV2)
              refine yl 1 rfl 10 b2 hT3 1 ?_
              refine yv 0 rfl 11 (.int .i64 ((P : Nat) : Int)) ?_ (exec_shl (X := (1)) (Y := ((f.E : Nat) : Int)) (k2 := .i64) ((P : Nat) : Int) (by kernel_rfl) (by kernel_rfl) (by omega) ((HSH.out)))
              refine ya 0 rfl 12 .i64 (((P : Nat) : Int) - 1) (((P - 1 : Nat) : Int)) ((by rw [show (((P : Nat) : Int) - 1) = ((P - 1 : Nat) : Int) by omega]; exact IntWalk.i64_in _ (by omega))) ?_
              refine yzt 1 ?_
              refine ye ?_
              refine yl 2 rfl 15 b2 hT3 5 ?_
              refine yzt 1 ?_
              refine wp_seq ?_
              refine wp_block ?_
              refine ye ?_
              refine yl 2 rfl 19 b2 hT3 3 ?_
              refine yb 0 rfl 20 (f.g.rad == 16) (false) (hr) ?_
              refine yzt 1 ?_
              refine yF ?_
              refine ye ?_
              refine ylb 1 rfl 29 b2 hT4 9 (f.inf) true (hinf) ?_
              refine yl 2 rfl 32 b3 hT3 1 ?_
              refine yb 1 rfl 34 (((e : Nat) : Int) == ((P - 1 : Nat) : Int)) (false) (beq_eq_false_iff_ne.2 (by omega)) ?_
              refine yzt 2 ?_
              refine yF ?_
              refine ye ?_
              refine yl 1 rfl 58 b3 hT3 1 ?_
              refine yb 0 rfl 59 (((e : Nat) : Int) == 0) (false) (beq_eq_false_iff_ne.2 (by omega)) ?_
              refine yzt 5 ?_
              refine yF ?_
              refine ye ?_
              refine yl 1 rfl 68 b3 hT3 1 ?_
              refine yb 0 rfl 69 (((e : Nat) : Int) == 0) (false) (beq_eq_false_iff_ne.2 (by omega)) ?_
              refine yzt 1 ?_
              refine yF ?_
              refine ye ?_
              refine ylb 1 rfl 75 b2 hT4 8 (f.hid) false (hhid) ?_
              refine yzt 1 ?_
              refine yF ?_
              refine ye ?_
              refine yl 1 rfl 89 b3 hT23 2 ?_
              replace hp := (hp.past (bthru hbV1 hbV2))
              refine yc 0 rfl 90 (stay (len_any p _ c x V2 hp.rd rfl (by omega))) (fun Gx hGx => ?_)
              rintro eV3 V3 ⟨rfl, hbV3⟩
              have hzV3 := hbV3.size
              refine ⟨_, rfl, hGx _ _ ?_⟩
              clear hGx Gx
              refine yb 0 rfl 91 (decide (((blen x : Nat) : Int) < 64)) (true) (decide_eq_true (by omega)) ?_
              refine yzt 1 ?_
              refine yT ?_
              refine yq ?_
              refine wp_ret ?_
              repeat (first | with_reducible refine sx_thenret ?_ | with_reducible refine sx_blockret ?_)
              refine yret (.tuple #[.int .i64 4, .slice none 0 0, .int .i64 0]) (res3 Tryd.results107 rvt rvt rvt) ?_
              exact givesC_none (k := 4) rfl (bthru (bthru hbV1 hbV2) hbV3)
            · have hD : f.dec g e x = ⟨2, x, f.g.lo + e - 1⟩ := by unfold Fm.dec; rw [if_neg f2, if_neg (fun h => hl h.2), if_neg (by omega), if_neg h0, if_neg (by simp [hex]), if_neg h63]
              have hbl : 64 ≤ blen x := by have := (blen_le x 63).1; omega
              rw [hD]
              generalize 2 ^ f.E = P at *
              have hT3 : SxOne Tryd.prog 3 := sxOne_of (by kernel_rfl) (by kernel_rfl)
              have hT4 : SxOne Tryd.prog 4 := sxOne_of (by kernel_rfl) (by kernel_rfl)
              have hT23 : SxOne Tryd.prog 23 := sxOne_of (by kernel_rfl) (by kernel_rfl)
              refine calls_of_wp Tryd.func107 rfl ?_
              refine sx_frame (a' := ⟨((.agg #[.int .i64 ((f.size : Nat) : Int), .int .i64 ((f.E : Nat) : Int), .int .i64 ((f.F : Nat) : Int), .int .i64 f.g.rad, .int .i64 f.g.digs, .int .i64 f.g.lo, .int .i64 f.g.hi, .bool f.g.grad, .bool f.hid, .bool f.inf, .bool f.res, .func (.func (ordF f)) #[] #[]]) :: (.agg #[.bool g, .int .i64 ((e : Nat) : Int), .slice p (dig B32 x).length c]) :: us 97 []).toArray, []⟩) (by kernel_rfl) ?_
              refine ye ?_
              refine yw 0 rfl 2 #[.int .i64 ((f.size : Nat) : Int), .int .i64 ((f.E : Nat) : Int), .int .i64 ((f.F : Nat) : Int), .int .i64 f.g.rad, .int .i64 f.g.digs, .int .i64 f.g.lo, .int .i64 f.g.hi, .bool f.g.grad, .bool f.hid, .bool f.inf, .bool f.res, .func (.func (ordF f)) #[] #[]] 116 (fun V1 hbV1 hzV1 b2 => ?_)
              refine yw 0 rfl 3 #[.bool g, .int .i64 ((e : Nat) : Int), .slice p (dig B32 x).length c] 137 (fun V2 hbV2 hzV2 b3 => ?_)
              refine yzt 3 ?_
              refine ye ?_
              replace b2 := (b2.past hbV2)
              refine yl 1 rfl 10 b2 hT3 1 ?_
              refine yv 0 rfl 11 (.int .i64 ((P : Nat) : Int)) ?_ (exec_shl (X := (1)) (Y := ((f.E : Nat) : Int)) (k2 := .i64) ((P : Nat) : Int) (by kernel_rfl) (by kernel_rfl) (by omega) ((HSH.out)))
              refine ya 0 rfl 12 .i64 (((P : Nat) : Int) - 1) (((P - 1 : Nat) : Int)) ((by rw [show (((P : Nat) : Int) - 1) = ((P - 1 : Nat) : Int) by omega]; exact IntWalk.i64_in _ (by omega))) ?_
              refine yzt 1 ?_
              refine ye ?_
              refine yl 2 rfl 15 b2 hT3 5 ?_
              refine yzt 1 ?_
              refine wp_seq ?_
              refine wp_block ?_
              refine ye ?_
              refine yl 2 rfl 19 b2 hT3 3 ?_
              refine yb 0 rfl 20 (f.g.rad == 16) (false) (hr) ?_
              refine yzt 1 ?_
              refine yF ?_
              refine ye ?_
              refine ylb 1 rfl 29 b2 hT4 9 (f.inf) true (hinf) ?_
              refine yl 2 rfl 32 b3 hT3 1 ?_
              refine yb 1 rfl 34 (((e : Nat) : Int) == ((P - 1 : Nat) : Int)) (false) (beq_eq_false_iff_ne.2 (by omega)) ?_
              refine yzt 2 ?_
              refine yF ?_
              refine ye ?_
              refine yl 1 rfl 58 b3 hT3 1 ?_
              refine yb 0 rfl 59 (((e : Nat) : Int) == 0) (false) (beq_eq_false_iff_ne.2 (by omega)) ?_
              refine yzt 5 ?_
              refine yF ?_
              refine ye ?_
              refine yl 1 rfl 68 b3 hT3 1 ?_
              refine yb 0 rfl 69 (((e : Nat) : Int) == 0) (false) (beq_eq_false_iff_ne.2 (by omega)) ?_
              refine yzt 1 ?_
              refine yF ?_
              refine ye ?_
              refine ylb 1 rfl 75 b2 hT4 8 (f.hid) false (hhid) ?_
              refine yzt 1 ?_
              refine yF ?_
              refine ye ?_
              refine yl 1 rfl 89 b3 hT23 2 ?_
              replace hp := (hp.past (bthru hbV1 hbV2))
              refine yc 0 rfl 90 (stay (len_any p _ c x V2 hp.rd rfl (by omega))) (fun Gx hGx => ?_)
              rintro eV3 V3 ⟨rfl, hbV3⟩
              have hzV3 := hbV3.size
              refine ⟨_, rfl, hGx _ _ ?_⟩
              clear hGx Gx
              refine yb 0 rfl 91 (decide (((blen x : Nat) : Int) < 64)) (false) (decide_eq_false (by omega)) ?_
              refine yzt 1 ?_
              refine yF ?_
              refine wp_skip ?_
              refine sx_inblock ?_
              refine sx_then ?_
              refine wp_seq ?_
              replace b3 := (b3.past hbV3)
              obtain ⟨V4, hVV4, hbV4, hzV4⟩ := drew_of V3
              replace b3 := (b3.past hbV4)
              refine yd1 hVV4 b3 ?_
              clear hVV4
              refine yt 9 [0] rfl b3 ?_
              refine ytl 1 rfl 93 (fun _ h => h) hT23 2 b3 ?_
              refine yt 6 [2, 3] rfl b3 ?_
              refine ytl 4 rfl 96 (fun _ h => h) hT3 1 b3 ?_
              refine tk 5 97 (.int .i64 (f.g.lo + ((e : Nat) : Int))) b3 ?_ (hy := fun w' _ => ((show _ = Result.ok (Next.value (.int .i64 (IntKind.wrap .i64 (f.g.lo + ((e : Nat) : Int))))) _ by kernel_rfl).trans (congrArg (fun z => Result.ok (Next.value (.int .i64 z)) _) (IntWalk.i64_in _ (by omega)))))
              refine tk 6 98 (.int .i64 ((f.g.lo + ((e : Nat) : Int)) - 1)) b3 ?_ (hy := fun w' _ => ((show _ = Result.ok (Next.value (.int .i64 (IntKind.wrap .i64 ((f.g.lo + ((e : Nat) : Int)) - 1)))) _ by kernel_rfl).trans (congrArg (fun z => Result.ok (Next.value (.int .i64 z)) _) (IntWalk.i64_in _ (by omega)))))
              refine yt 0 [7, 8, 9] rfl b3 ?_
              refine sx_done (by kernel_rfl) ?_
              refine sx_then ?_
              refine wp_ret ?_
              repeat (first | with_reducible refine sx_thenret ?_ | with_reducible refine sx_blockret ?_)
              refine yret (.tuple #[.int .i64 2, .slice p (dig B32 x).length c, .int .i64 ((f.g.lo + ((e : Nat) : Int)) - 1)]) (res3 Tryd.results107 rvt rvt rvt) ?_
              replace hp := (hp.past (bthru hbV3 hbV4))
              exact ⟨p, c, rfl, hp, (bthru (bthru (bthru hbV1 hbV2) hbV3) hbV4)⟩
    · have f3 : f.fam = 3 := by have := G.fam; omega
      have hex : f.ext = false := by
        cases hh : f.ext with
        | false => rfl
        | true => exact absurd (G.ext hh).1 f1
      have hinf : f.inf = false := by unfold Fm.inf; rw [f3]; rfl
      have hres : f.res = true := by unfold Fm.res; rw [f3]; rfl
      have hhid : f.hid = true := by unfold Fm.hid; rw [f3, hex]; rfl
      by_cases h0 : e = 0
      · cases g with
        | true =>
          have hD : f.dec true e x = ⟨5, 0, 0⟩ := by unfold Fm.dec; rw [if_neg f2, if_neg (fun h => f1 h.1), if_pos ⟨f3, h0⟩, if_pos rfl]
          rw [hD]
          generalize 2 ^ f.E = P at *
          have hT3 : SxOne Tryd.prog 3 := sxOne_of (by kernel_rfl) (by kernel_rfl)
          have hT4 : SxOne Tryd.prog 4 := sxOne_of (by kernel_rfl) (by kernel_rfl)
          refine calls_of_wp Tryd.func107 rfl ?_
          refine sx_frame (a' := ⟨((.agg #[.int .i64 ((f.size : Nat) : Int), .int .i64 ((f.E : Nat) : Int), .int .i64 ((f.F : Nat) : Int), .int .i64 f.g.rad, .int .i64 f.g.digs, .int .i64 f.g.lo, .int .i64 f.g.hi, .bool f.g.grad, .bool f.hid, .bool f.inf, .bool f.res, .func (.func (ordF f)) #[] #[]]) :: (.agg #[.bool true, .int .i64 ((e : Nat) : Int), .slice p (dig B32 x).length c]) :: us 97 []).toArray, []⟩) (by kernel_rfl) ?_
          refine ye ?_
          refine yw 0 rfl 2 #[.int .i64 ((f.size : Nat) : Int), .int .i64 ((f.E : Nat) : Int), .int .i64 ((f.F : Nat) : Int), .int .i64 f.g.rad, .int .i64 f.g.digs, .int .i64 f.g.lo, .int .i64 f.g.hi, .bool f.g.grad, .bool f.hid, .bool f.inf, .bool f.res, .func (.func (ordF f)) #[] #[]] 116 (fun V1 hbV1 hzV1 b2 => ?_)
          refine yw 0 rfl 3 #[.bool true, .int .i64 ((e : Nat) : Int), .slice p (dig B32 x).length c] 137 (fun V2 hbV2 hzV2 b3 => ?_)
          refine yzt 3 ?_
          refine ye ?_
          replace b2 := (b2.past hbV2)
          refine yl 1 rfl 10 b2 hT3 1 ?_
          refine yv 0 rfl 11 (.int .i64 ((P : Nat) : Int)) ?_ (exec_shl (X := (1)) (Y := ((f.E : Nat) : Int)) (k2 := .i64) ((P : Nat) : Int) (by kernel_rfl) (by kernel_rfl) (by omega) ((HSH.out)))
          refine ya 0 rfl 12 .i64 (((P : Nat) : Int) - 1) (((P - 1 : Nat) : Int)) ((by rw [show (((P : Nat) : Int) - 1) = ((P - 1 : Nat) : Int) by omega]; exact IntWalk.i64_in _ (by omega))) ?_
          refine yzt 1 ?_
          refine ye ?_
          refine yl 2 rfl 15 b2 hT3 5 ?_
          refine yzt 1 ?_
          refine wp_seq ?_
          refine wp_block ?_
          refine ye ?_
          refine yl 2 rfl 19 b2 hT3 3 ?_
          refine yb 0 rfl 20 (f.g.rad == 16) (false) (hr) ?_
          refine yzt 1 ?_
          refine yF ?_
          refine ye ?_
          refine ylb 1 rfl 29 b2 hT4 9 (f.inf) false (hinf) ?_
          refine yzt 7 ?_
          refine yF ?_
          refine ye ?_
          refine yl 1 rfl 58 b3 hT3 1 ?_
          refine yb 0 rfl 59 (((e : Nat) : Int) == 0) (true) (beq_iff_eq.2 (by omega)) ?_
          refine ylb 2 rfl 62 b2 hT4 10 (f.res) true (hres) ?_
          refine yzt 2 ?_
          refine yT ?_
          refine wp_seq ?_
          refine ye ?_
          refine yl 1 rfl 65 b3 hT4 0 ?_
          refine yzt 0 ?_
          refine yT ?_
          refine yq ?_
          refine wp_ret ?_
          repeat (first | with_reducible refine sx_thenret ?_ | with_reducible refine sx_blockret ?_)
          refine yret (.tuple #[.int .i64 5, .slice none 0 0, .int .i64 0]) (res3 Tryd.results107 rvt rvt rvt) ?_
          exact givesC_none (k := 5) rfl (bthru hbV1 hbV2)
        | false =>
          have hD : f.dec false e x = ⟨1, 0, 0⟩ := by unfold Fm.dec; rw [if_neg f2, if_neg (fun h => f1 h.1), if_pos ⟨f3, h0⟩, if_neg (by simp)]
          rw [hD]
          generalize 2 ^ f.E = P at *
          have hT3 : SxOne Tryd.prog 3 := sxOne_of (by kernel_rfl) (by kernel_rfl)
          have hT4 : SxOne Tryd.prog 4 := sxOne_of (by kernel_rfl) (by kernel_rfl)
          refine calls_of_wp Tryd.func107 rfl ?_
          refine sx_frame (a' := ⟨((.agg #[.int .i64 ((f.size : Nat) : Int), .int .i64 ((f.E : Nat) : Int), .int .i64 ((f.F : Nat) : Int), .int .i64 f.g.rad, .int .i64 f.g.digs, .int .i64 f.g.lo, .int .i64 f.g.hi, .bool f.g.grad, .bool f.hid, .bool f.inf, .bool f.res, .func (.func (ordF f)) #[] #[]]) :: (.agg #[.bool false, .int .i64 ((e : Nat) : Int), .slice p (dig B32 x).length c]) :: us 97 []).toArray, []⟩) (by kernel_rfl) ?_
          refine ye ?_
          refine yw 0 rfl 2 #[.int .i64 ((f.size : Nat) : Int), .int .i64 ((f.E : Nat) : Int), .int .i64 ((f.F : Nat) : Int), .int .i64 f.g.rad, .int .i64 f.g.digs, .int .i64 f.g.lo, .int .i64 f.g.hi, .bool f.g.grad, .bool f.hid, .bool f.inf, .bool f.res, .func (.func (ordF f)) #[] #[]] 116 (fun V1 hbV1 hzV1 b2 => ?_)
          refine yw 0 rfl 3 #[.bool false, .int .i64 ((e : Nat) : Int), .slice p (dig B32 x).length c] 137 (fun V2 hbV2 hzV2 b3 => ?_)
          refine yzt 3 ?_
          refine ye ?_
          replace b2 := (b2.past hbV2)
          refine yl 1 rfl 10 b2 hT3 1 ?_
          refine yv 0 rfl 11 (.int .i64 ((P : Nat) : Int)) ?_ (exec_shl (X := (1)) (Y := ((f.E : Nat) : Int)) (k2 := .i64) ((P : Nat) : Int) (by kernel_rfl) (by kernel_rfl) (by omega) ((HSH.out)))
          refine ya 0 rfl 12 .i64 (((P : Nat) : Int) - 1) (((P - 1 : Nat) : Int)) ((by rw [show (((P : Nat) : Int) - 1) = ((P - 1 : Nat) : Int) by omega]; exact IntWalk.i64_in _ (by omega))) ?_
          refine yzt 1 ?_
          refine ye ?_
          refine yl 2 rfl 15 b2 hT3 5 ?_
          refine yzt 1 ?_
          refine wp_seq ?_
          refine wp_block ?_
          refine ye ?_
          refine yl 2 rfl 19 b2 hT3 3 ?_
          refine yb 0 rfl 20 (f.g.rad == 16) (false) (hr) ?_
          refine yzt 1 ?_
          refine yF ?_
          refine ye ?_
          refine ylb 1 rfl 29 b2 hT4 9 (f.inf) false (hinf) ?_
          refine yzt 7 ?_
          refine yF ?_
          refine ye ?_
          refine yl 1 rfl 58 b3 hT3 1 ?_
          refine yb 0 rfl 59 (((e : Nat) : Int) == 0) (true) (beq_iff_eq.2 (by omega)) ?_
          refine ylb 2 rfl 62 b2 hT4 10 (f.res) true (hres) ?_
          refine yzt 2 ?_
          refine yT ?_
          refine wp_seq ?_
          refine ye ?_
          refine yl 1 rfl 65 b3 hT4 0 ?_
          refine yzt 0 ?_
          refine yF ?_
          refine wp_skip ?_
          refine sx_then ?_
          refine yq ?_
          refine wp_ret ?_
          repeat (first | with_reducible refine sx_thenret ?_ | with_reducible refine sx_blockret ?_)
          refine yret (.tuple #[.int .i64 1, .slice none 0 0, .int .i64 0]) (res3 Tryd.results107 rvt rvt rvt) ?_
          exact givesC_none (k := 1) rfl (bthru hbV1 hbV2)
      · have hD : f.dec g e x = ⟨2, x + 2 ^ f.F, f.g.lo + e - 1⟩ := by unfold Fm.dec; rw [if_neg f2, if_neg (fun h => f1 h.1), if_neg (fun h => h0 h.2), if_neg h0, if_pos hex]
        have hlF : (dig B32 (2 ^ f.F)).length ≤ 3 := dig_le_pow (n := f.F + 1) (Nat.pow_lt_pow_right (by omega) (by omega)) (by omega)
        rw [hD]
        generalize 2 ^ f.E = P at *
        have hT3 : SxOne Tryd.prog 3 := sxOne_of (by kernel_rfl) (by kernel_rfl)
        have hT4 : SxOne Tryd.prog 4 := sxOne_of (by kernel_rfl) (by kernel_rfl)
        have hT23 : SxOne Tryd.prog 23 := sxOne_of (by kernel_rfl) (by kernel_rfl)
        refine calls_of_wp Tryd.func107 rfl ?_
        refine sx_frame (a' := ⟨((.agg #[.int .i64 ((f.size : Nat) : Int), .int .i64 ((f.E : Nat) : Int), .int .i64 ((f.F : Nat) : Int), .int .i64 f.g.rad, .int .i64 f.g.digs, .int .i64 f.g.lo, .int .i64 f.g.hi, .bool f.g.grad, .bool f.hid, .bool f.inf, .bool f.res, .func (.func (ordF f)) #[] #[]]) :: (.agg #[.bool g, .int .i64 ((e : Nat) : Int), .slice p (dig B32 x).length c]) :: us 97 []).toArray, []⟩) (by kernel_rfl) ?_
        refine ye ?_
        refine yw 0 rfl 2 #[.int .i64 ((f.size : Nat) : Int), .int .i64 ((f.E : Nat) : Int), .int .i64 ((f.F : Nat) : Int), .int .i64 f.g.rad, .int .i64 f.g.digs, .int .i64 f.g.lo, .int .i64 f.g.hi, .bool f.g.grad, .bool f.hid, .bool f.inf, .bool f.res, .func (.func (ordF f)) #[] #[]] 116 (fun V1 hbV1 hzV1 b2 => ?_)
        refine yw 0 rfl 3 #[.bool g, .int .i64 ((e : Nat) : Int), .slice p (dig B32 x).length c] 137 (fun V2 hbV2 hzV2 b3 => ?_)
        refine yzt 3 ?_
        refine ye ?_
        replace b2 := (b2.past hbV2)
        refine yl 1 rfl 10 b2 hT3 1 ?_
        refine yv 0 rfl 11 (.int .i64 ((P : Nat) : Int)) ?_ (exec_shl (X := (1)) (Y := ((f.E : Nat) : Int)) (k2 := .i64) ((P : Nat) : Int) (by kernel_rfl) (by kernel_rfl) (by omega) ((HSH.out)))
        refine ya 0 rfl 12 .i64 (((P : Nat) : Int) - 1) (((P - 1 : Nat) : Int)) ((by rw [show (((P : Nat) : Int) - 1) = ((P - 1 : Nat) : Int) by omega]; exact IntWalk.i64_in _ (by omega))) ?_
        refine yzt 1 ?_
        refine ye ?_
        refine yl 2 rfl 15 b2 hT3 5 ?_
        refine yzt 1 ?_
        refine wp_seq ?_
        refine wp_block ?_
        refine ye ?_
        refine yl 2 rfl 19 b2 hT3 3 ?_
        refine yb 0 rfl 20 (f.g.rad == 16) (false) (hr) ?_
        refine yzt 1 ?_
        refine yF ?_
        refine ye ?_
        refine ylb 1 rfl 29 b2 hT4 9 (f.inf) false (hinf) ?_
        refine yzt 7 ?_
        refine yF ?_
        refine ye ?_
        refine yl 1 rfl 58 b3 hT3 1 ?_
        refine yb 0 rfl 59 (((e : Nat) : Int) == 0) (false) (beq_eq_false_iff_ne.2 (by omega)) ?_
        refine yzt 5 ?_
        refine yF ?_
        refine ye ?_
        refine yl 1 rfl 68 b3 hT3 1 ?_
        refine yb 0 rfl 69 (((e : Nat) : Int) == 0) (false) (beq_eq_false_iff_ne.2 (by omega)) ?_
        refine yzt 1 ?_
        refine yF ?_
        refine ye ?_
        refine ylb 1 rfl 75 b2 hT4 8 (f.hid) true (hhid) ?_
        refine yzt 1 ?_
        refine yT ?_
        refine wp_seq ?_
        obtain ⟨V3, hVV3, hbV3, hzV3⟩ := drew_of V2
        replace b3 := (b3.past hbV3)
        replace b2 := (b2.past hbV3)
        refine yd2 hVV3 ⟨b3, b2⟩ ?_
        clear hVV3
        refine yt 13 [0] rfl ⟨b3, b2⟩ ?_
        refine ytl 1 rfl 77 (fun _ h => h.1) hT23 2 ⟨b3, b2⟩ ?_
        refine yt 11 [2] rfl ⟨b3, b2⟩ ?_
        refine ytl 3 rfl 79 (fun _ h => h.2) hT3 2 ⟨b3, b2⟩ ?_
        refine yt 8 [6, 7] rfl ⟨b3, b2⟩ ?_
        refine ytl 8 rfl 84 (fun _ h => h.1) hT3 1 ⟨b3, b2⟩ ?_
        refine tk 9 85 (.int .i64 (f.g.lo + ((e : Nat) : Int))) ⟨b3, b2⟩ ?_ (hy := fun w' _ => ((show _ = Result.ok (Next.value (.int .i64 (IntKind.wrap .i64 (f.g.lo + ((e : Nat) : Int))))) _ by kernel_rfl).trans (congrArg (fun z => Result.ok (Next.value (.int .i64 z)) _) (IntWalk.i64_in _ (by omega)))))
        refine tk 10 86 (.int .i64 ((f.g.lo + ((e : Nat) : Int)) - 1)) ⟨b3, b2⟩ ?_ (hy := fun w' _ => ((show _ = Result.ok (Next.value (.int .i64 (IntKind.wrap .i64 ((f.g.lo + ((e : Nat) : Int)) - 1)))) _ by kernel_rfl).trans (congrArg (fun z => Result.ok (Next.value (.int .i64 z)) _) (IntWalk.i64_in _ (by omega)))))
        refine sxr [4] ?_
        refine rd1 (fun Kx hKx => ?_)
        refine yck 80 (two_any f.F (2 ^ f.F) _ V3 (by omega) rfl rfl) ?_
        rintro eV4 V4 ⟨p80, c80, rfl, o80, hbV4⟩
        have hzV4 := hbV4.size
        refine ⟨_, rfl, ?_⟩
        replace b3 := (b3.past hbV4)
        replace b2 := (b2.past hbV4)
        refine hKx.out _ _ ⟨b3, b2⟩ ?_
        clear hKx Kx
        refine sxr [5] ?_
        refine rd1 (fun Kx hKx => ?_)
        replace hp := (hp.past (bthru (bthru (bthru hbV1 hbV2) hbV3) hbV4))
        refine yck 81 (sadd p p80 _ _ c c80 x (2 ^ f.F) (x + 2 ^ f.F) V4 hp.rd o80.rd rfl rfl (by omega) (by omega) rfl) ?_
        rintro eV5 V5 ⟨p81, c81, rfl, o81, hbV5⟩
        have hzV5 := hbV5.size
        refine ⟨_, rfl, ?_⟩
        replace b3 := (b3.past hbV5)
        replace b2 := (b2.past hbV5)
        refine hKx.out _ _ ⟨b3, b2⟩ ?_
        clear hKx Kx
        refine yt 0 [11, 12, 13] rfl ⟨b3, b2⟩ ?_
        refine sx_done (by kernel_rfl) ?_
        refine sx_then ?_
        refine wp_ret ?_
        repeat (first | with_reducible refine sx_thenret ?_ | with_reducible refine sx_blockret ?_)
        refine yret (.tuple #[.int .i64 2, .slice p81 (dig B32 (x + 2 ^ f.F)).length c81, .int .i64 ((f.g.lo + ((e : Nat) : Int)) - 1)]) (res3 Tryd.results107 rvt rvt rvt) ?_
        exact ⟨p81, c81, rfl, o81.mono (by omega), (bthru (bthru (bthru (bthru hbV1 hbV2) hbV3) hbV4) hbV5)⟩

theorem cbare_any (p : Option Addr) (c x : Nat) (pw : Int) (gg : Gd) (base : Nat) (w : World) (hp : Own w base .u32 91 p c (dig B32 x)) (hl : (dig B32 x).length ≤ 1000) (hpw : -100000 ≤ pw ∧ pw ≤ 100000) (hr : gg.rad = 2 ∨ gg.rad = 16) (hT : TabW w) :
    Calls Tryd.prog 108 #[.slice p (dig B32 x).length c, .int .i64 pw, .int .i64 gg.rad] w
      fun en w' => ∃ q d, en = .returned (.tuple #[.slice q (dig B32 (x / 2 ^ (tz x / wid gg * wid gg))).length d, .int .i64 (pw + (tz x / wid gg : Nat))]) ∧ Own w' w.heap.size .u32 91 q d (dig B32 (x / 2 ^ (tz x / wid gg * wid gg))) ∧ Below w.heap.size w w' := by
  have hz := tz_bd x hl
  rcases hr with hr | hr
  · have hw : wid gg = 1 := by unfold wid; rw [hr]; rfl
    rw [hw]
    generalize htz : tz x = z at *
    have HTZ := Lib.hid htz
    clear htz
    refine calls_of_wp Tryd.func108 rfl ?_
    refine sx_frame (a' := ⟨((.slice p (dig B32 x).length c) :: (.int .i64 pw) :: (.int .i64 gg.rad) :: us 21 []).toArray, []⟩) (by kernel_rfl) ?_
    refine yq ?_
    refine yq ?_
    refine wp_seq ?_
    refine ye ?_
    refine yb 1 rfl 11 (gg.rad == 16) (false) (by rw [hr]; rfl) ?_
    refine yzt 0 ?_
    refine yF ?_
    refine wp_skip ?_
    refine sx_then ?_
    refine ye ?_
    refine yc 1 rfl 13 (stay (zeros_any p _ c x w hp.rd rfl (by omega) hT)) (fun Gx hGx => ?_)
    rintro eV1 V1 ⟨rfl, hbV1⟩
    have hzV1 := hbV1.size
    refine ⟨_, rfl, hGx _ _ ?_⟩
    clear hGx Gx
    refine yv 1 rfl 15 (.int .i64 ((z / 1 : Nat) : Int)) ?_ (exec_quo (X := ((tz x : Nat) : Int)) (Y := (1)) ((z / 1 : Nat) : Int) (by kernel_rfl) (by kernel_rfl) ((by decide)) ((by rw [HTZ.out]; exact (IntWalk.i64_in _ (by simp; omega)).trans (by simp))))
    refine yzt 1 ?_
    refine ye ?_
    refine ya 3 rfl 19 .i64 (((z / 1 : Nat) : Int) * 1) (((z / 1 * 1 : Nat) : Int)) (((IntWalk.i64_in _ (by omega)).trans (by omega))) ?_
    replace hp := (hp.past hbV1)
    refine yc 0 rfl 20 (sshr p _ c x (z / 1 * 1) _ _ V1 hp.rd rfl (by have := hp.le_cap; omega) (by omega) (by omega) rfl rfl) (fun Gx hGx => ?_)
    rintro eV2 V2 ⟨p20, c20, rfl, o20, hbV2⟩
    have hzV2 := hbV2.size
    refine ⟨_, rfl, hGx _ _ ?_⟩
    clear hGx Gx
    refine yi 2 rfl 23 (pw + ((z / 1 : Nat) : Int)) ?_
    refine yzt 2 ?_
    refine wp_ret ?_
    repeat (first | with_reducible refine sx_thenret ?_ | with_reducible refine sx_blockret ?_)
    refine yret (.tuple #[.slice p20 (dig B32 (x / 2 ^ (z / 1 * 1))).length c20, .int .i64 (pw + ((z / 1 : Nat) : Int))]) (res2 Tryd.results108 rvt rvt) ?_
    exact ⟨p20, c20, rfl, o20.mono (by omega), (bthru hbV1 hbV2)⟩
  · have hw : wid gg = 4 := by unfold wid; rw [hr]; rfl
    rw [hw]
    generalize htz : tz x = z at *
    have HTZ := Lib.hid htz
    clear htz
    refine calls_of_wp Tryd.func108 rfl ?_
    refine sx_frame (a' := ⟨((.slice p (dig B32 x).length c) :: (.int .i64 pw) :: (.int .i64 gg.rad) :: us 21 []).toArray, []⟩) (by kernel_rfl) ?_
    refine yq ?_
    refine yq ?_
    refine wp_seq ?_
    refine ye ?_
    refine yb 1 rfl 11 (gg.rad == 16) (true) (by rw [hr]; rfl) ?_
    refine yzt 0 ?_
    refine yT ?_
    refine yr ?_
    refine sx_then ?_
    refine ye ?_
    refine yc 1 rfl 13 (stay (zeros_any p _ c x w hp.rd rfl (by omega) hT)) (fun Gx hGx => ?_)
    rintro eV1 V1 ⟨rfl, hbV1⟩
    have hzV1 := hbV1.size
    refine ⟨_, rfl, hGx _ _ ?_⟩
    clear hGx Gx
    refine yv 1 rfl 15 (.int .i64 ((z / 4 : Nat) : Int)) ?_ (exec_quo (X := ((tz x : Nat) : Int)) (Y := (4)) ((z / 4 : Nat) : Int) (by kernel_rfl) (by kernel_rfl) ((by decide)) ((by rw [HTZ.out, show ((z : Nat) : Int).tdiv 4 = ((z / 4 : Nat) : Int) by rw [Int.tdiv_eq_ediv_of_nonneg (by omega)]; rfl]; exact IntWalk.i64_in _ (by omega))))
    refine yzt 1 ?_
    refine ye ?_
    refine ya 3 rfl 19 .i64 (((z / 4 : Nat) : Int) * 4) (((z / 4 * 4 : Nat) : Int)) (((IntWalk.i64_in _ (by omega)).trans (by omega))) ?_
    replace hp := (hp.past hbV1)
    refine yc 0 rfl 20 (sshr p _ c x (z / 4 * 4) _ _ V1 hp.rd rfl (by have := hp.le_cap; omega) (by omega) (by omega) rfl rfl) (fun Gx hGx => ?_)
    rintro eV2 V2 ⟨p20, c20, rfl, o20, hbV2⟩
    have hzV2 := hbV2.size
    refine ⟨_, rfl, hGx _ _ ?_⟩
    clear hGx Gx
    refine yi 2 rfl 23 (pw + ((z / 4 : Nat) : Int)) ?_
    refine yzt 2 ?_
    refine wp_ret ?_
    repeat (first | with_reducible refine sx_thenret ?_ | with_reducible refine sx_blockret ?_)
    refine yret (.tuple #[.slice p20 (dig B32 (x / 2 ^ (z / 4 * 4))).length c20, .int .i64 (pw + ((z / 4 : Nat) : Int))]) (res2 Tryd.results108 rvt rvt) ?_
    exact ⟨p20, c20, rfl, o20.mono (by omega), (bthru hbV1 hbV2)⟩
end Go.Proofs.YtcipdimogodndaaDoor

namespace Go.Proofs.YtcipdimogodndaaDoor
open Go.RowKit Go.Slip

def GivesVb (w : World) (v : Vl) (g : Bool) (en : Ending) (w' : World) : Prop :=
  ∃ p c, en = .returned (.tuple #[.agg #[.int .i64 ((v.cls : Nat) : Int), .bool v.neg, .slice p (dig B32 v.d).length c, .int .i64 v.pow], .bool g]) ∧ Own w' w.heap.size .u32 91 p c (dig B32 v.d) ∧ Below w.heap.size w w'
theorem givesVb_of {w w' : World} {v : Vl} {k : Nat} {n g : Bool} {p : Option Addr} {c d base : Nat} {x : Int} {en : Ending} (hv : v = ⟨k, n, d, x⟩) (h : en = .returned (.tuple #[.agg #[.int .i64 ((k : Nat) : Int), .bool n, .slice p (dig B32 d).length c, .int .i64 x], .bool g]))
    (ho : Own w' base .u32 91 p c (dig B32 d)) (hB : w.heap.size ≤ base) (hb : Below w.heap.size w w') : GivesVb w v g en w' := by
  subst hv
  exact ⟨p, c, h, ho.mono hB, hb⟩
theorem givesVb_none {w w' : World} {v : Vl} {k : Nat} {n g : Bool} {en : Ending} (hv : v = ⟨k, n, 0, 0⟩) (h : en = .returned (.tuple #[.agg #[.int .i64 ((k : Nat) : Int), .bool n, .slice none 0 0, .int .i64 0], .bool g])) (hb : Below w.heap.size w w') : GivesVb w v g en w' :=
  givesVb_of (p := none) (c := 0) (base := w.heap.size) hv (by rw [h, dig_zero]; rfl) (by rw [dig_zero]; exact Own.nil _ _ _ _) (Nat.le_refl _) hb

set_option maxRecDepth 100000 in
theorem decode_any (f : Fm) (s : ByteArray) (w : World) (G : GoodF f) (hs : s.size = f.size) (hT : TabW w) :
    Calls Tryd.prog 59 #[.agg #[.int .i64 ((f.size : Nat) : Int), .int .i64 ((f.E : Nat) : Int), .int .i64 ((f.F : Nat) : Int), .int .i64 f.g.rad, .int .i64 f.g.digs, .int .i64 f.g.lo, .int .i64 f.g.hi, .bool f.g.grad, .bool f.hid, .bool f.inf, .bool f.res, .func (.func (ordF f)) #[] #[]], .string s] w (GivesVb w (f.valN (numOfS f s)) (f.neg (numOfS f s))) := by
  have z2 := G.f2
  have he : f.exp (numOfS f s) < 2 ^ f.E := Nat.mod_lt _ (Nat.pow_pos (by omega))
  have hx : f.frac (numOfS f s) < 2 ^ f.F := Nat.mod_lt _ (Nat.pow_pos (by omega))
  have HS := fun W => Lib.hid (split_any f s W G hs)
  unfold Fm.valN Fm.decN
  generalize f.neg (numOfS f s) = g at *
  generalize f.exp (numOfS f s) = e at *
  generalize f.frac (numOfS f s) = x at *
  have HV := fun p c base W h1 h2 => Lib.hid (value_any f g e x p c base W G h1 h2 he hx)
  have k1 := dec_cls f g e x
  have k2 := dec_m (f := f) g (e := e) hx
  have k3 := dec_p G g (frac := x) he
  have k4 := dig_le_pow k2 (k := 3) (by omega)
  have hrd : f.g.rad = 2 ∨ f.g.rad = 16 := by have := G.rad; split at this <;> omega
  clear k2
  generalize f.dec g e x = D at *
  obtain ⟨k, m, pw⟩ := D
  simp only at k1 k3 k4
  have hm0 := dig_len_zero B32_two m
  rcases k1 with rfl | rfl | rfl | rfl | rfl
  · have hv : f.vl g ⟨1, m, pw⟩ = ⟨1, g, 0, 0⟩ := by unfold Fm.vl Dc.c; simp
    have hT3 : SxOne Tryd.prog 3 := sxOne_of (by kernel_rfl) (by kernel_rfl)
    have hT4 : SxOne Tryd.prog 4 := sxOne_of (by kernel_rfl) (by kernel_rfl)
    have hT56 : SxAgg Tryd.prog 56 4 := sxAgg_of (by kernel_rfl) (by kernel_rfl)
    have hT116 : SxAgg Tryd.prog 116 12 := sxAgg_of (by kernel_rfl) (by kernel_rfl)
    have hT137 : SxAgg Tryd.prog 137 3 := sxAgg_of (by kernel_rfl) (by kernel_rfl)
    refine calls_of_wp Tryd.func59 rfl ?_
    refine sx_frame (a' := ⟨((.agg #[.int .i64 ((f.size : Nat) : Int), .int .i64 ((f.E : Nat) : Int), .int .i64 ((f.F : Nat) : Int), .int .i64 f.g.rad, .int .i64 f.g.digs, .int .i64 f.g.lo, .int .i64 f.g.hi, .bool f.g.grad, .bool f.hid, .bool f.inf, .bool f.res, .func (.func (ordF f)) #[] #[]]) :: (.string s) :: us 56 []).toArray, []⟩) (by kernel_rfl) ?_
    refine ye ?_
    refine yw 0 rfl 2 #[.int .i64 ((f.size : Nat) : Int), .int .i64 ((f.E : Nat) : Int), .int .i64 ((f.F : Nat) : Int), .int .i64 f.g.rad, .int .i64 f.g.digs, .int .i64 f.g.lo, .int .i64 f.g.hi, .bool f.g.grad, .bool f.hid, .bool f.inf, .bool f.res, .func (.func (ordF f)) #[] #[]] 116 (fun V1 hbV1 hzV1 b2 => ?_)
    refine yw 0 rfl 4 #[.int .i64 0, .bool false, .slice none 0 0, .int .i64 0] 56 (fun V2 hbV2 hzV2 b4 => ?_)
    refine yzt 1 ?_
    refine ye ?_
    replace b2 := (b2.past hbV2)
    refine yla 0 rfl 11 b2 hT116 0 ?_
    refine yc 1 rfl 13 ((HS V2).out) (fun Gx hGx => ?_)
    rintro eV3 V3 ⟨p13, c13, rfl, o13, hbV3⟩
    have hzV3 := hbV3.size
    refine ⟨_, rfl, hGx _ _ ?_⟩
    clear hGx Gx
    refine yw 0 rfl 6 #[.bool false, .int .i64 0, .slice none 0 0] 137 (fun V4 hbV4 hzV4 b6 => ?_)
    have boV5 := b6
    refine ysw 0 rfl b6 hT137 #[.bool g, .int .i64 ((e : Nat) : Int), .slice p13 (dig B32 x).length c13] ?_
    clear b6
    intro V5 hOV5 b6
    have hzV5 := hOV5.size
    refine yzt 0 ?_
    refine ye ?_
    replace b2 := (b2.past ((bthru hbV3 hbV4).trans (hOV5.below (by omega))))
    refine yla 0 rfl 15 b2 hT116 0 ?_
    refine yla 0 rfl 16 b6 hT137 0 ?_
    replace o13 := (o13.past (hbV4.trans (hOV5.below (by omega))))
    refine yc 0 rfl 17 ((HV p13 c13 _ V5 o13 (by omega)).out) (fun Gx hGx => ?_)
    rintro eV6 V6 ⟨p17, c17, rfl, o17, hbV6⟩
    have hzV6 := hbV6.size
    refine ⟨_, rfl, hGx _ _ ?_⟩
    clear hGx Gx
    refine yzt 7 ?_
    refine ye ?_
    refine yw 2 rfl 10 #[.int .i64 0, .bool false, .slice none 0 0, .int .i64 0] 56 (fun V7 hbV7 hzV7 b10 => ?_)
    have boV8 := b10
    refine ysw 0 rfl b10 hT56 #[.int .i64 1, .bool false, .slice none 0 0, .int .i64 0] ?_
    clear b10
    intro V8 hOV8 b10
    have hzV8 := hOV8.size
    refine yzt 0 ?_
    refine wp_seq ?_
    refine yq ?_
    refine yF ?_
    refine wp_skip ?_
    refine sx_then ?_
    refine wp_seq ?_
    refine ye ?_
    refine yl 1 rfl 32 b10 hT3 0 ?_
    refine yzt 0 ?_
    refine wp_block ?_
    refine yq ?_
    refine yF ?_
    refine wp_seq ?_
    refine yq ?_
    refine yT ?_
    refine wp_skip ?_
    refine sx_then ?_
    refine yT ?_
    refine sx_region ?_
    replace b6 := (b6.past ((bthru hbV6 hbV7).trans (hOV8.below (by omega))))
    refine yl 1 rfl 53 b6 hT4 0 ?_
    have boV9 := b10
    refine ys1 1 rfl b10 hT4 1 (.bool g) #[.int .i64 1, .bool g, .slice none 0 0, .int .i64 0] ?_
    clear b10
    intro V9 hOV9 b10
    have hzV9 := hOV9.size
    refine yz 0 ?_
    refine sx_inblock ?_
    refine sx_then ?_
    refine wp_seq ?_
    replace b6 := (b6.only hOV9 (by omega))
    obtain ⟨V10, hVV10, hbV10, hzV10⟩ := drew_of V9
    replace b10 := (b10.past hbV10)
    replace b6 := (b6.past hbV10)
    refine yd2 hVV10 ⟨b10, b6⟩ ?_
    clear hVV10
    refine ytla 0 rfl 55 (fun _ h => h.1) hT56 0 ⟨b10, b6⟩ ?_
    refine yt 3 [1] rfl ⟨b10, b6⟩ ?_
    refine ytl 2 rfl 57 (fun _ h => h.2) hT4 0 ⟨b10, b6⟩ ?_
    refine sxr [3] ?_
    refine rd1 (fun Kx hKx => ?_)
    replace b4 := (b4.past (bthru (((bthru (bthru ((bthru hbV3 hbV4).trans (hOV5.below (by omega))) hbV6) hbV7).trans (hOV8.below (by omega))).trans (hOV9.below (by omega))) hbV10))
    refine ssk none b4 hT56 0 #[.int .i64 1, .bool g, .slice none 0 0, .int .i64 0] #[.int .i64 1, .bool g, .slice none 0 0, .int .i64 0] ?_
    have boV11 := b4
    clear b4
    intro V11 hOV11 b4
    have hzV11 := hOV11.size
    replace b10 := (b10.only hOV11 (by omega))
    replace b6 := (b6.only hOV11 (by omega))
    refine hKx.out _ _ ⟨b10, b6⟩ ?_
    clear hKx Kx
    refine yt 0 [4] rfl ⟨b10, b6⟩ ?_
    refine sx_done (by kernel_rfl) ?_
    refine sx_then ?_
    refine wp_ret ?_
    repeat (first | with_reducible refine sx_thenret ?_ | with_reducible refine sx_blockret ?_)
    refine yret (.tuple #[.agg #[.int .i64 1, .bool g, .slice none 0 0, .int .i64 0], .bool g]) (res2 Tryd.results59 (rvr b4 hT56) rvt) ?_
    exact givesVb_none hv rfl ((bthru (((bthru (bthru ((bthru (bthru (bthru hbV1 hbV2) hbV3) hbV4).trans (hOV5.below (by omega))) hbV6) hbV7).trans (hOV8.below (by omega))).trans (hOV9.below (by omega))) hbV10).trans (hOV11.below (by omega)))
  · by_cases h0 : m = 0
    · have hv : f.vl g ⟨2, m, pw⟩ = ⟨1, g, 0, 0⟩ := by unfold Fm.vl Dc.c; simp [h0]
      have hT3 : SxOne Tryd.prog 3 := sxOne_of (by kernel_rfl) (by kernel_rfl)
      have hT4 : SxOne Tryd.prog 4 := sxOne_of (by kernel_rfl) (by kernel_rfl)
      have hT56 : SxAgg Tryd.prog 56 4 := sxAgg_of (by kernel_rfl) (by kernel_rfl)
      have hT116 : SxAgg Tryd.prog 116 12 := sxAgg_of (by kernel_rfl) (by kernel_rfl)
      have hT137 : SxAgg Tryd.prog 137 3 := sxAgg_of (by kernel_rfl) (by kernel_rfl)
      refine calls_of_wp Tryd.func59 rfl ?_
      refine sx_frame (a' := ⟨((.agg #[.int .i64 ((f.size : Nat) : Int), .int .i64 ((f.E : Nat) : Int), .int .i64 ((f.F : Nat) : Int), .int .i64 f.g.rad, .int .i64 f.g.digs, .int .i64 f.g.lo, .int .i64 f.g.hi, .bool f.g.grad, .bool f.hid, .bool f.inf, .bool f.res, .func (.func (ordF f)) #[] #[]]) :: (.string s) :: us 56 []).toArray, []⟩) (by kernel_rfl) ?_
      refine ye ?_
      refine yw 0 rfl 2 #[.int .i64 ((f.size : Nat) : Int), .int .i64 ((f.E : Nat) : Int), .int .i64 ((f.F : Nat) : Int), .int .i64 f.g.rad, .int .i64 f.g.digs, .int .i64 f.g.lo, .int .i64 f.g.hi, .bool f.g.grad, .bool f.hid, .bool f.inf, .bool f.res, .func (.func (ordF f)) #[] #[]] 116 (fun V1 hbV1 hzV1 b2 => ?_)
      refine yw 0 rfl 4 #[.int .i64 0, .bool false, .slice none 0 0, .int .i64 0] 56 (fun V2 hbV2 hzV2 b4 => ?_)
      refine yzt 1 ?_
      refine ye ?_
      replace b2 := (b2.past hbV2)
      refine yla 0 rfl 11 b2 hT116 0 ?_
      refine yc 1 rfl 13 ((HS V2).out) (fun Gx hGx => ?_)
      rintro eV3 V3 ⟨p13, c13, rfl, o13, hbV3⟩
      have hzV3 := hbV3.size
      refine ⟨_, rfl, hGx _ _ ?_⟩
      clear hGx Gx
      refine yw 0 rfl 6 #[.bool false, .int .i64 0, .slice none 0 0] 137 (fun V4 hbV4 hzV4 b6 => ?_)
      have boV5 := b6
      refine ysw 0 rfl b6 hT137 #[.bool g, .int .i64 ((e : Nat) : Int), .slice p13 (dig B32 x).length c13] ?_
      clear b6
      intro V5 hOV5 b6
      have hzV5 := hOV5.size
      refine yzt 0 ?_
      refine ye ?_
      replace b2 := (b2.past ((bthru hbV3 hbV4).trans (hOV5.below (by omega))))
      refine yla 0 rfl 15 b2 hT116 0 ?_
      refine yla 0 rfl 16 b6 hT137 0 ?_
      replace o13 := (o13.past (hbV4.trans (hOV5.below (by omega))))
      refine yc 0 rfl 17 ((HV p13 c13 _ V5 o13 (by omega)).out) (fun Gx hGx => ?_)
      rintro eV6 V6 ⟨p17, c17, rfl, o17, hbV6⟩
      have hzV6 := hbV6.size
      refine ⟨_, rfl, hGx _ _ ?_⟩
      clear hGx Gx
      refine yzt 7 ?_
      refine ye ?_
      refine yw 2 rfl 10 #[.int .i64 0, .bool false, .slice none 0 0, .int .i64 0] 56 (fun V7 hbV7 hzV7 b10 => ?_)
      have boV8 := b10
      refine ysw 0 rfl b10 hT56 #[.int .i64 2, .bool false, .slice none 0 0, .int .i64 0] ?_
      clear b10
      intro V8 hOV8 b10
      have hzV8 := hOV8.size
      refine yzt 0 ?_
      refine wp_seq ?_
      refine ye ?_
      refine yb 5 rfl 28 ((((dig B32 m).length : Nat) : Int) == 0) (true) (beq_iff_eq.2 (by omega)) ?_
      refine yzt 1 ?_
      refine yT ?_
      refine sx_region ?_
      have boV9 := b10
      refine ys1 1 rfl b10 hT3 0 (.int .i64 1) #[.int .i64 1, .bool false, .slice none 0 0, .int .i64 0] ?_
      clear b10
      intro V9 hOV9 b10
      have hzV9 := hOV9.size
      refine yz 0 ?_
      refine sx_then ?_
      refine wp_seq ?_
      refine ye ?_
      refine yl 1 rfl 32 b10 hT3 0 ?_
      refine yzt 0 ?_
      refine wp_block ?_
      refine yq ?_
      refine yF ?_
      refine wp_seq ?_
      refine yq ?_
      refine yT ?_
      refine wp_skip ?_
      refine sx_then ?_
      refine yT ?_
      refine sx_region ?_
      replace b6 := (b6.past (((bthru hbV6 hbV7).trans (hOV8.below (by omega))).trans (hOV9.below (by omega))))
      refine yl 1 rfl 53 b6 hT4 0 ?_
      have boV10 := b10
      refine ys1 1 rfl b10 hT4 1 (.bool g) #[.int .i64 1, .bool g, .slice none 0 0, .int .i64 0] ?_
      clear b10
      intro V10 hOV10 b10
      have hzV10 := hOV10.size
      refine yz 0 ?_
      refine sx_inblock ?_
      refine sx_then ?_
      refine wp_seq ?_
      replace b6 := (b6.only hOV10 (by omega))
      obtain ⟨V11, hVV11, hbV11, hzV11⟩ := drew_of V10
      replace b10 := (b10.past hbV11)
      replace b6 := (b6.past hbV11)
      refine yd2 hVV11 ⟨b10, b6⟩ ?_
      clear hVV11
      refine ytla 0 rfl 55 (fun _ h => h.1) hT56 0 ⟨b10, b6⟩ ?_
      refine yt 3 [1] rfl ⟨b10, b6⟩ ?_
      refine ytl 2 rfl 57 (fun _ h => h.2) hT4 0 ⟨b10, b6⟩ ?_
      refine sxr [3] ?_
      refine rd1 (fun Kx hKx => ?_)
      replace b4 := (b4.past (bthru ((((bthru (bthru ((bthru hbV3 hbV4).trans (hOV5.below (by omega))) hbV6) hbV7).trans (hOV8.below (by omega))).trans (hOV9.below (by omega))).trans (hOV10.below (by omega))) hbV11))
      refine ssk none b4 hT56 0 #[.int .i64 1, .bool g, .slice none 0 0, .int .i64 0] #[.int .i64 1, .bool g, .slice none 0 0, .int .i64 0] ?_
      have boV12 := b4
      clear b4
      intro V12 hOV12 b4
      have hzV12 := hOV12.size
      replace b10 := (b10.only hOV12 (by omega))
      replace b6 := (b6.only hOV12 (by omega))
      refine hKx.out _ _ ⟨b10, b6⟩ ?_
      clear hKx Kx
      refine yt 0 [4] rfl ⟨b10, b6⟩ ?_
      refine sx_done (by kernel_rfl) ?_
      refine sx_then ?_
      refine wp_ret ?_
      repeat (first | with_reducible refine sx_thenret ?_ | with_reducible refine sx_blockret ?_)
      refine yret (.tuple #[.agg #[.int .i64 1, .bool g, .slice none 0 0, .int .i64 0], .bool g]) (res2 Tryd.results59 (rvr b4 hT56) rvt) ?_
      exact givesVb_none hv rfl ((bthru ((((bthru (bthru ((bthru (bthru (bthru hbV1 hbV2) hbV3) hbV4).trans (hOV5.below (by omega))) hbV6) hbV7).trans (hOV8.below (by omega))).trans (hOV9.below (by omega))).trans (hOV10.below (by omega))) hbV11).trans (hOV12.below (by omega)))
    · have hv : f.vl g ⟨2, m, pw⟩ = ⟨2, g, m / 2 ^ (tz m / wid f.g * wid f.g), pw + (tz m / wid f.g : Nat)⟩ := by unfold Fm.vl Dc.c; simp [h0]
      have HB := fun p c base W h1 hT => Lib.hid (cbare_any p c m pw f.g base W h1 (by omega) (by omega) hrd hT)
      generalize m / 2 ^ (tz m / wid f.g * wid f.g) = mm at *
      generalize pw + ((tz m / wid f.g : Nat) : Int) = pp at *
      have hT3 : SxOne Tryd.prog 3 := sxOne_of (by kernel_rfl) (by kernel_rfl)
      have hT4 : SxOne Tryd.prog 4 := sxOne_of (by kernel_rfl) (by kernel_rfl)
      have hT23 : SxOne Tryd.prog 23 := sxOne_of (by kernel_rfl) (by kernel_rfl)
      have hT56 : SxAgg Tryd.prog 56 4 := sxAgg_of (by kernel_rfl) (by kernel_rfl)
      have hT116 : SxAgg Tryd.prog 116 12 := sxAgg_of (by kernel_rfl) (by kernel_rfl)
      have hT137 : SxAgg Tryd.prog 137 3 := sxAgg_of (by kernel_rfl) (by kernel_rfl)
      refine calls_of_wp Tryd.func59 rfl ?_
      refine sx_frame (a' := ⟨((.agg #[.int .i64 ((f.size : Nat) : Int), .int .i64 ((f.E : Nat) : Int), .int .i64 ((f.F : Nat) : Int), .int .i64 f.g.rad, .int .i64 f.g.digs, .int .i64 f.g.lo, .int .i64 f.g.hi, .bool f.g.grad, .bool f.hid, .bool f.inf, .bool f.res, .func (.func (ordF f)) #[] #[]]) :: (.string s) :: us 56 []).toArray, []⟩) (by kernel_rfl) ?_
      refine ye ?_
      refine yw 0 rfl 2 #[.int .i64 ((f.size : Nat) : Int), .int .i64 ((f.E : Nat) : Int), .int .i64 ((f.F : Nat) : Int), .int .i64 f.g.rad, .int .i64 f.g.digs, .int .i64 f.g.lo, .int .i64 f.g.hi, .bool f.g.grad, .bool f.hid, .bool f.inf, .bool f.res, .func (.func (ordF f)) #[] #[]] 116 (fun V1 hbV1 hzV1 b2 => ?_)
      refine yw 0 rfl 4 #[.int .i64 0, .bool false, .slice none 0 0, .int .i64 0] 56 (fun V2 hbV2 hzV2 b4 => ?_)
      refine yzt 1 ?_
      refine ye ?_
      replace b2 := (b2.past hbV2)
      refine yla 0 rfl 11 b2 hT116 0 ?_
      refine yc 1 rfl 13 ((HS V2).out) (fun Gx hGx => ?_)
      rintro eV3 V3 ⟨p13, c13, rfl, o13, hbV3⟩
      have hzV3 := hbV3.size
      refine ⟨_, rfl, hGx _ _ ?_⟩
      clear hGx Gx
      refine yw 0 rfl 6 #[.bool false, .int .i64 0, .slice none 0 0] 137 (fun V4 hbV4 hzV4 b6 => ?_)
      have boV5 := b6
      refine ysw 0 rfl b6 hT137 #[.bool g, .int .i64 ((e : Nat) : Int), .slice p13 (dig B32 x).length c13] ?_
      clear b6
      intro V5 hOV5 b6
      have hzV5 := hOV5.size
      refine yzt 0 ?_
      refine ye ?_
      replace b2 := (b2.past ((bthru hbV3 hbV4).trans (hOV5.below (by omega))))
      refine yla 0 rfl 15 b2 hT116 0 ?_
      refine yla 0 rfl 16 b6 hT137 0 ?_
      replace o13 := (o13.past (hbV4.trans (hOV5.below (by omega))))
      refine yc 0 rfl 17 ((HV p13 c13 _ V5 o13 (by omega)).out) (fun Gx hGx => ?_)
      rintro eV6 V6 ⟨p17, c17, rfl, o17, hbV6⟩
      have hzV6 := hbV6.size
      refine ⟨_, rfl, hGx _ _ ?_⟩
      clear hGx Gx
      refine yzt 7 ?_
      refine ye ?_
      refine yw 2 rfl 10 #[.int .i64 0, .bool false, .slice none 0 0, .int .i64 0] 56 (fun V7 hbV7 hzV7 b10 => ?_)
      have boV8 := b10
      refine ysw 0 rfl b10 hT56 #[.int .i64 2, .bool false, .slice none 0 0, .int .i64 0] ?_
      clear b10
      intro V8 hOV8 b10
      have hzV8 := hOV8.size
      refine yzt 0 ?_
      refine wp_seq ?_
      refine ye ?_
      refine yb 5 rfl 28 ((((dig B32 m).length : Nat) : Int) == 0) (false) (beq_eq_false_iff_ne.2 (by omega)) ?_
      refine yzt 1 ?_
      refine yF ?_
      refine wp_skip ?_
      refine sx_then ?_
      refine wp_seq ?_
      refine ye ?_
      refine yl 1 rfl 32 b10 hT3 0 ?_
      refine yzt 0 ?_
      refine wp_block ?_
      refine yq ?_
      refine yT ?_
      refine ye ?_
      replace b6 := (b6.past ((bthru hbV6 hbV7).trans (hOV8.below (by omega))))
      refine yl 1 rfl 36 b6 hT4 0 ?_
      have boV9 := b10
      refine ys1 1 rfl b10 hT4 1 (.bool g) #[.int .i64 2, .bool g, .slice none 0 0, .int .i64 0] ?_
      clear b10
      intro V9 hOV9 b10
      have hzV9 := hOV9.size
      refine yzt 0 ?_
      refine sx_region ?_
      replace b2 := (b2.past (((bthru hbV6 hbV7).trans (hOV8.below (by omega))).trans (hOV9.below (by omega))))
      refine yl 4 rfl 43 b2 hT3 3 ?_
      replace o17 := (o17.past ((hbV7.trans (hOV8.below (by omega))).trans (hOV9.below (by omega))))
      replace hT := (hT.past (((bthru (bthru ((bthru (bthru (bthru hbV1 hbV2) hbV3) hbV4).trans (hOV5.below (by omega))) hbV6) hbV7).trans (hOV8.below (by omega))).trans (hOV9.below (by omega))))
      refine yc 0 rfl 44 ((HB p17 c17 _ V9 o17 hT).out) (fun Gx hGx => ?_)
      rintro eV10 V10 ⟨q44, d44, rfl, o44, hbV10⟩
      have hzV10 := hbV10.size
      refine ⟨_, rfl, hGx _ _ ?_⟩
      clear hGx Gx
      replace b10 := (b10.past hbV10)
      have boV11 := b10
      refine ys1 4 rfl b10 hT23 2 (.slice q44 (dig B32 mm).length d44) #[.int .i64 2, .bool g, .slice q44 (dig B32 mm).length d44, .int .i64 0] ?_
      clear b10
      intro V11 hOV11 b10
      have hzV11 := hOV11.size
      have boV12 := b10
      refine ys1 1 rfl b10 hT3 3 (.int .i64 pp) #[.int .i64 2, .bool g, .slice q44 (dig B32 mm).length d44, .int .i64 pp] ?_
      clear b10
      intro V12 hOV12 b10
      have hzV12 := hOV12.size
      refine yz 0 ?_
      refine sx_inblock ?_
      refine sx_then ?_
      refine wp_seq ?_
      replace b6 := ((((b6.only hOV9 (by omega)).past hbV10).only hOV11 (by omega)).only hOV12 (by omega))
      obtain ⟨V13, hVV13, hbV13, hzV13⟩ := drew_of V12
      replace b10 := (b10.past hbV13)
      replace b6 := (b6.past hbV13)
      refine yd2 hVV13 ⟨b10, b6⟩ ?_
      clear hVV13
      refine ytla 0 rfl 55 (fun _ h => h.1) hT56 0 ⟨b10, b6⟩ ?_
      refine yt 3 [1] rfl ⟨b10, b6⟩ ?_
      refine ytl 2 rfl 57 (fun _ h => h.2) hT4 0 ⟨b10, b6⟩ ?_
      refine sxr [3] ?_
      refine rd1 (fun Kx hKx => ?_)
      replace b4 := (b4.past (bthru (((bthru (((bthru (bthru ((bthru hbV3 hbV4).trans (hOV5.below (by omega))) hbV6) hbV7).trans (hOV8.below (by omega))).trans (hOV9.below (by omega))) hbV10).trans (hOV11.below (by omega))).trans (hOV12.below (by omega))) hbV13))
      refine ssk none b4 hT56 0 #[.int .i64 2, .bool g, .slice q44 (dig B32 mm).length d44, .int .i64 pp] #[.int .i64 2, .bool g, .slice q44 (dig B32 mm).length d44, .int .i64 pp] ?_
      have boV14 := b4
      clear b4
      intro V14 hOV14 b4
      have hzV14 := hOV14.size
      replace b10 := (b10.only hOV14 (by omega))
      replace b6 := (b6.only hOV14 (by omega))
      refine hKx.out _ _ ⟨b10, b6⟩ ?_
      clear hKx Kx
      refine yt 0 [4] rfl ⟨b10, b6⟩ ?_
      refine sx_done (by kernel_rfl) ?_
      refine sx_then ?_
      refine wp_ret ?_
      repeat (first | with_reducible refine sx_thenret ?_ | with_reducible refine sx_blockret ?_)
      refine yret (.tuple #[.agg #[.int .i64 2, .bool g, .slice q44 (dig B32 mm).length d44, .int .i64 pp], .bool g]) (res2 Tryd.results59 (rvr b4 hT56) rvt) ?_
      replace o44 := ((((o44.put boV11 hOV11 (by kernel_rfl)).put boV12 hOV12 (by kernel_rfl)).past hbV13).put boV14 hOV14 (by kernel_rfl))
      exact givesVb_of hv rfl o44 (by omega) ((bthru (((bthru (((bthru (bthru ((bthru (bthru (bthru hbV1 hbV2) hbV3) hbV4).trans (hOV5.below (by omega))) hbV6) hbV7).trans (hOV8.below (by omega))).trans (hOV9.below (by omega))) hbV10).trans (hOV11.below (by omega))).trans (hOV12.below (by omega))) hbV13).trans (hOV14.below (by omega)))
  · have hv : f.vl g ⟨3, m, pw⟩ = ⟨3, g, 0, 0⟩ := by unfold Fm.vl Dc.c; simp
    have hT3 : SxOne Tryd.prog 3 := sxOne_of (by kernel_rfl) (by kernel_rfl)
    have hT4 : SxOne Tryd.prog 4 := sxOne_of (by kernel_rfl) (by kernel_rfl)
    have hT56 : SxAgg Tryd.prog 56 4 := sxAgg_of (by kernel_rfl) (by kernel_rfl)
    have hT116 : SxAgg Tryd.prog 116 12 := sxAgg_of (by kernel_rfl) (by kernel_rfl)
    have hT137 : SxAgg Tryd.prog 137 3 := sxAgg_of (by kernel_rfl) (by kernel_rfl)
    refine calls_of_wp Tryd.func59 rfl ?_
    refine sx_frame (a' := ⟨((.agg #[.int .i64 ((f.size : Nat) : Int), .int .i64 ((f.E : Nat) : Int), .int .i64 ((f.F : Nat) : Int), .int .i64 f.g.rad, .int .i64 f.g.digs, .int .i64 f.g.lo, .int .i64 f.g.hi, .bool f.g.grad, .bool f.hid, .bool f.inf, .bool f.res, .func (.func (ordF f)) #[] #[]]) :: (.string s) :: us 56 []).toArray, []⟩) (by kernel_rfl) ?_
    refine ye ?_
    refine yw 0 rfl 2 #[.int .i64 ((f.size : Nat) : Int), .int .i64 ((f.E : Nat) : Int), .int .i64 ((f.F : Nat) : Int), .int .i64 f.g.rad, .int .i64 f.g.digs, .int .i64 f.g.lo, .int .i64 f.g.hi, .bool f.g.grad, .bool f.hid, .bool f.inf, .bool f.res, .func (.func (ordF f)) #[] #[]] 116 (fun V1 hbV1 hzV1 b2 => ?_)
    refine yw 0 rfl 4 #[.int .i64 0, .bool false, .slice none 0 0, .int .i64 0] 56 (fun V2 hbV2 hzV2 b4 => ?_)
    refine yzt 1 ?_
    refine ye ?_
    replace b2 := (b2.past hbV2)
    refine yla 0 rfl 11 b2 hT116 0 ?_
    refine yc 1 rfl 13 ((HS V2).out) (fun Gx hGx => ?_)
    rintro eV3 V3 ⟨p13, c13, rfl, o13, hbV3⟩
    have hzV3 := hbV3.size
    refine ⟨_, rfl, hGx _ _ ?_⟩
    clear hGx Gx
    refine yw 0 rfl 6 #[.bool false, .int .i64 0, .slice none 0 0] 137 (fun V4 hbV4 hzV4 b6 => ?_)
    have boV5 := b6
    refine ysw 0 rfl b6 hT137 #[.bool g, .int .i64 ((e : Nat) : Int), .slice p13 (dig B32 x).length c13] ?_
    clear b6
    intro V5 hOV5 b6
    have hzV5 := hOV5.size
    refine yzt 0 ?_
    refine ye ?_
    replace b2 := (b2.past ((bthru hbV3 hbV4).trans (hOV5.below (by omega))))
    refine yla 0 rfl 15 b2 hT116 0 ?_
    refine yla 0 rfl 16 b6 hT137 0 ?_
    replace o13 := (o13.past (hbV4.trans (hOV5.below (by omega))))
    refine yc 0 rfl 17 ((HV p13 c13 _ V5 o13 (by omega)).out) (fun Gx hGx => ?_)
    rintro eV6 V6 ⟨p17, c17, rfl, o17, hbV6⟩
    have hzV6 := hbV6.size
    refine ⟨_, rfl, hGx _ _ ?_⟩
    clear hGx Gx
    refine yzt 7 ?_
    refine ye ?_
    refine yw 2 rfl 10 #[.int .i64 0, .bool false, .slice none 0 0, .int .i64 0] 56 (fun V7 hbV7 hzV7 b10 => ?_)
    have boV8 := b10
    refine ysw 0 rfl b10 hT56 #[.int .i64 3, .bool false, .slice none 0 0, .int .i64 0] ?_
    clear b10
    intro V8 hOV8 b10
    have hzV8 := hOV8.size
    refine yzt 0 ?_
    refine wp_seq ?_
    refine yq ?_
    refine yF ?_
    refine wp_skip ?_
    refine sx_then ?_
    refine wp_seq ?_
    refine ye ?_
    refine yl 1 rfl 32 b10 hT3 0 ?_
    refine yzt 0 ?_
    refine wp_block ?_
    refine yq ?_
    refine yF ?_
    refine wp_seq ?_
    refine yq ?_
    refine yF ?_
    refine yr ?_
    refine sx_then ?_
    refine yT ?_
    refine sx_region ?_
    replace b6 := (b6.past ((bthru hbV6 hbV7).trans (hOV8.below (by omega))))
    refine yl 1 rfl 53 b6 hT4 0 ?_
    have boV9 := b10
    refine ys1 1 rfl b10 hT4 1 (.bool g) #[.int .i64 3, .bool g, .slice none 0 0, .int .i64 0] ?_
    clear b10
    intro V9 hOV9 b10
    have hzV9 := hOV9.size
    refine yz 0 ?_
    refine sx_inblock ?_
    refine sx_then ?_
    refine wp_seq ?_
    replace b6 := (b6.only hOV9 (by omega))
    obtain ⟨V10, hVV10, hbV10, hzV10⟩ := drew_of V9
    replace b10 := (b10.past hbV10)
    replace b6 := (b6.past hbV10)
    refine yd2 hVV10 ⟨b10, b6⟩ ?_
    clear hVV10
    refine ytla 0 rfl 55 (fun _ h => h.1) hT56 0 ⟨b10, b6⟩ ?_
    refine yt 3 [1] rfl ⟨b10, b6⟩ ?_
    refine ytl 2 rfl 57 (fun _ h => h.2) hT4 0 ⟨b10, b6⟩ ?_
    refine sxr [3] ?_
    refine rd1 (fun Kx hKx => ?_)
    replace b4 := (b4.past (bthru (((bthru (bthru ((bthru hbV3 hbV4).trans (hOV5.below (by omega))) hbV6) hbV7).trans (hOV8.below (by omega))).trans (hOV9.below (by omega))) hbV10))
    refine ssk none b4 hT56 0 #[.int .i64 3, .bool g, .slice none 0 0, .int .i64 0] #[.int .i64 3, .bool g, .slice none 0 0, .int .i64 0] ?_
    have boV11 := b4
    clear b4
    intro V11 hOV11 b4
    have hzV11 := hOV11.size
    replace b10 := (b10.only hOV11 (by omega))
    replace b6 := (b6.only hOV11 (by omega))
    refine hKx.out _ _ ⟨b10, b6⟩ ?_
    clear hKx Kx
    refine yt 0 [4] rfl ⟨b10, b6⟩ ?_
    refine sx_done (by kernel_rfl) ?_
    refine sx_then ?_
    refine wp_ret ?_
    repeat (first | with_reducible refine sx_thenret ?_ | with_reducible refine sx_blockret ?_)
    refine yret (.tuple #[.agg #[.int .i64 3, .bool g, .slice none 0 0, .int .i64 0], .bool g]) (res2 Tryd.results59 (rvr b4 hT56) rvt) ?_
    exact givesVb_none hv rfl ((bthru (((bthru (bthru ((bthru (bthru (bthru hbV1 hbV2) hbV3) hbV4).trans (hOV5.below (by omega))) hbV6) hbV7).trans (hOV8.below (by omega))).trans (hOV9.below (by omega))) hbV10).trans (hOV11.below (by omega)))
  · have hv : f.vl g ⟨4, m, pw⟩ = ⟨4, false, 0, 0⟩ := by unfold Fm.vl Dc.c; simp
    have hT3 : SxOne Tryd.prog 3 := sxOne_of (by kernel_rfl) (by kernel_rfl)
    have hT4 : SxOne Tryd.prog 4 := sxOne_of (by kernel_rfl) (by kernel_rfl)
    have hT56 : SxAgg Tryd.prog 56 4 := sxAgg_of (by kernel_rfl) (by kernel_rfl)
    have hT116 : SxAgg Tryd.prog 116 12 := sxAgg_of (by kernel_rfl) (by kernel_rfl)
    have hT137 : SxAgg Tryd.prog 137 3 := sxAgg_of (by kernel_rfl) (by kernel_rfl)
    refine calls_of_wp Tryd.func59 rfl ?_
    refine sx_frame (a' := ⟨((.agg #[.int .i64 ((f.size : Nat) : Int), .int .i64 ((f.E : Nat) : Int), .int .i64 ((f.F : Nat) : Int), .int .i64 f.g.rad, .int .i64 f.g.digs, .int .i64 f.g.lo, .int .i64 f.g.hi, .bool f.g.grad, .bool f.hid, .bool f.inf, .bool f.res, .func (.func (ordF f)) #[] #[]]) :: (.string s) :: us 56 []).toArray, []⟩) (by kernel_rfl) ?_
    refine ye ?_
    refine yw 0 rfl 2 #[.int .i64 ((f.size : Nat) : Int), .int .i64 ((f.E : Nat) : Int), .int .i64 ((f.F : Nat) : Int), .int .i64 f.g.rad, .int .i64 f.g.digs, .int .i64 f.g.lo, .int .i64 f.g.hi, .bool f.g.grad, .bool f.hid, .bool f.inf, .bool f.res, .func (.func (ordF f)) #[] #[]] 116 (fun V1 hbV1 hzV1 b2 => ?_)
    refine yw 0 rfl 4 #[.int .i64 0, .bool false, .slice none 0 0, .int .i64 0] 56 (fun V2 hbV2 hzV2 b4 => ?_)
    refine yzt 1 ?_
    refine ye ?_
    replace b2 := (b2.past hbV2)
    refine yla 0 rfl 11 b2 hT116 0 ?_
    refine yc 1 rfl 13 ((HS V2).out) (fun Gx hGx => ?_)
    rintro eV3 V3 ⟨p13, c13, rfl, o13, hbV3⟩
    have hzV3 := hbV3.size
    refine ⟨_, rfl, hGx _ _ ?_⟩
    clear hGx Gx
    refine yw 0 rfl 6 #[.bool false, .int .i64 0, .slice none 0 0] 137 (fun V4 hbV4 hzV4 b6 => ?_)
    have boV5 := b6
    refine ysw 0 rfl b6 hT137 #[.bool g, .int .i64 ((e : Nat) : Int), .slice p13 (dig B32 x).length c13] ?_
    clear b6
    intro V5 hOV5 b6
    have hzV5 := hOV5.size
    refine yzt 0 ?_
    refine ye ?_
    replace b2 := (b2.past ((bthru hbV3 hbV4).trans (hOV5.below (by omega))))
    refine yla 0 rfl 15 b2 hT116 0 ?_
    refine yla 0 rfl 16 b6 hT137 0 ?_
    replace o13 := (o13.past (hbV4.trans (hOV5.below (by omega))))
    refine yc 0 rfl 17 ((HV p13 c13 _ V5 o13 (by omega)).out) (fun Gx hGx => ?_)
    rintro eV6 V6 ⟨p17, c17, rfl, o17, hbV6⟩
    have hzV6 := hbV6.size
    refine ⟨_, rfl, hGx _ _ ?_⟩
    clear hGx Gx
    refine yzt 7 ?_
    refine ye ?_
    refine yw 2 rfl 10 #[.int .i64 0, .bool false, .slice none 0 0, .int .i64 0] 56 (fun V7 hbV7 hzV7 b10 => ?_)
    have boV8 := b10
    refine ysw 0 rfl b10 hT56 #[.int .i64 4, .bool false, .slice none 0 0, .int .i64 0] ?_
    clear b10
    intro V8 hOV8 b10
    have hzV8 := hOV8.size
    refine yzt 0 ?_
    refine wp_seq ?_
    refine yq ?_
    refine yF ?_
    refine wp_skip ?_
    refine sx_then ?_
    refine wp_seq ?_
    refine ye ?_
    refine yl 1 rfl 32 b10 hT3 0 ?_
    refine yzt 0 ?_
    refine wp_block ?_
    refine yq ?_
    refine yF ?_
    refine wp_seq ?_
    refine yq ?_
    refine yF ?_
    refine yr ?_
    refine sx_then ?_
    refine yF ?_
    refine wp_skip ?_
    refine sx_inblock ?_
    refine sx_then ?_
    refine wp_seq ?_
    replace b6 := (b6.past ((bthru hbV6 hbV7).trans (hOV8.below (by omega))))
    obtain ⟨V9, hVV9, hbV9, hzV9⟩ := drew_of V8
    replace b10 := (b10.past hbV9)
    replace b6 := (b6.past hbV9)
    refine yd2 hVV9 ⟨b10, b6⟩ ?_
    clear hVV9
    refine ytla 0 rfl 55 (fun _ h => h.1) hT56 0 ⟨b10, b6⟩ ?_
    refine yt 3 [1] rfl ⟨b10, b6⟩ ?_
    refine ytl 2 rfl 57 (fun _ h => h.2) hT4 0 ⟨b10, b6⟩ ?_
    refine sxr [3] ?_
    refine rd1 (fun Kx hKx => ?_)
    replace b4 := (b4.past (bthru ((bthru (bthru ((bthru hbV3 hbV4).trans (hOV5.below (by omega))) hbV6) hbV7).trans (hOV8.below (by omega))) hbV9))
    refine ssk none b4 hT56 0 #[.int .i64 4, .bool false, .slice none 0 0, .int .i64 0] #[.int .i64 4, .bool false, .slice none 0 0, .int .i64 0] ?_
    have boV10 := b4
    clear b4
    intro V10 hOV10 b4
    have hzV10 := hOV10.size
    replace b10 := (b10.only hOV10 (by omega))
    replace b6 := (b6.only hOV10 (by omega))
    refine hKx.out _ _ ⟨b10, b6⟩ ?_
    clear hKx Kx
    refine yt 0 [4] rfl ⟨b10, b6⟩ ?_
    refine sx_done (by kernel_rfl) ?_
    refine sx_then ?_
    refine wp_ret ?_
    repeat (first | with_reducible refine sx_thenret ?_ | with_reducible refine sx_blockret ?_)
    refine yret (.tuple #[.agg #[.int .i64 4, .bool false, .slice none 0 0, .int .i64 0], .bool g]) (res2 Tryd.results59 (rvr b4 hT56) rvt) ?_
    exact givesVb_none hv rfl ((bthru ((bthru (bthru ((bthru (bthru (bthru hbV1 hbV2) hbV3) hbV4).trans (hOV5.below (by omega))) hbV6) hbV7).trans (hOV8.below (by omega))) hbV9).trans (hOV10.below (by omega)))
  · have hv : f.vl g ⟨5, m, pw⟩ = ⟨5, false, 0, 0⟩ := by unfold Fm.vl Dc.c; simp
    have hT3 : SxOne Tryd.prog 3 := sxOne_of (by kernel_rfl) (by kernel_rfl)
    have hT4 : SxOne Tryd.prog 4 := sxOne_of (by kernel_rfl) (by kernel_rfl)
    have hT56 : SxAgg Tryd.prog 56 4 := sxAgg_of (by kernel_rfl) (by kernel_rfl)
    have hT116 : SxAgg Tryd.prog 116 12 := sxAgg_of (by kernel_rfl) (by kernel_rfl)
    have hT137 : SxAgg Tryd.prog 137 3 := sxAgg_of (by kernel_rfl) (by kernel_rfl)
    refine calls_of_wp Tryd.func59 rfl ?_
    refine sx_frame (a' := ⟨((.agg #[.int .i64 ((f.size : Nat) : Int), .int .i64 ((f.E : Nat) : Int), .int .i64 ((f.F : Nat) : Int), .int .i64 f.g.rad, .int .i64 f.g.digs, .int .i64 f.g.lo, .int .i64 f.g.hi, .bool f.g.grad, .bool f.hid, .bool f.inf, .bool f.res, .func (.func (ordF f)) #[] #[]]) :: (.string s) :: us 56 []).toArray, []⟩) (by kernel_rfl) ?_
    refine ye ?_
    refine yw 0 rfl 2 #[.int .i64 ((f.size : Nat) : Int), .int .i64 ((f.E : Nat) : Int), .int .i64 ((f.F : Nat) : Int), .int .i64 f.g.rad, .int .i64 f.g.digs, .int .i64 f.g.lo, .int .i64 f.g.hi, .bool f.g.grad, .bool f.hid, .bool f.inf, .bool f.res, .func (.func (ordF f)) #[] #[]] 116 (fun V1 hbV1 hzV1 b2 => ?_)
    refine yw 0 rfl 4 #[.int .i64 0, .bool false, .slice none 0 0, .int .i64 0] 56 (fun V2 hbV2 hzV2 b4 => ?_)
    refine yzt 1 ?_
    refine ye ?_
    replace b2 := (b2.past hbV2)
    refine yla 0 rfl 11 b2 hT116 0 ?_
    refine yc 1 rfl 13 ((HS V2).out) (fun Gx hGx => ?_)
    rintro eV3 V3 ⟨p13, c13, rfl, o13, hbV3⟩
    have hzV3 := hbV3.size
    refine ⟨_, rfl, hGx _ _ ?_⟩
    clear hGx Gx
    refine yw 0 rfl 6 #[.bool false, .int .i64 0, .slice none 0 0] 137 (fun V4 hbV4 hzV4 b6 => ?_)
    have boV5 := b6
    refine ysw 0 rfl b6 hT137 #[.bool g, .int .i64 ((e : Nat) : Int), .slice p13 (dig B32 x).length c13] ?_
    clear b6
    intro V5 hOV5 b6
    have hzV5 := hOV5.size
    refine yzt 0 ?_
    refine ye ?_
    replace b2 := (b2.past ((bthru hbV3 hbV4).trans (hOV5.below (by omega))))
    refine yla 0 rfl 15 b2 hT116 0 ?_
    refine yla 0 rfl 16 b6 hT137 0 ?_
    replace o13 := (o13.past (hbV4.trans (hOV5.below (by omega))))
    refine yc 0 rfl 17 ((HV p13 c13 _ V5 o13 (by omega)).out) (fun Gx hGx => ?_)
    rintro eV6 V6 ⟨p17, c17, rfl, o17, hbV6⟩
    have hzV6 := hbV6.size
    refine ⟨_, rfl, hGx _ _ ?_⟩
    clear hGx Gx
    refine yzt 7 ?_
    refine ye ?_
    refine yw 2 rfl 10 #[.int .i64 0, .bool false, .slice none 0 0, .int .i64 0] 56 (fun V7 hbV7 hzV7 b10 => ?_)
    have boV8 := b10
    refine ysw 0 rfl b10 hT56 #[.int .i64 5, .bool false, .slice none 0 0, .int .i64 0] ?_
    clear b10
    intro V8 hOV8 b10
    have hzV8 := hOV8.size
    refine yzt 0 ?_
    refine wp_seq ?_
    refine yq ?_
    refine yF ?_
    refine wp_skip ?_
    refine sx_then ?_
    refine wp_seq ?_
    refine ye ?_
    refine yl 1 rfl 32 b10 hT3 0 ?_
    refine yzt 0 ?_
    refine wp_block ?_
    refine yq ?_
    refine yF ?_
    refine wp_seq ?_
    refine yq ?_
    refine yF ?_
    refine yr ?_
    refine sx_then ?_
    refine yF ?_
    refine wp_skip ?_
    refine sx_inblock ?_
    refine sx_then ?_
    refine wp_seq ?_
    replace b6 := (b6.past ((bthru hbV6 hbV7).trans (hOV8.below (by omega))))
    obtain ⟨V9, hVV9, hbV9, hzV9⟩ := drew_of V8
    replace b10 := (b10.past hbV9)
    replace b6 := (b6.past hbV9)
    refine yd2 hVV9 ⟨b10, b6⟩ ?_
    clear hVV9
    refine ytla 0 rfl 55 (fun _ h => h.1) hT56 0 ⟨b10, b6⟩ ?_
    refine yt 3 [1] rfl ⟨b10, b6⟩ ?_
    refine ytl 2 rfl 57 (fun _ h => h.2) hT4 0 ⟨b10, b6⟩ ?_
    refine sxr [3] ?_
    refine rd1 (fun Kx hKx => ?_)
    replace b4 := (b4.past (bthru ((bthru (bthru ((bthru hbV3 hbV4).trans (hOV5.below (by omega))) hbV6) hbV7).trans (hOV8.below (by omega))) hbV9))
    refine ssk none b4 hT56 0 #[.int .i64 5, .bool false, .slice none 0 0, .int .i64 0] #[.int .i64 5, .bool false, .slice none 0 0, .int .i64 0] ?_
    have boV10 := b4
    clear b4
    intro V10 hOV10 b4
    have hzV10 := hOV10.size
    replace b10 := (b10.only hOV10 (by omega))
    replace b6 := (b6.only hOV10 (by omega))
    refine hKx.out _ _ ⟨b10, b6⟩ ?_
    clear hKx Kx
    refine yt 0 [4] rfl ⟨b10, b6⟩ ?_
    refine sx_done (by kernel_rfl) ?_
    refine sx_then ?_
    refine wp_ret ?_
    repeat (first | with_reducible refine sx_thenret ?_ | with_reducible refine sx_blockret ?_)
    refine yret (.tuple #[.agg #[.int .i64 5, .bool false, .slice none 0 0, .int .i64 0], .bool g]) (res2 Tryd.results59 (rvr b4 hT56) rvt) ?_
    exact givesVb_none hv rfl ((bthru ((bthru (bthru ((bthru (bthru (bthru hbV1 hbV2) hbV3) hbV4).trans (hOV5.below (by omega))) hbV6) hbV7).trans (hOV8.below (by omega))) hbV9).trans (hOV10.below (by omega)))

end Go.Proofs.YtcipdimogodndaaDoor

namespace Go.Proofs.YtcipdimogodndaaDoor
open Go.RowKit Go.Slip

def errPat (n : Int) (s : ByteArray) : Int := if IsFm n then (if s.size = (fmt n).size then 0 else 1) else 6

theorem open_ok (n : Int) (s : ByteArray) (w : World) (hn : IsFm n) (hs : s.size = (fmt n).size) :
    Calls Tryd.prog 58 #[.int .i64 n, .string s] w fun en w' => en = .returned (.tuple #[.agg #[.int .i64 (((fmt n).size : Nat) : Int), .int .i64 (((fmt n).E : Nat) : Int), .int .i64 (((fmt n).F : Nat) : Int), .int .i64 (fmt n).g.rad, .int .i64 (fmt n).g.digs, .int .i64 (fmt n).g.lo, .int .i64 (fmt n).g.hi, .bool (fmt n).g.grad, .bool (fmt n).hid, .bool (fmt n).inf, .bool (fmt n).res, .func (.func (ordF (fmt n))) #[] #[]], .int .i64 0]) ∧ Below w.heap.size w w' := by
  have HF := fun W => Lib.hid (forms_any n hn W)
  generalize fmt n = f at *
  have hT3 : SxOne Tryd.prog 3 := sxOne_of (by kernel_rfl) (by kernel_rfl)
  have hT116 : SxAgg Tryd.prog 116 12 := sxAgg_of (by kernel_rfl) (by kernel_rfl)
  refine calls_of_wp Tryd.func58 rfl ?_
  refine sx_frame (a' := ⟨((.int .i64 n) :: (.string s) :: us 22 []).toArray, []⟩) (by kernel_rfl) ?_
  refine ye ?_
  refine yw 0 rfl 4 #[.int .i64 0, .int .i64 0, .int .i64 0, .int .i64 0, .int .i64 0, .int .i64 0, .int .i64 0, .bool false, .bool false, .bool false, .bool false, .nilFunc] 116 (fun V1 hbV1 hzV1 b4 => ?_)
  refine yzt 1 ?_
  refine ye ?_
  refine yc 1 rfl 10 ((HF V1).out) (fun Gx hGx => ?_)
  rintro eV2 V2 ⟨rfl, hbV2⟩
  have hzV2 := hbV2.size
  refine ⟨_, rfl, hGx _ _ ?_⟩
  clear hGx Gx
  refine yw 3 rfl 6 #[.int .i64 0, .int .i64 0, .int .i64 0, .int .i64 0, .int .i64 0, .int .i64 0, .int .i64 0, .bool false, .bool false, .bool false, .bool false, .nilFunc] 116 (fun V3 hbV3 hzV3 b6 => ?_)
  have boV4 := b6
  refine ysw 0 rfl b6 hT116 #[.int .i64 ((f.size : Nat) : Int), .int .i64 ((f.E : Nat) : Int), .int .i64 ((f.F : Nat) : Int), .int .i64 f.g.rad, .int .i64 f.g.digs, .int .i64 f.g.lo, .int .i64 f.g.hi, .bool f.g.grad, .bool f.hid, .bool f.inf, .bool f.res, .func (.func (ordF f)) #[] #[]] ?_
  clear b6
  intro V4 hOV4 b6
  have hzV4 := hOV4.size
  refine yzt 1 ?_
  refine wp_seq ?_
  refine ye ?_
  refine yl 6 rfl 19 b6 hT3 0 ?_
  refine yb 0 rfl 20 (((s.size : Nat) : Int) != ((f.size : Nat) : Int)) (false) (by simp [hs]) ?_
  refine yzt 1 ?_
  refine yF ?_
  refine wp_skip ?_
  refine sx_then ?_
  refine ye ?_
  refine yla 0 rfl 22 b6 hT116 0 ?_
  replace b4 := (b4.past ((bthru hbV2 hbV3).trans (hOV4.below (by omega))))
  have boV5 := b4
  refine ysw 1 rfl b4 hT116 #[.int .i64 ((f.size : Nat) : Int), .int .i64 ((f.E : Nat) : Int), .int .i64 ((f.F : Nat) : Int), .int .i64 f.g.rad, .int .i64 f.g.digs, .int .i64 f.g.lo, .int .i64 f.g.hi, .bool f.g.grad, .bool f.hid, .bool f.inf, .bool f.res, .func (.func (ordF f)) #[] #[]] ?_
  clear b4
  intro V5 hOV5 b4
  have hzV5 := hOV5.size
  refine yzt 1 ?_
  refine wp_ret ?_
  repeat (first | with_reducible refine sx_thenret ?_ | with_reducible refine sx_blockret ?_)
  refine yret (.tuple #[.agg #[.int .i64 ((f.size : Nat) : Int), .int .i64 ((f.E : Nat) : Int), .int .i64 ((f.F : Nat) : Int), .int .i64 f.g.rad, .int .i64 f.g.digs, .int .i64 f.g.lo, .int .i64 f.g.hi, .bool f.g.grad, .bool f.hid, .bool f.inf, .bool f.res, .func (.func (ordF f)) #[] #[]], .int .i64 0]) (res2 Tryd.results58 (rvr b4 hT116) rvt) ?_
  exact ⟨rfl, (((bthru (bthru hbV1 hbV2) hbV3).trans (hOV4.below (by omega))).trans (hOV5.below (by omega)))⟩
theorem open_one (n : Int) (s : ByteArray) (w : World) (hn : IsFm n) (hs : s.size ≠ (fmt n).size) :
    Calls Tryd.prog 58 #[.int .i64 n, .string s] w fun en w' => en = .returned (.tuple #[.agg #[.int .i64 (((fmt n).size : Nat) : Int), .int .i64 (((fmt n).E : Nat) : Int), .int .i64 (((fmt n).F : Nat) : Int), .int .i64 (fmt n).g.rad, .int .i64 (fmt n).g.digs, .int .i64 (fmt n).g.lo, .int .i64 (fmt n).g.hi, .bool (fmt n).g.grad, .bool (fmt n).hid, .bool (fmt n).inf, .bool (fmt n).res, .func (.func (ordF (fmt n))) #[] #[]], .int .i64 1]) ∧ Below w.heap.size w w' := by
  have HF := fun W => Lib.hid (forms_any n hn W)
  generalize fmt n = f at *
  have hT3 : SxOne Tryd.prog 3 := sxOne_of (by kernel_rfl) (by kernel_rfl)
  have hT116 : SxAgg Tryd.prog 116 12 := sxAgg_of (by kernel_rfl) (by kernel_rfl)
  refine calls_of_wp Tryd.func58 rfl ?_
  refine sx_frame (a' := ⟨((.int .i64 n) :: (.string s) :: us 22 []).toArray, []⟩) (by kernel_rfl) ?_
  refine ye ?_
  refine yw 0 rfl 4 #[.int .i64 0, .int .i64 0, .int .i64 0, .int .i64 0, .int .i64 0, .int .i64 0, .int .i64 0, .bool false, .bool false, .bool false, .bool false, .nilFunc] 116 (fun V1 hbV1 hzV1 b4 => ?_)
  refine yzt 1 ?_
  refine ye ?_
  refine yc 1 rfl 10 ((HF V1).out) (fun Gx hGx => ?_)
  rintro eV2 V2 ⟨rfl, hbV2⟩
  have hzV2 := hbV2.size
  refine ⟨_, rfl, hGx _ _ ?_⟩
  clear hGx Gx
  refine yw 3 rfl 6 #[.int .i64 0, .int .i64 0, .int .i64 0, .int .i64 0, .int .i64 0, .int .i64 0, .int .i64 0, .bool false, .bool false, .bool false, .bool false, .nilFunc] 116 (fun V3 hbV3 hzV3 b6 => ?_)
  have boV4 := b6
  refine ysw 0 rfl b6 hT116 #[.int .i64 ((f.size : Nat) : Int), .int .i64 ((f.E : Nat) : Int), .int .i64 ((f.F : Nat) : Int), .int .i64 f.g.rad, .int .i64 f.g.digs, .int .i64 f.g.lo, .int .i64 f.g.hi, .bool f.g.grad, .bool f.hid, .bool f.inf, .bool f.res, .func (.func (ordF f)) #[] #[]] ?_
  clear b6
  intro V4 hOV4 b6
  have hzV4 := hOV4.size
  refine yzt 1 ?_
  refine wp_seq ?_
  refine ye ?_
  refine yl 6 rfl 19 b6 hT3 0 ?_
  refine yb 0 rfl 20 (((s.size : Nat) : Int) != ((f.size : Nat) : Int)) (true) (bne_iff_ne.2 (fun h => hs (by omega))) ?_
  refine yzt 1 ?_
  refine yT ?_
  refine yr ?_
  refine sx_then ?_
  refine ye ?_
  refine yla 0 rfl 22 b6 hT116 0 ?_
  replace b4 := (b4.past ((bthru hbV2 hbV3).trans (hOV4.below (by omega))))
  have boV5 := b4
  refine ysw 1 rfl b4 hT116 #[.int .i64 ((f.size : Nat) : Int), .int .i64 ((f.E : Nat) : Int), .int .i64 ((f.F : Nat) : Int), .int .i64 f.g.rad, .int .i64 f.g.digs, .int .i64 f.g.lo, .int .i64 f.g.hi, .bool f.g.grad, .bool f.hid, .bool f.inf, .bool f.res, .func (.func (ordF f)) #[] #[]] ?_
  clear b4
  intro V5 hOV5 b4
  have hzV5 := hOV5.size
  refine yzt 1 ?_
  refine wp_ret ?_
  repeat (first | with_reducible refine sx_thenret ?_ | with_reducible refine sx_blockret ?_)
  refine yret (.tuple #[.agg #[.int .i64 ((f.size : Nat) : Int), .int .i64 ((f.E : Nat) : Int), .int .i64 ((f.F : Nat) : Int), .int .i64 f.g.rad, .int .i64 f.g.digs, .int .i64 f.g.lo, .int .i64 f.g.hi, .bool f.g.grad, .bool f.hid, .bool f.inf, .bool f.res, .func (.func (ordF f)) #[] #[]], .int .i64 1]) (res2 Tryd.results58 (rvr b4 hT116) rvt) ?_
  exact ⟨rfl, (((bthru (bthru hbV1 hbV2) hbV3).trans (hOV4.below (by omega))).trans (hOV5.below (by omega)))⟩
theorem open_six (n : Int) (s : ByteArray) (w : World) (hn : ¬ IsFm n) :
    Calls Tryd.prog 58 #[.int .i64 n, .string s] w fun en w' => en = .returned (.tuple #[.agg #[.int .i64 0, .int .i64 0, .int .i64 0, .int .i64 0, .int .i64 0, .int .i64 0, .int .i64 0, .bool false, .bool false, .bool false, .bool false, .nilFunc], .int .i64 6]) ∧ Below w.heap.size w w' := by
  have HF := fun W => Lib.hid (forms_not n hn W)
  have hT116 : SxAgg Tryd.prog 116 12 := sxAgg_of (by kernel_rfl) (by kernel_rfl)
  refine calls_of_wp Tryd.func58 rfl ?_
  refine sx_frame (a' := ⟨((.int .i64 n) :: (.string s) :: us 22 []).toArray, []⟩) (by kernel_rfl) ?_
  refine ye ?_
  refine yw 0 rfl 4 #[.int .i64 0, .int .i64 0, .int .i64 0, .int .i64 0, .int .i64 0, .int .i64 0, .int .i64 0, .bool false, .bool false, .bool false, .bool false, .nilFunc] 116 (fun V1 hbV1 hzV1 b4 => ?_)
  refine yzt 1 ?_
  refine ye ?_
  refine yc 1 rfl 10 ((HF V1).out) (fun Gx hGx => ?_)
  rintro eV2 V2 ⟨rfl, hbV2⟩
  have hzV2 := hbV2.size
  refine ⟨_, rfl, hGx _ _ ?_⟩
  clear hGx Gx
  refine yw 3 rfl 6 #[.int .i64 0, .int .i64 0, .int .i64 0, .int .i64 0, .int .i64 0, .int .i64 0, .int .i64 0, .bool false, .bool false, .bool false, .bool false, .nilFunc] 116 (fun V3 hbV3 hzV3 b6 => ?_)
  have boV4 := b6
  refine ysw 0 rfl b6 hT116 #[.int .i64 0, .int .i64 0, .int .i64 0, .int .i64 0, .int .i64 0, .int .i64 0, .int .i64 0, .bool false, .bool false, .bool false, .bool false, .nilFunc] ?_
  clear b6
  intro V4 hOV4 b6
  have hzV4 := hOV4.size
  refine yzt 1 ?_
  refine wp_seq ?_
  refine yq ?_
  refine yF ?_
  refine wp_skip ?_
  refine sx_then ?_
  refine ye ?_
  refine yla 0 rfl 22 b6 hT116 0 ?_
  replace b4 := (b4.past ((bthru hbV2 hbV3).trans (hOV4.below (by omega))))
  have boV5 := b4
  refine ysw 1 rfl b4 hT116 #[.int .i64 0, .int .i64 0, .int .i64 0, .int .i64 0, .int .i64 0, .int .i64 0, .int .i64 0, .bool false, .bool false, .bool false, .bool false, .nilFunc] ?_
  clear b4
  intro V5 hOV5 b4
  have hzV5 := hOV5.size
  refine yzt 1 ?_
  refine wp_ret ?_
  repeat (first | with_reducible refine sx_thenret ?_ | with_reducible refine sx_blockret ?_)
  refine yret (.tuple #[.agg #[.int .i64 0, .int .i64 0, .int .i64 0, .int .i64 0, .int .i64 0, .int .i64 0, .int .i64 0, .bool false, .bool false, .bool false, .bool false, .nilFunc], .int .i64 6]) (res2 Tryd.results58 (rvr b4 hT116) rvt) ?_
  exact ⟨rfl, (((bthru (bthru hbV1 hbV2) hbV3).trans (hOV4.below (by omega))).trans (hOV5.below (by omega)))⟩

def GivesVe (w : World) (v : Vl) (er : Int) (en : Ending) (w' : World) : Prop :=
  ∃ p c, en = .returned (.tuple #[.agg #[.int .i64 ((v.cls : Nat) : Int), .bool v.neg, .slice p (dig B32 v.d).length c, .int .i64 v.pow], .int .i64 er]) ∧ Own w' w.heap.size .u32 91 p c (dig B32 v.d) ∧ Below w.heap.size w w'
def zeroVl : Vl := ⟨0, false, 0, 0⟩
def decP (n : Int) (s : ByteArray) : Vl := if errPat n s = 0 then (fmt n).valN (numOfS (fmt n) s) else zeroVl
theorem errPat_zero {n : Int} {s : ByteArray} : errPat n s = 0 ↔ IsFm n ∧ s.size = (fmt n).size := by
  unfold errPat
  by_cases h1 : IsFm n
  · rw [if_pos h1]
    by_cases h2 : s.size = (fmt n).size
    · rw [if_pos h2]; simp [h1, h2]
    · rw [if_neg h2]; simp [h2]
  · rw [if_neg h1]; simp [h1]
theorem givesVe_err {w w' : World} {er : Int} {en : Ending} (h : en = .returned (.tuple #[.agg #[.int .i64 0, .bool false, .slice none 0 0, .int .i64 0], .int .i64 er])) (hb : Below w.heap.size w w') : GivesVe w zeroVl er en w' := by
  refine ⟨none, 0, ?_, ?_, hb⟩
  · rw [h]; show _ = Ending.returned (.tuple #[.agg #[_, _, .slice none (dig B32 0).length 0, _], _]); rw [dig_zero]; rfl
  · show Own _ _ _ _ _ _ (dig B32 0); rw [dig_zero]; exact Own.nil _ _ _ _

theorem Decode_any (n : Int) (s : ByteArray) (w : World) (hT : TabW w) :
    Calls Tryd.prog 23 #[.int .i64 n, .string s] w (GivesVe w (decP n s) (errPat n s)) := by
  by_cases hn : IsFm n
  · by_cases hs : s.size = (fmt n).size
    · have h0 : errPat n s = 0 := errPat_zero.2 ⟨hn, hs⟩
      have hd : decP n s = (fmt n).valN (numOfS (fmt n) s) := by unfold decP; rw [if_pos h0]
      rw [hd, h0]
      have HF := fun W => Lib.hid (open_ok n s W hn hs)
      have HD := fun W h => Lib.hid (decode_any (fmt n) s W (good_fm hn) hs h)
      generalize (fmt n).valN (numOfS (fmt n) s) = v at *
      generalize (fmt n).neg (numOfS (fmt n) s) = g at *
      generalize fmt n = f at *
      have hT56 : SxAgg Tryd.prog 56 4 := sxAgg_of (by kernel_rfl) (by kernel_rfl)
      have hT116 : SxAgg Tryd.prog 116 12 := sxAgg_of (by kernel_rfl) (by kernel_rfl)
      refine calls_of_wp Tryd.func23 rfl ?_
      refine sx_frame (a' := ⟨((.int .i64 n) :: (.string s) :: us 25 []).toArray, []⟩) (by kernel_rfl) ?_
      refine ye ?_
      refine yw 0 rfl 4 #[.int .i64 0, .bool false, .slice none 0 0, .int .i64 0] 56 (fun V1 hbV1 hzV1 b4 => ?_)
      refine yzt 1 ?_
      refine ye ?_
      refine yc 2 rfl 13 ((HF V1).out) (fun Gx hGx => ?_)
      rintro eV2 V2 ⟨rfl, hbV2⟩
      have hzV2 := hbV2.size
      refine ⟨_, rfl, hGx _ _ ?_⟩
      clear hGx Gx
      refine yw 3 rfl 6 #[.int .i64 0, .int .i64 0, .int .i64 0, .int .i64 0, .int .i64 0, .int .i64 0, .int .i64 0, .bool false, .bool false, .bool false, .bool false, .nilFunc] 116 (fun V3 hbV3 hzV3 b6 => ?_)
      have boV4 := b6
      refine ysw 0 rfl b6 hT116 #[.int .i64 ((f.size : Nat) : Int), .int .i64 ((f.E : Nat) : Int), .int .i64 ((f.F : Nat) : Int), .int .i64 f.g.rad, .int .i64 f.g.digs, .int .i64 f.g.lo, .int .i64 f.g.hi, .bool f.g.grad, .bool f.hid, .bool f.inf, .bool f.res, .func (.func (ordF f)) #[] #[]] ?_
      clear b6
      intro V4 hOV4 b6
      have hzV4 := hOV4.size
      refine yzt 1 ?_
      refine wp_seq ?_
      refine yq ?_
      refine yF ?_
      refine wp_skip ?_
      refine sx_then ?_
      refine ye ?_
      refine yla 0 rfl 21 b6 hT116 0 ?_
      replace hT := (hT.past ((bthru (bthru hbV1 hbV2) hbV3).trans (hOV4.below (by omega))))
      refine yc 1 rfl 23 ((HD V4 hT).out) (fun Gx hGx => ?_)
      rintro eV5 V5 ⟨p23, c23, rfl, o23, hbV5⟩
      have hzV5 := hbV5.size
      refine ⟨_, rfl, hGx _ _ ?_⟩
      clear hGx Gx
      refine yw 3 rfl 8 #[.int .i64 0, .bool false, .slice none 0 0, .int .i64 0] 56 (fun V6 hbV6 hzV6 b8 => ?_)
      have boV7 := b8
      refine ysw 0 rfl b8 hT56 #[.int .i64 ((v.cls : Nat) : Int), .bool v.neg, .slice p23 (dig B32 v.d).length c23, .int .i64 v.pow] ?_
      clear b8
      intro V7 hOV7 b8
      have hzV7 := hOV7.size
      refine yzt 1 ?_
      refine ye ?_
      refine yla 0 rfl 26 b8 hT56 0 ?_
      replace b4 := (b4.past ((bthru (bthru ((bthru hbV2 hbV3).trans (hOV4.below (by omega))) hbV5) hbV6).trans (hOV7.below (by omega))))
      have boV8 := b4
      refine ysw 0 rfl b4 hT56 #[.int .i64 ((v.cls : Nat) : Int), .bool v.neg, .slice p23 (dig B32 v.d).length c23, .int .i64 v.pow] ?_
      clear b4
      intro V8 hOV8 b4
      have hzV8 := hOV8.size
      refine yzt 1 ?_
      refine wp_ret ?_
      repeat (first | with_reducible refine sx_thenret ?_ | with_reducible refine sx_blockret ?_)
      refine yret (.tuple #[.agg #[.int .i64 ((v.cls : Nat) : Int), .bool v.neg, .slice p23 (dig B32 v.d).length c23, .int .i64 v.pow], .int .i64 0]) (res2 Tryd.results23 (rvr b4 hT56) rvt) ?_
      replace o23 := ((o23.past (hbV6.trans (hOV7.below (by omega)))).put boV8 hOV8 (by kernel_rfl))
      exact ⟨p23, c23, rfl, o23.mono (by omega), (((bthru (bthru ((bthru (bthru hbV1 hbV2) hbV3).trans (hOV4.below (by omega))) hbV5) hbV6).trans (hOV7.below (by omega))).trans (hOV8.below (by omega)))⟩
    · have h0 : errPat n s = 1 := by unfold errPat; rw [if_pos hn, if_neg hs]
      have hd : decP n s = zeroVl := by unfold decP; rw [if_neg (by omega)]
      rw [hd, h0]
      have HF := fun W => Lib.hid (open_one n s W hn hs)
      generalize fmt n = f at *
      have hT56 : SxAgg Tryd.prog 56 4 := sxAgg_of (by kernel_rfl) (by kernel_rfl)
      have hT116 : SxAgg Tryd.prog 116 12 := sxAgg_of (by kernel_rfl) (by kernel_rfl)
      refine calls_of_wp Tryd.func23 rfl ?_
      refine sx_frame (a' := ⟨((.int .i64 n) :: (.string s) :: us 25 []).toArray, []⟩) (by kernel_rfl) ?_
      refine ye ?_
      refine yw 0 rfl 4 #[.int .i64 0, .bool false, .slice none 0 0, .int .i64 0] 56 (fun V1 hbV1 hzV1 b4 => ?_)
      refine yzt 1 ?_
      refine ye ?_
      refine yc 2 rfl 13 ((HF V1).out) (fun Gx hGx => ?_)
      rintro eV2 V2 ⟨rfl, hbV2⟩
      have hzV2 := hbV2.size
      refine ⟨_, rfl, hGx _ _ ?_⟩
      clear hGx Gx
      refine yw 3 rfl 6 #[.int .i64 0, .int .i64 0, .int .i64 0, .int .i64 0, .int .i64 0, .int .i64 0, .int .i64 0, .bool false, .bool false, .bool false, .bool false, .nilFunc] 116 (fun V3 hbV3 hzV3 b6 => ?_)
      have boV4 := b6
      refine ysw 0 rfl b6 hT116 #[.int .i64 ((f.size : Nat) : Int), .int .i64 ((f.E : Nat) : Int), .int .i64 ((f.F : Nat) : Int), .int .i64 f.g.rad, .int .i64 f.g.digs, .int .i64 f.g.lo, .int .i64 f.g.hi, .bool f.g.grad, .bool f.hid, .bool f.inf, .bool f.res, .func (.func (ordF f)) #[] #[]] ?_
      clear b6
      intro V4 hOV4 b6
      have hzV4 := hOV4.size
      refine yzt 1 ?_
      refine wp_seq ?_
      refine yq ?_
      refine yT ?_
      refine ye ?_
      replace b4 := (b4.past ((bthru hbV2 hbV3).trans (hOV4.below (by omega))))
      have boV5 := b4
      refine ysw 2 rfl b4 hT56 #[.int .i64 0, .bool false, .slice none 0 0, .int .i64 0] ?_
      clear b4
      intro V5 hOV5 b4
      have hzV5 := hOV5.size
      refine yzt 1 ?_
      refine wp_ret ?_
      repeat (first | with_reducible refine sx_thenret ?_ | with_reducible refine sx_blockret ?_)
      refine yret (.tuple #[.agg #[.int .i64 0, .bool false, .slice none 0 0, .int .i64 0], .int .i64 1]) (res2 Tryd.results23 (rvr b4 hT56) rvt) ?_
      exact givesVe_err rfl (((bthru (bthru hbV1 hbV2) hbV3).trans (hOV4.below (by omega))).trans (hOV5.below (by omega)))
  · have h0 : errPat n s = 6 := by unfold errPat; rw [if_neg hn]
    have hd : decP n s = zeroVl := by unfold decP; rw [if_neg (by omega)]
    rw [hd, h0]
    have HF := fun W => Lib.hid (open_six n s W hn)
    have hT56 : SxAgg Tryd.prog 56 4 := sxAgg_of (by kernel_rfl) (by kernel_rfl)
    have hT116 : SxAgg Tryd.prog 116 12 := sxAgg_of (by kernel_rfl) (by kernel_rfl)
    refine calls_of_wp Tryd.func23 rfl ?_
    refine sx_frame (a' := ⟨((.int .i64 n) :: (.string s) :: us 25 []).toArray, []⟩) (by kernel_rfl) ?_
    refine ye ?_
    refine yw 0 rfl 4 #[.int .i64 0, .bool false, .slice none 0 0, .int .i64 0] 56 (fun V1 hbV1 hzV1 b4 => ?_)
    refine yzt 1 ?_
    refine ye ?_
    refine yc 2 rfl 13 ((HF V1).out) (fun Gx hGx => ?_)
    rintro eV2 V2 ⟨rfl, hbV2⟩
    have hzV2 := hbV2.size
    refine ⟨_, rfl, hGx _ _ ?_⟩
    clear hGx Gx
    refine yw 3 rfl 6 #[.int .i64 0, .int .i64 0, .int .i64 0, .int .i64 0, .int .i64 0, .int .i64 0, .int .i64 0, .bool false, .bool false, .bool false, .bool false, .nilFunc] 116 (fun V3 hbV3 hzV3 b6 => ?_)
    have boV4 := b6
    refine ysw 0 rfl b6 hT116 #[.int .i64 0, .int .i64 0, .int .i64 0, .int .i64 0, .int .i64 0, .int .i64 0, .int .i64 0, .bool false, .bool false, .bool false, .bool false, .nilFunc] ?_
    clear b6
    intro V4 hOV4 b6
    have hzV4 := hOV4.size
    refine yzt 1 ?_
    refine wp_seq ?_
    refine yq ?_
    refine yT ?_
    refine ye ?_
    replace b4 := (b4.past ((bthru hbV2 hbV3).trans (hOV4.below (by omega))))
    have boV5 := b4
    refine ysw 2 rfl b4 hT56 #[.int .i64 0, .bool false, .slice none 0 0, .int .i64 0] ?_
    clear b4
    intro V5 hOV5 b4
    have hzV5 := hOV5.size
    refine yzt 1 ?_
    refine wp_ret ?_
    repeat (first | with_reducible refine sx_thenret ?_ | with_reducible refine sx_blockret ?_)
    refine yret (.tuple #[.agg #[.int .i64 0, .bool false, .slice none 0 0, .int .i64 0], .int .i64 6]) (res2 Tryd.results23 (rvr b4 hT56) rvt) ?_
    exact givesVe_err rfl (((bthru (bthru hbV1 hbV2) hbV3).trans (hOV4.below (by omega))).trans (hOV5.below (by omega)))

theorem Class_any (n : Int) (s : ByteArray) (w : World) (hT : TabW w) :
    Calls Tryd.prog 35 #[.int .i64 n, .string s] w fun en w' => en = .returned (.tuple #[.int .i64 (((decP n s).cls : Nat) : Int), .bool (if errPat n s = 0 then (fmt n).neg (numOfS (fmt n) s) else false), .int .i64 (errPat n s)]) ∧ Below w.heap.size w w' := by
  by_cases hn : IsFm n
  · by_cases hs : s.size = (fmt n).size
    · have h0 : errPat n s = 0 := errPat_zero.2 ⟨hn, hs⟩
      have hd : decP n s = (fmt n).valN (numOfS (fmt n) s) := by unfold decP; rw [if_pos h0]
      rw [hd, h0, if_pos rfl]
      have HF := fun W => Lib.hid (open_ok n s W hn hs)
      have HD := fun W h => Lib.hid (decode_any (fmt n) s W (good_fm hn) hs h)
      generalize (fmt n).valN (numOfS (fmt n) s) = v at *
      generalize (fmt n).neg (numOfS (fmt n) s) = g at *
      generalize fmt n = f at *
      have hT3 : SxOne Tryd.prog 3 := sxOne_of (by kernel_rfl) (by kernel_rfl)
      have hT56 : SxAgg Tryd.prog 56 4 := sxAgg_of (by kernel_rfl) (by kernel_rfl)
      have hT116 : SxAgg Tryd.prog 116 12 := sxAgg_of (by kernel_rfl) (by kernel_rfl)
      refine calls_of_wp Tryd.func35 rfl ?_
      refine sx_frame (a' := ⟨((.int .i64 n) :: (.string s) :: us 27 []).toArray, []⟩) (by kernel_rfl) ?_
      refine yq ?_
      refine ye ?_
      refine yc 2 rfl 14 ((HF w).out) (fun Gx hGx => ?_)
      rintro eV1 V1 ⟨rfl, hbV1⟩
      have hzV1 := hbV1.size
      refine ⟨_, rfl, hGx _ _ ?_⟩
      clear hGx Gx
      refine yw 3 rfl 7 #[.int .i64 0, .int .i64 0, .int .i64 0, .int .i64 0, .int .i64 0, .int .i64 0, .int .i64 0, .bool false, .bool false, .bool false, .bool false, .nilFunc] 116 (fun V2 hbV2 hzV2 b7 => ?_)
      have boV3 := b7
      refine ysw 0 rfl b7 hT116 #[.int .i64 ((f.size : Nat) : Int), .int .i64 ((f.E : Nat) : Int), .int .i64 ((f.F : Nat) : Int), .int .i64 f.g.rad, .int .i64 f.g.digs, .int .i64 f.g.lo, .int .i64 f.g.hi, .bool f.g.grad, .bool f.hid, .bool f.inf, .bool f.res, .func (.func (ordF f)) #[] #[]] ?_
      clear b7
      intro V3 hOV3 b7
      have hzV3 := hOV3.size
      refine yzt 1 ?_
      refine wp_seq ?_
      refine yq ?_
      refine yF ?_
      refine wp_skip ?_
      refine sx_then ?_
      refine ye ?_
      refine yla 0 rfl 21 b7 hT116 0 ?_
      replace hT := (hT.past ((bthru hbV1 hbV2).trans (hOV3.below (by omega))))
      refine yc 1 rfl 23 ((HD V3 hT).out) (fun Gx hGx => ?_)
      rintro eV4 V4 ⟨p23, c23, rfl, o23, hbV4⟩
      have hzV4 := hbV4.size
      refine ⟨_, rfl, hGx _ _ ?_⟩
      clear hGx Gx
      refine yw 3 rfl 9 #[.int .i64 0, .bool false, .slice none 0 0, .int .i64 0] 56 (fun V5 hbV5 hzV5 b9 => ?_)
      have boV6 := b9
      refine ysw 0 rfl b9 hT56 #[.int .i64 ((v.cls : Nat) : Int), .bool v.neg, .slice p23 (dig B32 v.d).length c23, .int .i64 v.pow] ?_
      clear b9
      intro V6 hOV6 b9
      have hzV6 := hOV6.size
      refine yzt 1 ?_
      refine ye ?_
      refine yl 1 rfl 27 b9 hT3 0 ?_
      refine yzt 4 ?_
      refine wp_ret ?_
      repeat (first | with_reducible refine sx_thenret ?_ | with_reducible refine sx_blockret ?_)
      refine yret (.tuple #[.int .i64 ((v.cls : Nat) : Int), .bool g, .int .i64 0]) (res3 Tryd.results35 rvt rvt rvt) ?_
      exact ⟨rfl, ((bthru (bthru ((bthru hbV1 hbV2).trans (hOV3.below (by omega))) hbV4) hbV5).trans (hOV6.below (by omega)))⟩
    · have h0 : errPat n s = 1 := by unfold errPat; rw [if_pos hn, if_neg hs]
      have hd : decP n s = zeroVl := by unfold decP; rw [if_neg (by omega)]
      rw [hd, h0, if_neg (by omega)]
      have HF := fun W => Lib.hid (open_one n s W hn hs)
      generalize fmt n = f at *
      have hT116 : SxAgg Tryd.prog 116 12 := sxAgg_of (by kernel_rfl) (by kernel_rfl)
      refine calls_of_wp Tryd.func35 rfl ?_
      refine sx_frame (a' := ⟨((.int .i64 n) :: (.string s) :: us 27 []).toArray, []⟩) (by kernel_rfl) ?_
      refine yq ?_
      refine ye ?_
      refine yc 2 rfl 14 ((HF w).out) (fun Gx hGx => ?_)
      rintro eV1 V1 ⟨rfl, hbV1⟩
      have hzV1 := hbV1.size
      refine ⟨_, rfl, hGx _ _ ?_⟩
      clear hGx Gx
      refine yw 3 rfl 7 #[.int .i64 0, .int .i64 0, .int .i64 0, .int .i64 0, .int .i64 0, .int .i64 0, .int .i64 0, .bool false, .bool false, .bool false, .bool false, .nilFunc] 116 (fun V2 hbV2 hzV2 b7 => ?_)
      have boV3 := b7
      refine ysw 0 rfl b7 hT116 #[.int .i64 ((f.size : Nat) : Int), .int .i64 ((f.E : Nat) : Int), .int .i64 ((f.F : Nat) : Int), .int .i64 f.g.rad, .int .i64 f.g.digs, .int .i64 f.g.lo, .int .i64 f.g.hi, .bool f.g.grad, .bool f.hid, .bool f.inf, .bool f.res, .func (.func (ordF f)) #[] #[]] ?_
      clear b7
      intro V3 hOV3 b7
      have hzV3 := hOV3.size
      refine yzt 1 ?_
      refine wp_seq ?_
      refine yq ?_
      refine yT ?_
      refine yq ?_
      refine wp_ret ?_
      repeat (first | with_reducible refine sx_thenret ?_ | with_reducible refine sx_blockret ?_)
      refine yret (.tuple #[.int .i64 0, .bool false, .int .i64 1]) (res3 Tryd.results35 rvt rvt rvt) ?_
      exact ⟨rfl, ((bthru hbV1 hbV2).trans (hOV3.below (by omega)))⟩
  · have h0 : errPat n s = 6 := by unfold errPat; rw [if_neg hn]
    have hd : decP n s = zeroVl := by unfold decP; rw [if_neg (by omega)]
    rw [hd, h0, if_neg (by omega)]
    have HF := fun W => Lib.hid (open_six n s W hn)
    have hT116 : SxAgg Tryd.prog 116 12 := sxAgg_of (by kernel_rfl) (by kernel_rfl)
    refine calls_of_wp Tryd.func35 rfl ?_
    refine sx_frame (a' := ⟨((.int .i64 n) :: (.string s) :: us 27 []).toArray, []⟩) (by kernel_rfl) ?_
    refine yq ?_
    refine ye ?_
    refine yc 2 rfl 14 ((HF w).out) (fun Gx hGx => ?_)
    rintro eV1 V1 ⟨rfl, hbV1⟩
    have hzV1 := hbV1.size
    refine ⟨_, rfl, hGx _ _ ?_⟩
    clear hGx Gx
    refine yw 3 rfl 7 #[.int .i64 0, .int .i64 0, .int .i64 0, .int .i64 0, .int .i64 0, .int .i64 0, .int .i64 0, .bool false, .bool false, .bool false, .bool false, .nilFunc] 116 (fun V2 hbV2 hzV2 b7 => ?_)
    have boV3 := b7
    refine ysw 0 rfl b7 hT116 #[.int .i64 0, .int .i64 0, .int .i64 0, .int .i64 0, .int .i64 0, .int .i64 0, .int .i64 0, .bool false, .bool false, .bool false, .bool false, .nilFunc] ?_
    clear b7
    intro V3 hOV3 b7
    have hzV3 := hOV3.size
    refine yzt 1 ?_
    refine wp_seq ?_
    refine yq ?_
    refine yT ?_
    refine yq ?_
    refine wp_ret ?_
    repeat (first | with_reducible refine sx_thenret ?_ | with_reducible refine sx_blockret ?_)
    refine yret (.tuple #[.int .i64 0, .bool false, .int .i64 6]) (res3 Tryd.results35 rvt rvt rvt) ?_
    exact ⟨rfl, ((bthru hbV1 hbV2).trans (hOV3.below (by omega)))⟩

def errFm (n : Int) : Int := if IsFm n then 0 else 6
theorem fmt_not {n : Int} (h : ¬ IsFm n) : fmt n = ⟨0, 0, 0, ⟨0, 0, 0, 0, false⟩, 0, false⟩ := by
  unfold IsFm at h
  unfold fmt
  rw [if_neg (by omega), if_neg (by omega), if_neg (by omega), if_neg (by omega), if_neg (by omega), if_neg (by omega), if_neg (by omega), if_neg (by omega)]
theorem Size_any (n : Int) (w : World) : Calls Tryd.prog 32 #[.int .i64 n] w fun en w' => en = .returned (.tuple #[.int .i64 (((fmt n).size : Nat) : Int), .int .i64 (errFm n)]) ∧ Below w.heap.size w w' := by
  by_cases hn : IsFm n
  · have h0 : errFm n = 0 := by unfold errFm; rw [if_pos hn]
    rw [h0]
    have HF := fun W => Lib.hid (forms_any n hn W)
    generalize fmt n = f at *
    have hT3 : SxOne Tryd.prog 3 := sxOne_of (by kernel_rfl) (by kernel_rfl)
    have hT116 : SxAgg Tryd.prog 116 12 := sxAgg_of (by kernel_rfl) (by kernel_rfl)
    refine calls_of_wp Tryd.func32 rfl ?_
    refine sx_frame (a' := ⟨((.int .i64 n) :: us 13 []).toArray, []⟩) (by kernel_rfl) ?_
    refine yq ?_
    refine ye ?_
    refine yc 1 rfl 8 ((HF w).out) (fun Gx hGx => ?_)
    rintro eV1 V1 ⟨rfl, hbV1⟩
    have hzV1 := hbV1.size
    refine ⟨_, rfl, hGx _ _ ?_⟩
    clear hGx Gx
    refine yw 3 rfl 4 #[.int .i64 0, .int .i64 0, .int .i64 0, .int .i64 0, .int .i64 0, .int .i64 0, .int .i64 0, .bool false, .bool false, .bool false, .bool false, .nilFunc] 116 (fun V2 hbV2 hzV2 b4 => ?_)
    have boV3 := b4
    refine ysw 0 rfl b4 hT116 #[.int .i64 ((f.size : Nat) : Int), .int .i64 ((f.E : Nat) : Int), .int .i64 ((f.F : Nat) : Int), .int .i64 f.g.rad, .int .i64 f.g.digs, .int .i64 f.g.lo, .int .i64 f.g.hi, .bool f.g.grad, .bool f.hid, .bool f.inf, .bool f.res, .func (.func (ordF f)) #[] #[]] ?_
    clear b4
    intro V3 hOV3 b4
    have hzV3 := hOV3.size
    refine yzt 1 ?_
    refine ye ?_
    refine yl 1 rfl 12 b4 hT3 0 ?_
    refine yzt 3 ?_
    refine wp_ret ?_
    repeat (first | with_reducible refine sx_thenret ?_ | with_reducible refine sx_blockret ?_)
    refine yret (.tuple #[.int .i64 ((f.size : Nat) : Int), .int .i64 0]) (res2 Tryd.results32 rvt rvt) ?_
    exact ⟨rfl, ((bthru hbV1 hbV2).trans (hOV3.below (by omega)))⟩
  · have h0 : errFm n = 6 := by unfold errFm; rw [if_neg hn]
    rw [h0, fmt_not hn]
    have HF := fun W => Lib.hid (forms_not n hn W)
    have hT3 : SxOne Tryd.prog 3 := sxOne_of (by kernel_rfl) (by kernel_rfl)
    have hT116 : SxAgg Tryd.prog 116 12 := sxAgg_of (by kernel_rfl) (by kernel_rfl)
    refine calls_of_wp Tryd.func32 rfl ?_
    refine sx_frame (a' := ⟨((.int .i64 n) :: us 13 []).toArray, []⟩) (by kernel_rfl) ?_
    refine yq ?_
    refine ye ?_
    refine yc 1 rfl 8 ((HF w).out) (fun Gx hGx => ?_)
    rintro eV1 V1 ⟨rfl, hbV1⟩
    have hzV1 := hbV1.size
    refine ⟨_, rfl, hGx _ _ ?_⟩
    clear hGx Gx
    refine yw 3 rfl 4 #[.int .i64 0, .int .i64 0, .int .i64 0, .int .i64 0, .int .i64 0, .int .i64 0, .int .i64 0, .bool false, .bool false, .bool false, .bool false, .nilFunc] 116 (fun V2 hbV2 hzV2 b4 => ?_)
    have boV3 := b4
    refine ysw 0 rfl b4 hT116 #[.int .i64 0, .int .i64 0, .int .i64 0, .int .i64 0, .int .i64 0, .int .i64 0, .int .i64 0, .bool false, .bool false, .bool false, .bool false, .nilFunc] ?_
    clear b4
    intro V3 hOV3 b4
    have hzV3 := hOV3.size
    refine yzt 1 ?_
    refine ye ?_
    refine yl 1 rfl 12 b4 hT3 0 ?_
    refine yzt 3 ?_
    refine wp_ret ?_
    repeat (first | with_reducible refine sx_thenret ?_ | with_reducible refine sx_blockret ?_)
    refine yret (.tuple #[.int .i64 0, .int .i64 6]) (res2 Tryd.results32 rvt rvt) ?_
    exact ⟨rfl, ((bthru hbV1 hbV2).trans (hOV3.below (by omega)))⟩
theorem Grid_any (n : Int) (w : World) : Calls Tryd.prog 33 #[.int .i64 n] w fun en w' => en = .returned (.tuple #[.agg #[.int .i64 (fmt n).g.rad, .int .i64 (fmt n).g.digs, .int .i64 (fmt n).g.lo, .int .i64 (fmt n).g.hi, .bool (fmt n).g.grad], .int .i64 (errFm n)]) ∧ Below w.heap.size w w' := by
  by_cases hn : IsFm n
  · have h0 : errFm n = 0 := by unfold errFm; rw [if_pos hn]
    rw [h0]
    have HF := fun W => Lib.hid (forms_any n hn W)
    generalize fmt n = f at *
    have hT29 : SxAgg Tryd.prog 29 5 := sxAgg_of (by kernel_rfl) (by kernel_rfl)
    have hT116 : SxAgg Tryd.prog 116 12 := sxAgg_of (by kernel_rfl) (by kernel_rfl)
    refine calls_of_wp Tryd.func33 rfl ?_
    refine sx_frame (a' := ⟨((.int .i64 n) :: us 13 []).toArray, []⟩) (by kernel_rfl) ?_
    refine ye ?_
    refine yw 0 rfl 2 #[.int .i64 0, .int .i64 0, .int .i64 0, .int .i64 0, .bool false] 29 (fun V1 hbV1 hzV1 b2 => ?_)
    refine yzt 1 ?_
    refine ye ?_
    refine yc 1 rfl 8 ((HF V1).out) (fun Gx hGx => ?_)
    rintro eV2 V2 ⟨rfl, hbV2⟩
    have hzV2 := hbV2.size
    refine ⟨_, rfl, hGx _ _ ?_⟩
    clear hGx Gx
    refine yw 3 rfl 4 #[.int .i64 0, .int .i64 0, .int .i64 0, .int .i64 0, .int .i64 0, .int .i64 0, .int .i64 0, .bool false, .bool false, .bool false, .bool false, .nilFunc] 116 (fun V3 hbV3 hzV3 b4 => ?_)
    have boV4 := b4
    refine ysw 0 rfl b4 hT116 #[.int .i64 ((f.size : Nat) : Int), .int .i64 ((f.E : Nat) : Int), .int .i64 ((f.F : Nat) : Int), .int .i64 f.g.rad, .int .i64 f.g.digs, .int .i64 f.g.lo, .int .i64 f.g.hi, .bool f.g.grad, .bool f.hid, .bool f.inf, .bool f.res, .func (.func (ordF f)) #[] #[]] ?_
    clear b4
    intro V4 hOV4 b4
    have hzV4 := hOV4.size
    refine yzt 1 ?_
    refine ye ?_
    refine yla 1 rfl 12 b4 hT29 3 ?_
    replace b2 := (b2.past ((bthru hbV2 hbV3).trans (hOV4.below (by omega))))
    have boV5 := b2
    refine ysw 1 rfl b2 hT29 #[.int .i64 f.g.rad, .int .i64 f.g.digs, .int .i64 f.g.lo, .int .i64 f.g.hi, .bool f.g.grad] ?_
    clear b2
    intro V5 hOV5 b2
    have hzV5 := hOV5.size
    refine yzt 1 ?_
    refine wp_ret ?_
    repeat (first | with_reducible refine sx_thenret ?_ | with_reducible refine sx_blockret ?_)
    refine yret (.tuple #[.agg #[.int .i64 f.g.rad, .int .i64 f.g.digs, .int .i64 f.g.lo, .int .i64 f.g.hi, .bool f.g.grad], .int .i64 0]) (res2 Tryd.results33 (rvr b2 hT29) rvt) ?_
    exact ⟨rfl, (((bthru (bthru hbV1 hbV2) hbV3).trans (hOV4.below (by omega))).trans (hOV5.below (by omega)))⟩
  · have h0 : errFm n = 6 := by unfold errFm; rw [if_neg hn]
    rw [h0, fmt_not hn]
    have HF := fun W => Lib.hid (forms_not n hn W)
    have hT29 : SxAgg Tryd.prog 29 5 := sxAgg_of (by kernel_rfl) (by kernel_rfl)
    have hT116 : SxAgg Tryd.prog 116 12 := sxAgg_of (by kernel_rfl) (by kernel_rfl)
    refine calls_of_wp Tryd.func33 rfl ?_
    refine sx_frame (a' := ⟨((.int .i64 n) :: us 13 []).toArray, []⟩) (by kernel_rfl) ?_
    refine ye ?_
    refine yw 0 rfl 2 #[.int .i64 0, .int .i64 0, .int .i64 0, .int .i64 0, .bool false] 29 (fun V1 hbV1 hzV1 b2 => ?_)
    refine yzt 1 ?_
    refine ye ?_
    refine yc 1 rfl 8 ((HF V1).out) (fun Gx hGx => ?_)
    rintro eV2 V2 ⟨rfl, hbV2⟩
    have hzV2 := hbV2.size
    refine ⟨_, rfl, hGx _ _ ?_⟩
    clear hGx Gx
    refine yw 3 rfl 4 #[.int .i64 0, .int .i64 0, .int .i64 0, .int .i64 0, .int .i64 0, .int .i64 0, .int .i64 0, .bool false, .bool false, .bool false, .bool false, .nilFunc] 116 (fun V3 hbV3 hzV3 b4 => ?_)
    have boV4 := b4
    refine ysw 0 rfl b4 hT116 #[.int .i64 0, .int .i64 0, .int .i64 0, .int .i64 0, .int .i64 0, .int .i64 0, .int .i64 0, .bool false, .bool false, .bool false, .bool false, .nilFunc] ?_
    clear b4
    intro V4 hOV4 b4
    have hzV4 := hOV4.size
    refine yzt 1 ?_
    refine ye ?_
    refine yla 1 rfl 12 b4 hT29 3 ?_
    replace b2 := (b2.past ((bthru hbV2 hbV3).trans (hOV4.below (by omega))))
    have boV5 := b2
    refine ysw 1 rfl b2 hT29 #[.int .i64 0, .int .i64 0, .int .i64 0, .int .i64 0, .bool false] ?_
    clear b2
    intro V5 hOV5 b2
    have hzV5 := hOV5.size
    refine yzt 1 ?_
    refine wp_ret ?_
    repeat (first | with_reducible refine sx_thenret ?_ | with_reducible refine sx_blockret ?_)
    refine yret (.tuple #[.agg #[.int .i64 0, .int .i64 0, .int .i64 0, .int .i64 0, .bool false], .int .i64 6]) (res2 Tryd.results33 (rvr b2 hT29) rvt) ?_
    exact ⟨rfl, (((bthru (bthru hbV1 hbV2) hbV3).trans (hOV4.below (by omega))).trans (hOV5.below (by omega)))⟩

end Go.Proofs.YtcipdimogodndaaDoor

namespace Go.Proofs.YtcipdimogodndaaDoor
open Go.RowKit Go.Slip

def numD (f : Fm) (a : Din) : Dv := bare ⟨a.g, val B32 a.xs, wid f.g * a.e⟩
def errEnc (f : Fm) (cls : Int) (a : Din) : Int :=
  if cls < 1 ∨ 5 < cls then 6
  else if errNat a.xs ≠ 0 then errNat a.xs
  else if ((cls = 3 ∨ cls = 4) ∧ f.inf = false) ∨ (cls = 5 ∧ f.res = false) then 5
  else if cls = 2 then
    if a.e < -20000 ∨ 20000 < a.e then 3
    else if a.xs.length = 0 ∨ inGridD (numD f a) f.g = false then 4 else 0
  else if 0 < a.xs.length ∨ a.e ≠ 0 ∨ (a.g = true ∧ (4 ≤ cls ∨ f.res = true)) then 4 else 0
def encOut (f : Fm) (cls : Int) (a : Din) : ByteArray := strOf (f.strP (f.encP cls.toNat a.g (numD f a)))
def GivesS (w : World) (er : Int) (s : ByteArray) (en : Ending) (w' : World) : Prop :=
  en = .returned (.tuple #[.string (if er = 0 then s else strOf []), .int .i64 er]) ∧ Below w.heap.size w w'
theorem givesS_err {w w' : World} {er r : Int} {s : ByteArray} {en : Ending} (h : er = r) (hr : r ≠ 0) (he : en = .returned (.tuple #[.string ⟨#[]⟩, .int .i64 r])) (hb : Below w.heap.size w w') : GivesS w er s en w' := by
  subst h
  exact ⟨by rw [he, if_neg hr]; rfl, hb⟩
theorem givesS_ok {w w' : World} {er : Int} {s t : ByteArray} {en : Ending} (h : er = 0) (hs : s = t) (he : en = .returned (.tuple #[.string t, .int .i64 0])) (hb : Below w.heap.size w w') : GivesS w er s en w' := by
  subst h hs
  exact ⟨by rw [he, if_pos rfl], hb⟩

theorem numD_bd {f : Fm} {w : World} {a : Din} (ha : InD w a) (h : errNat a.xs = 0) (he : -20000 ≤ a.e ∧ a.e ≤ 20000) : (dig B32 (numD f a).m).length ≤ 1200 ∧ -100000 ≤ (numD f a).e ∧ (numD f a).e ≤ 150000 := by
  obtain ⟨h1, h2⟩ := errNat_ok ha.lt h
  have hl : (dig B32 (val B32 a.xs)).length ≤ 1200 := by rw [← h1]; exact h2
  have k1 := bare_len B32_two (⟨a.g, val B32 a.xs, wid f.g * a.e⟩ : Dv)
  have wp := wid_pos f.g
  have hmu := mul_bd (wd := wid f.g) (k := a.e) (B := 20000) wp.2 he
  refine ⟨Nat.le_trans k1 hl, ?_⟩
  unfold numD
  by_cases h0 : val B32 a.xs = 0
  · rw [h0, bare_zero]; simp
  · have ht := tz_lt_blen (m := val B32 a.xs) (by omega)
    have hb := blen_len32 (val B32 a.xs)
    unfold bare
    rw [if_neg h0]
    simp only
    omega

theorem join_nil (f : Fm) (g : Bool) (E : Int) (e : Nat) (hE : E = e) (w : World) (G : GoodF f) (he : e < 2 ^ f.E) :
    Calls Tryd.prog 75 #[.agg #[.int .i64 ((f.size : Nat) : Int), .int .i64 ((f.E : Nat) : Int), .int .i64 ((f.F : Nat) : Int), .int .i64 f.g.rad, .int .i64 f.g.digs, .int .i64 f.g.lo, .int .i64 f.g.hi, .bool f.g.grad, .bool f.hid, .bool f.inf, .bool f.res, .func (.func (ordF f)) #[] #[]], .agg #[.bool g, .int .i64 E, .slice none 0 0]] w fun en w' => en = .returned (.string (strOf (f.str g e 0))) ∧ Below w.heap.size w w' := by
  have := join_int f g E e 0 hE none 0 w G (by rw [dig_zero]; exact Rd.nil _ _ _) he (Nat.pow_pos (by omega))
  rw [dig_zero] at this
  exact this

set_option maxHeartbeats 4000000 in
set_option maxRecDepth 100000 in
theorem encode_fm (n : Int) (cls : Int) (a : Din) (w : World) (hn : IsFm n) (ha : InD w a) (hT : TabW w) :
    Calls Tryd.prog 29 #[.int .i64 n, .agg #[.int .i64 cls, .bool a.g, .slice a.p a.xs.length a.c, .int .i64 a.e]] w (GivesS w (errEnc (fmt n) cls a) (encOut (fmt n) cls a)) := by
  have G := good_fm hn
  have HF := fun W => Lib.hid (forms_any n hn W)
  generalize fmt n = f at *
  have HR : ∀ (W : World), errNat a.xs = 0 → Rd W .u32 a.p a.xs → -20000 ≤ a.e ∧ a.e ≤ 20000 → TabW W → Hid (Calls Tryd.prog 71 #[.agg #[.int .i64 ((f.size : Nat) : Int), .int .i64 ((f.E : Nat) : Int), .int .i64 ((f.F : Nat) : Int), .int .i64 f.g.rad, .int .i64 f.g.digs, .int .i64 f.g.lo, .int .i64 f.g.hi, .bool f.g.grad, .bool f.hid, .bool f.inf, .bool f.res, .func (.func (ordF f)) #[] #[]], .agg #[.int .i64 cls, .bool a.g, .slice a.p a.xs.length a.c, .int .i64 a.e]] W (GivesD W W.heap.size (numD f a))) := by
    intro W h1 h2 h3 h4
    obtain ⟨k1, k2⟩ := errNat_ok ha.lt h1
    have hc := ha.cap
    have := raw_any f a.g (val B32 a.xs) a.e cls a.p a.c W (by rw [← k1]; exact h2) (by rw [← k1]; exact hc) (by rw [← k1]; omega) ⟨by omega, by omega⟩ h4
    rw [← k1] at this
    exact Lib.hid this
  have hB : Bare (numD f a) := bare_bare _
  have hbd := fun h h2 => numD_bd (f := f) ha h h2
  have hkp := keeps_eq hB (goodG_of G.g)
  have hxl : 0 < a.xs.length ↔ a.xs.length ≠ 0 := by omega
  have hm0 : errNat a.xs = 0 → a.xs.length ≠ 0 → (numD f a).m ≠ 0 := fun h1 h2 h3 => by
    obtain ⟨k1, _⟩ := errNat_ok ha.lt h1
    have h4 : val B32 a.xs ≠ 0 := fun h => h2 (by rw [k1]; exact (dig_len_zero B32_two _).2 h)
    unfold numD bare at h3
    rw [if_neg h4] at h3
    simp only at h3
    have := (tz_spec (val B32 a.xs) (by omega)).2
    rw [h3] at this
    simp at this
  have hige := fun h => inGrid_e (a := numD f a) G.g hB h
  have z2 := G.e2
  have z3 := G.f2
  have z4 := G.f1
  have hsh := shl_one (E := f.E) (by omega)
  have h0T : 0 < 2 ^ f.E := Nat.pow_pos (by omega)
  have h0T2 : 2 ^ f.E ≤ 2 ^ 15 := Nat.pow_le_pow_right (by omega) (by omega)
  have HSH := Lib.hid hsh
  have hlen := ha.len
  have hhid : f.inf = true → (f.hid = true ↔ f.ext = false) := fun h => by
    have h1 : f.fam = 1 := by unfold Fm.inf at h; simpa using h
    unfold Fm.hid
    rw [h1]
    cases f.ext <;> simp
  have rd := ha.rd
  unfold encOut
  obtain ⟨d, hD⟩ : ∃ d, numD f a = d := ⟨_, rfl⟩
  rw [hD] at HR hB hbd hkp hm0 hige ⊢
  have e1 : f.encP 1 a.g d = ⟨a.g, 0, 0⟩ := rfl
  have e2 : f.encP 2 a.g d = f.numP d := rfl
  have e3 : f.encP 3 a.g d = ⟨a.g, 2 ^ f.E - 1, if f.ext then 2 ^ 63 else 0⟩ := rfl
  have e4 : f.encP 4 a.g d = ⟨a.g, 2 ^ f.E - 1, if f.ext then 2 ^ 63 + 2 ^ 62 else 2 ^ (f.F - 1)⟩ := rfl
  have e5 : f.encP 5 a.g d = ⟨true, 0, 0⟩ := rfl
  have hF1 : 2 ^ (f.F - 1) < 2 ^ f.F := Nat.pow_lt_pow_right (by omega) (by omega)
  have hF0 : 0 < 2 ^ f.F := Nat.pow_pos (by omega)
  have hx64 : f.ext = true → 2 ^ f.F = 2 ^ 64 := fun h => by rw [(G.ext h).2.1]
  have hext : f.inf = true → f.hid = false → f.ext = true := fun h1 h2 => by
    cases hx : f.ext with
    | true => rfl
    | false => have := (hhid h1).2 hx; rw [h2] at this; cases this
  have hJ := fun (W : World) (g : Bool) (E : Int) (e x : Nat) (hE : E = e) (p : Option Addr) (c : Nat) h h1 h2 => Lib.hid (join_int f g E e x hE p c W G h h1 h2)
  have hJ0 := fun (W : World) (g : Bool) (E : Int) (e : Nat) (hE : E = e) h1 => Lib.hid (join_nil f g E e hE W G h1)
  have h63 : (dig B32 (2 ^ 63)).length ≤ 2 := dig_le_pow (n := 64) (by omega) (by omega)
  have h62 : (dig B32 (2 ^ 62)).length ≤ 2 := dig_le_pow (n := 64) (by omega) (by omega)
  generalize 2 ^ f.E = P at *
  clear hsh ha
  have hT3 : SxOne Tryd.prog 3 := sxOne_of (by kernel_rfl) (by kernel_rfl)
  have hT4 : SxOne Tryd.prog 4 := sxOne_of (by kernel_rfl) (by kernel_rfl)
  have hT23 : SxOne Tryd.prog 23 := sxOne_of (by kernel_rfl) (by kernel_rfl)
  have hT29 : SxAgg Tryd.prog 29 5 := sxAgg_of (by kernel_rfl) (by kernel_rfl)
  have hT56 : SxAgg Tryd.prog 56 4 := sxAgg_of (by kernel_rfl) (by kernel_rfl)
  have hT116 : SxAgg Tryd.prog 116 12 := sxAgg_of (by kernel_rfl) (by kernel_rfl)
  have hT137 : SxAgg Tryd.prog 137 3 := sxAgg_of (by kernel_rfl) (by kernel_rfl)
  refine calls_of_wp Tryd.func29 rfl ?_
  refine sx_frame (a' := ⟨((.int .i64 n) :: (.agg #[.int .i64 cls, .bool a.g, .slice a.p a.xs.length a.c, .int .i64 a.e]) :: us 145 []).toArray, []⟩) (by kernel_rfl) ?_
  refine ye ?_
  refine yw 0 rfl 3 #[.int .i64 cls, .bool a.g, .slice a.p a.xs.length a.c, .int .i64 a.e] 56 (fun V1 hbV1 hzV1 b3 => ?_)
  refine yzt 2 ?_
  refine ye ?_
  refine yc 1 rfl 13 ((HF V1).out) (fun Gx hGx => ?_)
  rintro eV2 V2 ⟨rfl, hbV2⟩
  have hzV2 := hbV2.size
  refine ⟨_, rfl, hGx _ _ ?_⟩
  clear hGx Gx
  refine yw 3 rfl 6 #[.int .i64 0, .int .i64 0, .int .i64 0, .int .i64 0, .int .i64 0, .int .i64 0, .int .i64 0, .bool false, .bool false, .bool false, .bool false, .nilFunc] 116 (fun V3 hbV3 hzV3 b6 => ?_)
  have boV4 := b6
  refine ysw 0 rfl b6 hT116 #[.int .i64 ((f.size : Nat) : Int), .int .i64 ((f.E : Nat) : Int), .int .i64 ((f.F : Nat) : Int), .int .i64 f.g.rad, .int .i64 f.g.digs, .int .i64 f.g.lo, .int .i64 f.g.hi, .bool f.g.grad, .bool f.hid, .bool f.inf, .bool f.res, .func (.func (ordF f)) #[] #[]] ?_
  clear b6
  intro V4 hOV4 b6
  have hzV4 := hOV4.size
  refine yzt 1 ?_
  refine wp_seq ?_
  refine yq ?_
  refine yF ?_
  refine wp_skip ?_
  refine sx_then ?_
  refine wp_seq ?_
  refine ye ?_
  replace b3 := (b3.past ((bthru hbV2 hbV3).trans (hOV4.below (by omega))))
  refine yl 1 rfl 20 b3 hT3 0 ?_
  rcases Bool.eq_false_or_eq_true (decide (cls < 1)) with f21 | f21
  · skip
    refine yb 0 rfl 21 (decide (cls < 1)) (true) (f21) ?_
    refine yzt 5 ?_
    refine yT ?_
    have hE : errEnc f cls a = 6 := by unfold errEnc; rw [if_pos (by first | (have := of_decide_eq_true f21; omega) | (have := of_decide_eq_true f25; omega))]
    have hN : (6 : Int) ≠ 0 := by decide
    refine yq ?_
    refine wp_ret ?_
    repeat (first | with_reducible refine sx_thenret ?_ | with_reducible refine sx_blockret ?_)
    refine yret (.tuple #[Go.Value.string (ByteArray.mk #[]), .int .i64 6]) (res2 Tryd.results29 rvt rvt) ?_
    exact givesS_err hE hN rfl ((bthru (bthru hbV1 hbV2) hbV3).trans (hOV4.below (by omega)))
  refine yb 0 rfl 21 (decide (cls < 1)) (false) (f21) ?_
  refine yl 2 rfl 24 b3 hT3 0 ?_
  rcases Bool.eq_false_or_eq_true (decide (cls > 5)) with f25 | f25
  · skip
    refine yb 0 rfl 25 (decide (cls > 5)) (true) (f25) ?_
    refine yzt 1 ?_
    refine yT ?_
    have hE : errEnc f cls a = 6 := by unfold errEnc; rw [if_pos (by first | (have := of_decide_eq_true f21; omega) | (have := of_decide_eq_true f25; omega))]
    have hN : (6 : Int) ≠ 0 := by decide
    refine yq ?_
    refine wp_ret ?_
    repeat (first | with_reducible refine sx_thenret ?_ | with_reducible refine sx_blockret ?_)
    refine yret (.tuple #[Go.Value.string (ByteArray.mk #[]), .int .i64 6]) (res2 Tryd.results29 rvt rvt) ?_
    exact givesS_err hE hN rfl ((bthru (bthru hbV1 hbV2) hbV3).trans (hOV4.below (by omega)))
  refine yb 0 rfl 25 (decide (cls > 5)) (false) (f25) ?_
  refine yzt 1 ?_
  refine yF ?_
  refine wp_skip ?_
  refine sx_then ?_
  refine wp_seq ?_
  have c1 : ¬ (cls < 1 ∨ 5 < cls) := by have := of_decide_eq_false f21; have := of_decide_eq_false f25; omega
  refine ye ?_
  refine yl 1 rfl 28 b3 hT23 2 ?_
  replace rd := (rd.past ((bthru (bthru hbV1 hbV2) hbV3).trans (hOV4.below (by omega))))
  refine yc 0 rfl 29 (natCheck1_any a.p _ a.c a.xs V4 rd rfl hlen) (fun Gx hGx => ?_)
  rintro eV5 V5 ⟨rfl, hbV5⟩
  have hzV5 := hbV5.size
  refine ⟨_, rfl, hGx _ _ ?_⟩
  clear hGx Gx
  refine yzt 1 ?_
  refine ye ?_
  rcases Bool.eq_false_or_eq_true ((errNat a.xs) != 0) with f31 | f31
  · skip
    refine yb 1 rfl 31 ((errNat a.xs) != 0) (true) (f31) ?_
    refine yzt 0 ?_
    refine yT ?_
    have hN : errNat a.xs ≠ 0 := bne_iff_ne.1 f31
    have hE : errEnc f cls a = errNat a.xs := by unfold errEnc; rw [if_neg c1, if_pos hN]
    refine yq ?_
    refine wp_ret ?_
    repeat (first | with_reducible refine sx_thenret ?_ | with_reducible refine sx_blockret ?_)
    refine yret (.tuple #[Go.Value.string (ByteArray.mk #[]), .int .i64 (errNat a.xs)]) (res2 Tryd.results29 rvt rvt) ?_
    exact givesS_err hE hN rfl (bthru ((bthru (bthru hbV1 hbV2) hbV3).trans (hOV4.below (by omega))) hbV5)
  refine yb 1 rfl 31 ((errNat a.xs) != 0) (false) (f31) ?_
  refine yzt 0 ?_
  refine yF ?_
  refine wp_skip ?_
  refine sx_then ?_
  refine wp_seq ?_
  have c2 : errNat a.xs = 0 := by simpa using f31
  refine ye ?_
  replace b3 := (b3.past hbV5)
  refine yl 1 rfl 34 b3 hT3 0 ?_
  rcases Bool.eq_false_or_eq_true (cls == 3) with f35 | f35
  · skip
    refine yb 0 rfl 35 (cls == 3) (true) (f35) ?_
    rcases Bool.eq_false_or_eq_true (f.inf) with f43 | f43
    · skip
      replace b6 := (b6.past hbV5)
      refine ylb 7 rfl 43 b6 hT4 9 (f.inf) true (f43) ?_
      refine yl 4 rfl 48 b3 hT3 0 ?_
      refine yb 0 rfl 49 (cls == 5) (false) (beq_eq_false_iff_ne.2 (by have := beq_iff_eq.1 f35; omega)) ?_
      refine yzt 6 ?_
      refine yF ?_
      refine wp_skip ?_
      refine sx_then ?_
      refine wp_seq ?_
      have c3 : ¬ (((cls = 3 ∨ cls = 4) ∧ f.inf = false) ∨ (cls = 5 ∧ f.res = false)) := fun h => by rcases h with ⟨h, k⟩ | ⟨h, k⟩ <;> first | (rw [f43] at k; cases k; done) | (rw [f52] at k; cases k; done) | (have q := beq_iff_eq.1 f35; omega) | (have q := beq_iff_eq.1 f39; omega) | (have q := beq_eq_false_iff_ne.1 f35; have q2 := beq_eq_false_iff_ne.1 f39; omega) | (have q := beq_eq_false_iff_ne.1 f49; omega)
      refine ye ?_
      refine yl 1 rfl 57 b3 hT3 0 ?_
      refine yb 0 rfl 58 (cls == 2) (false) (beq_eq_false_iff_ne.2 (by have := beq_iff_eq.1 f35; omega)) ?_
      refine yzt 0 ?_
      refine yF ?_
      refine wp_skip ?_
      refine sx_then ?_
      refine wp_seq ?_
      have c58 : cls ≠ 2 := by first | (have := beq_iff_eq.1 f35; omega) | (have := beq_iff_eq.1 f39; omega) | (have := beq_iff_eq.1 f49; omega) | exact beq_eq_false_iff_ne.1 f58
      refine ye ?_
      refine yl 1 rfl 86 b3 hT23 2 ?_
      rcases Bool.eq_false_or_eq_true (decide (((a.xs.length : Nat) : Int) > 0)) with f88 | f88
      · skip
        refine yb 1 rfl 88 (decide (((a.xs.length : Nat) : Int) > 0)) (true) (f88) ?_
        refine yzt 18 ?_
        refine yT ?_
        have hE : errEnc f cls a = 4 := by unfold errEnc; rw [if_neg c1, if_neg (by omega), if_neg c3, if_neg c58, if_pos (by first | (have := of_decide_eq_true f88; omega) | exact .inr (.inl (bne_iff_ne.1 f92)) | exact .inr (.inr ⟨f96, .inr f103⟩) | exact .inr (.inr ⟨f96, .inl (by first | (have := beq_iff_eq.1 f39; omega) | (have := beq_iff_eq.1 f49; omega))⟩))]
        have hN : (4 : Int) ≠ 0 := by decide
        refine yq ?_
        refine wp_ret ?_
        repeat (first | with_reducible refine sx_thenret ?_ | with_reducible refine sx_blockret ?_)
        refine yret (.tuple #[Go.Value.string (ByteArray.mk #[]), .int .i64 4]) (res2 Tryd.results29 rvt rvt) ?_
        exact givesS_err hE hN rfl (bthru ((bthru (bthru hbV1 hbV2) hbV3).trans (hOV4.below (by omega))) hbV5)
      refine yb 1 rfl 88 (decide (((a.xs.length : Nat) : Int) > 0)) (false) (f88) ?_
      refine yl 2 rfl 91 b3 hT3 3 ?_
      rcases Bool.eq_false_or_eq_true (a.e != 0) with f92 | f92
      · skip
        refine yb 0 rfl 92 (a.e != 0) (true) (f92) ?_
        refine yzt 14 ?_
        refine yT ?_
        have hE : errEnc f cls a = 4 := by unfold errEnc; rw [if_neg c1, if_neg (by omega), if_neg c3, if_neg c58, if_pos (by first | (have := of_decide_eq_true f88; omega) | exact .inr (.inl (bne_iff_ne.1 f92)) | exact .inr (.inr ⟨f96, .inr f103⟩) | exact .inr (.inr ⟨f96, .inl (by first | (have := beq_iff_eq.1 f39; omega) | (have := beq_iff_eq.1 f49; omega))⟩))]
        have hN : (4 : Int) ≠ 0 := by decide
        refine yq ?_
        refine wp_ret ?_
        repeat (first | with_reducible refine sx_thenret ?_ | with_reducible refine sx_blockret ?_)
        refine yret (.tuple #[Go.Value.string (ByteArray.mk #[]), .int .i64 4]) (res2 Tryd.results29 rvt rvt) ?_
        exact givesS_err hE hN rfl (bthru ((bthru (bthru hbV1 hbV2) hbV3).trans (hOV4.below (by omega))) hbV5)
      refine yb 0 rfl 92 (a.e != 0) (false) (f92) ?_
      rcases Bool.eq_false_or_eq_true (a.g) with f96 | f96
      · skip
        refine ylb 3 rfl 96 b3 hT4 1 (a.g) true (f96) ?_
        refine yl 2 rfl 99 b3 hT3 0 ?_
        refine yb 0 rfl 100 (decide (cls ≥ 4)) (false) (decide_eq_false (by have := beq_iff_eq.1 f35; omega)) ?_
        rcases Bool.eq_false_or_eq_true (f.res) with f103 | f103
        · skip
          refine ylb 2 rfl 103 b6 hT4 10 (f.res) true (f103) ?_
          refine yzt 3 ?_
          refine yT ?_
          have hE : errEnc f cls a = 4 := by unfold errEnc; rw [if_neg c1, if_neg (by omega), if_neg c3, if_neg c58, if_pos (by first | (have := of_decide_eq_true f88; omega) | exact .inr (.inl (bne_iff_ne.1 f92)) | exact .inr (.inr ⟨f96, .inr f103⟩) | exact .inr (.inr ⟨f96, .inl (by first | (have := beq_iff_eq.1 f39; omega) | (have := beq_iff_eq.1 f49; omega))⟩))]
          have hN : (4 : Int) ≠ 0 := by decide
          refine yq ?_
          refine wp_ret ?_
          repeat (first | with_reducible refine sx_thenret ?_ | with_reducible refine sx_blockret ?_)
          refine yret (.tuple #[Go.Value.string (ByteArray.mk #[]), .int .i64 4]) (res2 Tryd.results29 rvt rvt) ?_
          exact givesS_err hE hN rfl (bthru ((bthru (bthru hbV1 hbV2) hbV3).trans (hOV4.below (by omega))) hbV5)
        refine ylb 2 rfl 103 b6 hT4 10 (f.res) false (f103) ?_
        refine yzt 3 ?_
        refine yF ?_
        refine wp_skip ?_
        refine sx_then ?_
        have hE : errEnc f cls a = 0 := by unfold errEnc; rw [if_neg c1, if_neg (by omega), if_neg c3, if_neg c58, if_neg (fun h => by rcases h with h | h | ⟨h, k⟩ <;> first | (have := of_decide_eq_false f88; omega) | (rw [show (a.e != 0) = true from bne_iff_ne.2 h] at f92; cases f92; done) | (rw [f96] at h; cases h; done) | (rcases k with k | k <;> first | (have := beq_iff_eq.1 f35; omega) | (have := beq_eq_false_iff_ne.1 f49; have := beq_eq_false_iff_ne.1 f35; have := beq_eq_false_iff_ne.1 f39; omega) | (rw [f103] at k; cases k; done)))]
        refine ye ?_
        refine yl 1 rfl 108 b6 hT3 1 ?_
        refine yv 0 rfl 109 (.int .i64 ((P : Nat) : Int)) ?_ (exec_shl (X := (1)) (Y := ((f.E : Nat) : Int)) (k2 := .i64) ((P : Nat) : Int) (by kernel_rfl) (by kernel_rfl) (by omega) ((HSH.out)))
        refine ya 0 rfl 110 .i64 (((P : Nat) : Int) - 1) (((P - 1 : Nat) : Int)) ((by rw [show (((P : Nat) : Int) - 1) = ((P - 1 : Nat) : Int) by omega]; exact IntWalk.i64_in _ (by omega))) ?_
        refine yzt 1 ?_
        refine ye ?_
        refine yl 1 rfl 112 b3 hT4 1 ?_
        refine yw 1 rfl 10 #[.bool false, .int .i64 0, .slice none 0 0] 137 (fun V6 hbV6 hzV6 b10 => ?_)
        have boV7 := b10
        refine ysw 0 rfl b10 hT137 #[.bool a.g, .int .i64 0, .slice none 0 0] ?_
        clear b10
        intro V7 hOV7 b10
        have hzV7 := hOV7.size
        refine yzt 0 ?_
        refine wp_seq ?_
        refine ye ?_
        replace b3 := (b3.past (hbV6.trans (hOV7.below (by omega))))
        refine yl 1 rfl 115 b3 hT3 0 ?_
        refine yzt 0 ?_
        refine wp_block ?_
        refine ye ?_
        refine yb 0 rfl 117 (cls == 3) (true) (f35) ?_
        refine yzt 1 ?_
        refine yT ?_
        refine ye ?_
        have boV8 := b10
        refine ys1 2 rfl b10 hT3 1 (.int .i64 ((P - 1 : Nat) : Int)) #[.bool a.g, .int .i64 ((P - 1 : Nat) : Int), .slice none 0 0] ?_
        clear b10
        intro V8 hOV8 b10
        have hzV8 := hOV8.size
        refine yzt 0 ?_
        refine ye ?_
        rcases Bool.eq_false_or_eq_true (f.hid) with f121 | f121
        · skip
          replace b6 := (b6.past ((hbV6.trans (hOV7.below (by omega))).trans (hOV8.below (by omega))))
          refine ylb 1 rfl 121 b6 hT4 8 (f.hid) true (f121) ?_
          refine yzt 1 ?_
          refine yF ?_
          refine wp_skip ?_
          refine sx_inblock ?_
          refine sx_then ?_
          refine ye ?_
          refine yla 0 rfl 144 b6 hT116 0 ?_
          refine yla 0 rfl 145 b10 hT137 0 ?_
          refine yc 0 rfl 146 ((hJ0 V8 a.g ((P - 1 : Nat) : Int) (P - 1) rfl (by omega)).out) (fun Gx hGx => ?_)
          rintro eV9 V9 ⟨rfl, hbV9⟩
          have hzV9 := hbV9.size
          have hS : strOf (f.strP (f.encP cls.toNat a.g d)) = strOf (f.str a.g (P - 1) 0) := by rw [show cls.toNat = 3 by have := beq_iff_eq.1 f35; omega, e3, if_neg (by rw [(hhid f43).1 f121]; simp)]; rfl
          refine ⟨_, rfl, hGx _ _ ?_⟩
          clear hGx Gx
          refine yzt 2 ?_
          refine wp_ret ?_
          repeat (first | with_reducible refine sx_thenret ?_ | with_reducible refine sx_blockret ?_)
          refine yret (.tuple #[.string (strOf (f.str a.g (P - 1) 0)), .int .i64 0]) (res2 Tryd.results29 rvt rvt) ?_
          exact givesS_ok hE hS rfl (bthru (((bthru (bthru ((bthru (bthru hbV1 hbV2) hbV3).trans (hOV4.below (by omega))) hbV5) hbV6).trans (hOV7.below (by omega))).trans (hOV8.below (by omega))) hbV9)
        replace b6 := (b6.past ((hbV6.trans (hOV7.below (by omega))).trans (hOV8.below (by omega))))
        refine ylb 1 rfl 121 b6 hT4 8 (f.hid) false (f121) ?_
        refine yzt 1 ?_
        refine yT ?_
        refine sx_region ?_
        refine yc 0 rfl 123 (two_any 63 (2 ^ 63) 63 V8 (by omega) rfl rfl) (fun Gx hGx => ?_)
        rintro eV9 V9 ⟨p123, c123, rfl, o123, hbV9⟩
        have hzV9 := hbV9.size
        refine ⟨_, rfl, hGx _ _ ?_⟩
        clear hGx Gx
        replace b10 := (b10.past hbV9)
        have boV10 := b10
        refine ys1 1 rfl b10 hT23 2 (.slice p123 (dig B32 (2 ^ 63)).length c123) #[.bool a.g, .int .i64 ((P - 1 : Nat) : Int), .slice p123 (dig B32 (2 ^ 63)).length c123] ?_
        clear b10
        intro V10 hOV10 b10
        have hzV10 := hOV10.size
        refine yz 0 ?_
        refine sx_inblock ?_
        refine sx_then ?_
        refine ye ?_
        replace b6 := ((b6.past hbV9).only hOV10 (by omega))
        refine yla 0 rfl 144 b6 hT116 0 ?_
        refine yla 0 rfl 145 b10 hT137 0 ?_
        replace o123 := (o123.put boV10 hOV10 (by kernel_rfl))
        refine yc 0 rfl 146 ((hJ V10 a.g ((P - 1 : Nat) : Int) (P - 1) (2 ^ 63) rfl p123 c123 o123.rd (by omega) (by rw [hx64 (hext f43 f121)]; omega)).out) (fun Gx hGx => ?_)
        rintro eV11 V11 ⟨rfl, hbV11⟩
        have hzV11 := hbV11.size
        have hS : strOf (f.strP (f.encP cls.toNat a.g d)) = strOf (f.str a.g (P - 1) (2 ^ 63)) := by rw [show cls.toNat = 3 by have := beq_iff_eq.1 f35; omega, e3, if_pos (hext f43 f121)]; rfl
        refine ⟨_, rfl, hGx _ _ ?_⟩
        clear hGx Gx
        refine yzt 2 ?_
        refine wp_ret ?_
        repeat (first | with_reducible refine sx_thenret ?_ | with_reducible refine sx_blockret ?_)
        refine yret (.tuple #[.string (strOf (f.str a.g (P - 1) (2 ^ 63))), .int .i64 0]) (res2 Tryd.results29 rvt rvt) ?_
        exact givesS_ok hE hS rfl (bthru ((bthru (((bthru (bthru ((bthru (bthru hbV1 hbV2) hbV3).trans (hOV4.below (by omega))) hbV5) hbV6).trans (hOV7.below (by omega))).trans (hOV8.below (by omega))) hbV9).trans (hOV10.below (by omega))) hbV11)
      refine ylb 3 rfl 96 b3 hT4 1 (a.g) false (f96) ?_
      refine yzt 10 ?_
      refine yF ?_
      refine wp_skip ?_
      refine sx_then ?_
      have hE : errEnc f cls a = 0 := by unfold errEnc; rw [if_neg c1, if_neg (by omega), if_neg c3, if_neg c58, if_neg (fun h => by rcases h with h | h | ⟨h, k⟩ <;> first | (have := of_decide_eq_false f88; omega) | (rw [show (a.e != 0) = true from bne_iff_ne.2 h] at f92; cases f92; done) | (rw [f96] at h; cases h; done) | (rcases k with k | k <;> first | (have := beq_iff_eq.1 f35; omega) | (have := beq_eq_false_iff_ne.1 f49; have := beq_eq_false_iff_ne.1 f35; have := beq_eq_false_iff_ne.1 f39; omega) | (rw [f103] at k; cases k; done)))]
      refine ye ?_
      refine yl 1 rfl 108 b6 hT3 1 ?_
      refine yv 0 rfl 109 (.int .i64 ((P : Nat) : Int)) ?_ (exec_shl (X := (1)) (Y := ((f.E : Nat) : Int)) (k2 := .i64) ((P : Nat) : Int) (by kernel_rfl) (by kernel_rfl) (by omega) ((HSH.out)))
      refine ya 0 rfl 110 .i64 (((P : Nat) : Int) - 1) (((P - 1 : Nat) : Int)) ((by rw [show (((P : Nat) : Int) - 1) = ((P - 1 : Nat) : Int) by omega]; exact IntWalk.i64_in _ (by omega))) ?_
      refine yzt 1 ?_
      refine ye ?_
      refine yl 1 rfl 112 b3 hT4 1 ?_
      refine yw 1 rfl 10 #[.bool false, .int .i64 0, .slice none 0 0] 137 (fun V6 hbV6 hzV6 b10 => ?_)
      have boV7 := b10
      refine ysw 0 rfl b10 hT137 #[.bool a.g, .int .i64 0, .slice none 0 0] ?_
      clear b10
      intro V7 hOV7 b10
      have hzV7 := hOV7.size
      refine yzt 0 ?_
      refine wp_seq ?_
      refine ye ?_
      replace b3 := (b3.past (hbV6.trans (hOV7.below (by omega))))
      refine yl 1 rfl 115 b3 hT3 0 ?_
      refine yzt 0 ?_
      refine wp_block ?_
      refine ye ?_
      refine yb 0 rfl 117 (cls == 3) (true) (f35) ?_
      refine yzt 1 ?_
      refine yT ?_
      refine ye ?_
      have boV8 := b10
      refine ys1 2 rfl b10 hT3 1 (.int .i64 ((P - 1 : Nat) : Int)) #[.bool a.g, .int .i64 ((P - 1 : Nat) : Int), .slice none 0 0] ?_
      clear b10
      intro V8 hOV8 b10
      have hzV8 := hOV8.size
      refine yzt 0 ?_
      refine ye ?_
      rcases Bool.eq_false_or_eq_true (f.hid) with f121 | f121
      · skip
        replace b6 := (b6.past ((hbV6.trans (hOV7.below (by omega))).trans (hOV8.below (by omega))))
        refine ylb 1 rfl 121 b6 hT4 8 (f.hid) true (f121) ?_
        refine yzt 1 ?_
        refine yF ?_
        refine wp_skip ?_
        refine sx_inblock ?_
        refine sx_then ?_
        refine ye ?_
        refine yla 0 rfl 144 b6 hT116 0 ?_
        refine yla 0 rfl 145 b10 hT137 0 ?_
        refine yc 0 rfl 146 ((hJ0 V8 a.g ((P - 1 : Nat) : Int) (P - 1) rfl (by omega)).out) (fun Gx hGx => ?_)
        rintro eV9 V9 ⟨rfl, hbV9⟩
        have hzV9 := hbV9.size
        have hS : strOf (f.strP (f.encP cls.toNat a.g d)) = strOf (f.str a.g (P - 1) 0) := by rw [show cls.toNat = 3 by have := beq_iff_eq.1 f35; omega, e3, if_neg (by rw [(hhid f43).1 f121]; simp)]; rfl
        refine ⟨_, rfl, hGx _ _ ?_⟩
        clear hGx Gx
        refine yzt 2 ?_
        refine wp_ret ?_
        repeat (first | with_reducible refine sx_thenret ?_ | with_reducible refine sx_blockret ?_)
        refine yret (.tuple #[.string (strOf (f.str a.g (P - 1) 0)), .int .i64 0]) (res2 Tryd.results29 rvt rvt) ?_
        exact givesS_ok hE hS rfl (bthru (((bthru (bthru ((bthru (bthru hbV1 hbV2) hbV3).trans (hOV4.below (by omega))) hbV5) hbV6).trans (hOV7.below (by omega))).trans (hOV8.below (by omega))) hbV9)
      replace b6 := (b6.past ((hbV6.trans (hOV7.below (by omega))).trans (hOV8.below (by omega))))
      refine ylb 1 rfl 121 b6 hT4 8 (f.hid) false (f121) ?_
      refine yzt 1 ?_
      refine yT ?_
      refine sx_region ?_
      refine yc 0 rfl 123 (two_any 63 (2 ^ 63) 63 V8 (by omega) rfl rfl) (fun Gx hGx => ?_)
      rintro eV9 V9 ⟨p123, c123, rfl, o123, hbV9⟩
      have hzV9 := hbV9.size
      refine ⟨_, rfl, hGx _ _ ?_⟩
      clear hGx Gx
      replace b10 := (b10.past hbV9)
      have boV10 := b10
      refine ys1 1 rfl b10 hT23 2 (.slice p123 (dig B32 (2 ^ 63)).length c123) #[.bool a.g, .int .i64 ((P - 1 : Nat) : Int), .slice p123 (dig B32 (2 ^ 63)).length c123] ?_
      clear b10
      intro V10 hOV10 b10
      have hzV10 := hOV10.size
      refine yz 0 ?_
      refine sx_inblock ?_
      refine sx_then ?_
      refine ye ?_
      replace b6 := ((b6.past hbV9).only hOV10 (by omega))
      refine yla 0 rfl 144 b6 hT116 0 ?_
      refine yla 0 rfl 145 b10 hT137 0 ?_
      replace o123 := (o123.put boV10 hOV10 (by kernel_rfl))
      refine yc 0 rfl 146 ((hJ V10 a.g ((P - 1 : Nat) : Int) (P - 1) (2 ^ 63) rfl p123 c123 o123.rd (by omega) (by rw [hx64 (hext f43 f121)]; omega)).out) (fun Gx hGx => ?_)
      rintro eV11 V11 ⟨rfl, hbV11⟩
      have hzV11 := hbV11.size
      have hS : strOf (f.strP (f.encP cls.toNat a.g d)) = strOf (f.str a.g (P - 1) (2 ^ 63)) := by rw [show cls.toNat = 3 by have := beq_iff_eq.1 f35; omega, e3, if_pos (hext f43 f121)]; rfl
      refine ⟨_, rfl, hGx _ _ ?_⟩
      clear hGx Gx
      refine yzt 2 ?_
      refine wp_ret ?_
      repeat (first | with_reducible refine sx_thenret ?_ | with_reducible refine sx_blockret ?_)
      refine yret (.tuple #[.string (strOf (f.str a.g (P - 1) (2 ^ 63))), .int .i64 0]) (res2 Tryd.results29 rvt rvt) ?_
      exact givesS_ok hE hS rfl (bthru ((bthru (((bthru (bthru ((bthru (bthru hbV1 hbV2) hbV3).trans (hOV4.below (by omega))) hbV5) hbV6).trans (hOV7.below (by omega))).trans (hOV8.below (by omega))) hbV9).trans (hOV10.below (by omega))) hbV11)
    replace b6 := (b6.past hbV5)
    refine ylb 7 rfl 43 b6 hT4 9 (f.inf) false (f43) ?_
    refine yzt 12 ?_
    refine yT ?_
    have hE : errEnc f cls a = 5 := by unfold errEnc; rw [if_neg c1, if_neg (by omega), if_pos (by first | exact .inl ⟨.inl (beq_iff_eq.1 f35), f43⟩ | exact .inl ⟨.inr (beq_iff_eq.1 f39), f43⟩ | exact .inr ⟨beq_iff_eq.1 f49, f52⟩)]
    have hN : (5 : Int) ≠ 0 := by decide
    refine yq ?_
    refine wp_ret ?_
    repeat (first | with_reducible refine sx_thenret ?_ | with_reducible refine sx_blockret ?_)
    refine yret (.tuple #[Go.Value.string (ByteArray.mk #[]), .int .i64 5]) (res2 Tryd.results29 rvt rvt) ?_
    exact givesS_err hE hN rfl (bthru ((bthru (bthru hbV1 hbV2) hbV3).trans (hOV4.below (by omega))) hbV5)
  refine yb 0 rfl 35 (cls == 3) (false) (f35) ?_
  refine yl 2 rfl 38 b3 hT3 0 ?_
  rcases Bool.eq_false_or_eq_true (cls == 4) with f39 | f39
  · skip
    refine yb 0 rfl 39 (cls == 4) (true) (f39) ?_
    rcases Bool.eq_false_or_eq_true (f.inf) with f43 | f43
    · skip
      replace b6 := (b6.past hbV5)
      refine ylb 3 rfl 43 b6 hT4 9 (f.inf) true (f43) ?_
      refine yl 4 rfl 48 b3 hT3 0 ?_
      refine yb 0 rfl 49 (cls == 5) (false) (beq_eq_false_iff_ne.2 (by have := beq_iff_eq.1 f39; omega)) ?_
      refine yzt 6 ?_
      refine yF ?_
      refine wp_skip ?_
      refine sx_then ?_
      refine wp_seq ?_
      have c3 : ¬ (((cls = 3 ∨ cls = 4) ∧ f.inf = false) ∨ (cls = 5 ∧ f.res = false)) := fun h => by rcases h with ⟨h, k⟩ | ⟨h, k⟩ <;> first | (rw [f43] at k; cases k; done) | (rw [f52] at k; cases k; done) | (have q := beq_iff_eq.1 f35; omega) | (have q := beq_iff_eq.1 f39; omega) | (have q := beq_eq_false_iff_ne.1 f35; have q2 := beq_eq_false_iff_ne.1 f39; omega) | (have q := beq_eq_false_iff_ne.1 f49; omega)
      refine ye ?_
      refine yl 1 rfl 57 b3 hT3 0 ?_
      refine yb 0 rfl 58 (cls == 2) (false) (beq_eq_false_iff_ne.2 (by have := beq_iff_eq.1 f39; omega)) ?_
      refine yzt 0 ?_
      refine yF ?_
      refine wp_skip ?_
      refine sx_then ?_
      refine wp_seq ?_
      have c58 : cls ≠ 2 := by first | (have := beq_iff_eq.1 f35; omega) | (have := beq_iff_eq.1 f39; omega) | (have := beq_iff_eq.1 f49; omega) | exact beq_eq_false_iff_ne.1 f58
      refine ye ?_
      refine yl 1 rfl 86 b3 hT23 2 ?_
      rcases Bool.eq_false_or_eq_true (decide (((a.xs.length : Nat) : Int) > 0)) with f88 | f88
      · skip
        refine yb 1 rfl 88 (decide (((a.xs.length : Nat) : Int) > 0)) (true) (f88) ?_
        refine yzt 18 ?_
        refine yT ?_
        have hE : errEnc f cls a = 4 := by unfold errEnc; rw [if_neg c1, if_neg (by omega), if_neg c3, if_neg c58, if_pos (by first | (have := of_decide_eq_true f88; omega) | exact .inr (.inl (bne_iff_ne.1 f92)) | exact .inr (.inr ⟨f96, .inr f103⟩) | exact .inr (.inr ⟨f96, .inl (by first | (have := beq_iff_eq.1 f39; omega) | (have := beq_iff_eq.1 f49; omega))⟩))]
        have hN : (4 : Int) ≠ 0 := by decide
        refine yq ?_
        refine wp_ret ?_
        repeat (first | with_reducible refine sx_thenret ?_ | with_reducible refine sx_blockret ?_)
        refine yret (.tuple #[Go.Value.string (ByteArray.mk #[]), .int .i64 4]) (res2 Tryd.results29 rvt rvt) ?_
        exact givesS_err hE hN rfl (bthru ((bthru (bthru hbV1 hbV2) hbV3).trans (hOV4.below (by omega))) hbV5)
      refine yb 1 rfl 88 (decide (((a.xs.length : Nat) : Int) > 0)) (false) (f88) ?_
      refine yl 2 rfl 91 b3 hT3 3 ?_
      rcases Bool.eq_false_or_eq_true (a.e != 0) with f92 | f92
      · skip
        refine yb 0 rfl 92 (a.e != 0) (true) (f92) ?_
        refine yzt 14 ?_
        refine yT ?_
        have hE : errEnc f cls a = 4 := by unfold errEnc; rw [if_neg c1, if_neg (by omega), if_neg c3, if_neg c58, if_pos (by first | (have := of_decide_eq_true f88; omega) | exact .inr (.inl (bne_iff_ne.1 f92)) | exact .inr (.inr ⟨f96, .inr f103⟩) | exact .inr (.inr ⟨f96, .inl (by first | (have := beq_iff_eq.1 f39; omega) | (have := beq_iff_eq.1 f49; omega))⟩))]
        have hN : (4 : Int) ≠ 0 := by decide
        refine yq ?_
        refine wp_ret ?_
        repeat (first | with_reducible refine sx_thenret ?_ | with_reducible refine sx_blockret ?_)
        refine yret (.tuple #[Go.Value.string (ByteArray.mk #[]), .int .i64 4]) (res2 Tryd.results29 rvt rvt) ?_
        exact givesS_err hE hN rfl (bthru ((bthru (bthru hbV1 hbV2) hbV3).trans (hOV4.below (by omega))) hbV5)
      refine yb 0 rfl 92 (a.e != 0) (false) (f92) ?_
      rcases Bool.eq_false_or_eq_true (a.g) with f96 | f96
      · skip
        refine ylb 3 rfl 96 b3 hT4 1 (a.g) true (f96) ?_
        refine yl 2 rfl 99 b3 hT3 0 ?_
        refine yb 0 rfl 100 (decide (cls ≥ 4)) (true) (decide_eq_true (by have := beq_iff_eq.1 f39; omega)) ?_
        refine yzt 6 ?_
        refine yT ?_
        have hE : errEnc f cls a = 4 := by unfold errEnc; rw [if_neg c1, if_neg (by omega), if_neg c3, if_neg c58, if_pos (by first | (have := of_decide_eq_true f88; omega) | exact .inr (.inl (bne_iff_ne.1 f92)) | exact .inr (.inr ⟨f96, .inr f103⟩) | exact .inr (.inr ⟨f96, .inl (by first | (have := beq_iff_eq.1 f39; omega) | (have := beq_iff_eq.1 f49; omega))⟩))]
        have hN : (4 : Int) ≠ 0 := by decide
        refine yq ?_
        refine wp_ret ?_
        repeat (first | with_reducible refine sx_thenret ?_ | with_reducible refine sx_blockret ?_)
        refine yret (.tuple #[Go.Value.string (ByteArray.mk #[]), .int .i64 4]) (res2 Tryd.results29 rvt rvt) ?_
        exact givesS_err hE hN rfl (bthru ((bthru (bthru hbV1 hbV2) hbV3).trans (hOV4.below (by omega))) hbV5)
      refine ylb 3 rfl 96 b3 hT4 1 (a.g) false (f96) ?_
      refine yzt 10 ?_
      refine yF ?_
      refine wp_skip ?_
      refine sx_then ?_
      have hE : errEnc f cls a = 0 := by unfold errEnc; rw [if_neg c1, if_neg (by omega), if_neg c3, if_neg c58, if_neg (fun h => by rcases h with h | h | ⟨h, k⟩ <;> first | (have := of_decide_eq_false f88; omega) | (rw [show (a.e != 0) = true from bne_iff_ne.2 h] at f92; cases f92; done) | (rw [f96] at h; cases h; done) | (rcases k with k | k <;> first | (have := beq_iff_eq.1 f35; omega) | (have := beq_eq_false_iff_ne.1 f49; have := beq_eq_false_iff_ne.1 f35; have := beq_eq_false_iff_ne.1 f39; omega) | (rw [f103] at k; cases k; done)))]
      refine ye ?_
      refine yl 1 rfl 108 b6 hT3 1 ?_
      refine yv 0 rfl 109 (.int .i64 ((P : Nat) : Int)) ?_ (exec_shl (X := (1)) (Y := ((f.E : Nat) : Int)) (k2 := .i64) ((P : Nat) : Int) (by kernel_rfl) (by kernel_rfl) (by omega) ((HSH.out)))
      refine ya 0 rfl 110 .i64 (((P : Nat) : Int) - 1) (((P - 1 : Nat) : Int)) ((by rw [show (((P : Nat) : Int) - 1) = ((P - 1 : Nat) : Int) by omega]; exact IntWalk.i64_in _ (by omega))) ?_
      refine yzt 1 ?_
      refine ye ?_
      refine yl 1 rfl 112 b3 hT4 1 ?_
      refine yw 1 rfl 10 #[.bool false, .int .i64 0, .slice none 0 0] 137 (fun V6 hbV6 hzV6 b10 => ?_)
      have boV7 := b10
      refine ysw 0 rfl b10 hT137 #[.bool a.g, .int .i64 0, .slice none 0 0] ?_
      clear b10
      intro V7 hOV7 b10
      have hzV7 := hOV7.size
      refine yzt 0 ?_
      refine wp_seq ?_
      refine ye ?_
      replace b3 := (b3.past (hbV6.trans (hOV7.below (by omega))))
      refine yl 1 rfl 115 b3 hT3 0 ?_
      refine yzt 0 ?_
      refine wp_block ?_
      refine ye ?_
      refine yb 0 rfl 117 (cls == 3) (false) (f35) ?_
      refine yzt 1 ?_
      refine yF ?_
      refine ye ?_
      refine yb 0 rfl 126 (cls == 4) (true) (f39) ?_
      refine yzt 1 ?_
      refine yT ?_
      refine ye ?_
      replace b6 := (b6.past (hbV6.trans (hOV7.below (by omega))))
      refine yl 2 rfl 129 b6 hT3 2 ?_
      refine ya 0 rfl 130 .i64 (((f.F : Nat) : Int) - 1) (((f.F - 1 : Nat) : Int)) ((by rw [show (((f.F : Nat) : Int) - 1) = ((f.F - 1 : Nat) : Int) by omega]; exact IntWalk.i64_in _ (by omega))) ?_
      refine yc 0 rfl 131 (two_any (f.F - 1) (2 ^ (f.F - 1)) _ V7 (by omega) rfl rfl) (fun Gx hGx => ?_)
      rintro eV8 V8 ⟨p131, c131, rfl, o131, hbV8⟩
      have hzV8 := hbV8.size
      refine ⟨_, rfl, hGx _ _ ?_⟩
      clear hGx Gx
      replace b10 := (b10.past hbV8)
      have boV9 := b10
      refine ys1 1 rfl b10 hT3 1 (.int .i64 ((P - 1 : Nat) : Int)) #[.bool a.g, .int .i64 ((P - 1 : Nat) : Int), .slice none 0 0] ?_
      clear b10
      intro V9 hOV9 b10
      have hzV9 := hOV9.size
      have boV10 := b10
      refine ys1 1 rfl b10 hT23 2 (.slice p131 (dig B32 (2 ^ (f.F - 1))).length c131) #[.bool a.g, .int .i64 ((P - 1 : Nat) : Int), .slice p131 (dig B32 (2 ^ (f.F - 1))).length c131] ?_
      clear b10
      intro V10 hOV10 b10
      have hzV10 := hOV10.size
      refine yzt 0 ?_
      refine ye ?_
      rcases Bool.eq_false_or_eq_true (f.hid) with f135 | f135
      · skip
        replace b6 := (((b6.past hbV8).only hOV9 (by omega)).only hOV10 (by omega))
        refine ylb 1 rfl 135 b6 hT4 8 (f.hid) true (f135) ?_
        refine yzt 1 ?_
        refine yF ?_
        refine wp_skip ?_
        refine sx_inblock ?_
        refine sx_then ?_
        refine ye ?_
        refine yla 0 rfl 144 b6 hT116 0 ?_
        refine yla 0 rfl 145 b10 hT137 0 ?_
        replace o131 := ((o131.put boV9 hOV9 (by kernel_rfl)).put boV10 hOV10 (by kernel_rfl))
        refine yc 0 rfl 146 ((hJ V10 a.g ((P - 1 : Nat) : Int) (P - 1) (2 ^ (f.F - 1)) rfl p131 c131 o131.rd (by omega) hF1).out) (fun Gx hGx => ?_)
        rintro eV11 V11 ⟨rfl, hbV11⟩
        have hzV11 := hbV11.size
        have hS : strOf (f.strP (f.encP cls.toNat a.g d)) = strOf (f.str a.g (P - 1) (2 ^ (f.F - 1))) := by rw [show cls.toNat = 4 by have := beq_iff_eq.1 f39; omega, e4, if_neg (by rw [(hhid f43).1 f135]; simp)]; rfl
        refine ⟨_, rfl, hGx _ _ ?_⟩
        clear hGx Gx
        refine yzt 2 ?_
        refine wp_ret ?_
        repeat (first | with_reducible refine sx_thenret ?_ | with_reducible refine sx_blockret ?_)
        refine yret (.tuple #[.string (strOf (f.str a.g (P - 1) (2 ^ (f.F - 1)))), .int .i64 0]) (res2 Tryd.results29 rvt rvt) ?_
        exact givesS_ok hE hS rfl (bthru (((bthru ((bthru (bthru ((bthru (bthru hbV1 hbV2) hbV3).trans (hOV4.below (by omega))) hbV5) hbV6).trans (hOV7.below (by omega))) hbV8).trans (hOV9.below (by omega))).trans (hOV10.below (by omega))) hbV11)
      replace b6 := (((b6.past hbV8).only hOV9 (by omega)).only hOV10 (by omega))
      refine ylb 1 rfl 135 b6 hT4 8 (f.hid) false (f135) ?_
      refine yzt 1 ?_
      refine yT ?_
      refine sx_region ?_
      refine yc 0 rfl 137 (two_any 63 (2 ^ 63) 63 V10 (by omega) rfl rfl) (fun Gx hGx => ?_)
      rintro eV11 V11 ⟨p137, c137, rfl, o137, hbV11⟩
      have hzV11 := hbV11.size
      refine ⟨_, rfl, hGx _ _ ?_⟩
      clear hGx Gx
      refine yc 0 rfl 138 (two_any 62 (2 ^ 62) 62 V11 (by omega) rfl rfl) (fun Gx hGx => ?_)
      rintro eV12 V12 ⟨p138, c138, rfl, o138, hbV12⟩
      have hzV12 := hbV12.size
      refine ⟨_, rfl, hGx _ _ ?_⟩
      clear hGx Gx
      replace o137 := (o137.past hbV12)
      refine yc 0 rfl 139 (sadd p137 p138 _ _ c137 c138 (2 ^ 63) (2 ^ 62) (2 ^ 63 + 2 ^ 62) V12 o137.rd o138.rd rfl rfl (by omega) (by omega) rfl) (fun Gx hGx => ?_)
      rintro eV13 V13 ⟨p139, c139, rfl, o139, hbV13⟩
      have hzV13 := hbV13.size
      refine ⟨_, rfl, hGx _ _ ?_⟩
      clear hGx Gx
      replace b10 := (b10.past (bthru (bthru hbV11 hbV12) hbV13))
      have boV14 := b10
      refine ys1 1 rfl b10 hT23 2 (.slice p139 (dig B32 (2 ^ 63 + 2 ^ 62)).length c139) #[.bool a.g, .int .i64 ((P - 1 : Nat) : Int), .slice p139 (dig B32 (2 ^ 63 + 2 ^ 62)).length c139] ?_
      clear b10
      intro V14 hOV14 b10
      have hzV14 := hOV14.size
      refine yz 0 ?_
      refine sx_inblock ?_
      refine sx_then ?_
      refine ye ?_
      replace b6 := ((b6.past (bthru (bthru hbV11 hbV12) hbV13)).only hOV14 (by omega))
      refine yla 0 rfl 144 b6 hT116 0 ?_
      refine yla 0 rfl 145 b10 hT137 0 ?_
      replace o139 := (o139.put boV14 hOV14 (by kernel_rfl))
      refine yc 0 rfl 146 ((hJ V14 a.g ((P - 1 : Nat) : Int) (P - 1) (2 ^ 63 + 2 ^ 62) rfl p139 c139 o139.rd (by omega) (by rw [hx64 (hext f43 f135)]; omega)).out) (fun Gx hGx => ?_)
      rintro eV15 V15 ⟨rfl, hbV15⟩
      have hzV15 := hbV15.size
      have hS : strOf (f.strP (f.encP cls.toNat a.g d)) = strOf (f.str a.g (P - 1) (2 ^ 63 + 2 ^ 62)) := by rw [show cls.toNat = 4 by have := beq_iff_eq.1 f39; omega, e4, if_pos (hext f43 f135)]; rfl
      refine ⟨_, rfl, hGx _ _ ?_⟩
      clear hGx Gx
      refine yzt 2 ?_
      refine wp_ret ?_
      repeat (first | with_reducible refine sx_thenret ?_ | with_reducible refine sx_blockret ?_)
      refine yret (.tuple #[.string (strOf (f.str a.g (P - 1) (2 ^ 63 + 2 ^ 62))), .int .i64 0]) (res2 Tryd.results29 rvt rvt) ?_
      exact givesS_ok hE hS rfl (bthru ((bthru (bthru (bthru (((bthru ((bthru (bthru ((bthru (bthru hbV1 hbV2) hbV3).trans (hOV4.below (by omega))) hbV5) hbV6).trans (hOV7.below (by omega))) hbV8).trans (hOV9.below (by omega))).trans (hOV10.below (by omega))) hbV11) hbV12) hbV13).trans (hOV14.below (by omega))) hbV15)
    replace b6 := (b6.past hbV5)
    refine ylb 3 rfl 43 b6 hT4 9 (f.inf) false (f43) ?_
    refine yzt 12 ?_
    refine yT ?_
    have hE : errEnc f cls a = 5 := by unfold errEnc; rw [if_neg c1, if_neg (by omega), if_pos (by first | exact .inl ⟨.inl (beq_iff_eq.1 f35), f43⟩ | exact .inl ⟨.inr (beq_iff_eq.1 f39), f43⟩ | exact .inr ⟨beq_iff_eq.1 f49, f52⟩)]
    have hN : (5 : Int) ≠ 0 := by decide
    refine yq ?_
    refine wp_ret ?_
    repeat (first | with_reducible refine sx_thenret ?_ | with_reducible refine sx_blockret ?_)
    refine yret (.tuple #[Go.Value.string (ByteArray.mk #[]), .int .i64 5]) (res2 Tryd.results29 rvt rvt) ?_
    exact givesS_err hE hN rfl (bthru ((bthru (bthru hbV1 hbV2) hbV3).trans (hOV4.below (by omega))) hbV5)
  refine yb 0 rfl 39 (cls == 4) (false) (f39) ?_
  refine yl 8 rfl 48 b3 hT3 0 ?_
  rcases Bool.eq_false_or_eq_true (cls == 5) with f49 | f49
  · skip
    refine yb 0 rfl 49 (cls == 5) (true) (f49) ?_
    rcases Bool.eq_false_or_eq_true (f.res) with f52 | f52
    · skip
      replace b6 := (b6.past hbV5)
      refine ylb 2 rfl 52 b6 hT4 10 (f.res) true (f52) ?_
      refine yzt 3 ?_
      refine yF ?_
      refine wp_skip ?_
      refine sx_then ?_
      refine wp_seq ?_
      have c3 : ¬ (((cls = 3 ∨ cls = 4) ∧ f.inf = false) ∨ (cls = 5 ∧ f.res = false)) := fun h => by rcases h with ⟨h, k⟩ | ⟨h, k⟩ <;> first | (rw [f43] at k; cases k; done) | (rw [f52] at k; cases k; done) | (have q := beq_iff_eq.1 f35; omega) | (have q := beq_iff_eq.1 f39; omega) | (have q := beq_eq_false_iff_ne.1 f35; have q2 := beq_eq_false_iff_ne.1 f39; omega) | (have q := beq_eq_false_iff_ne.1 f49; omega)
      refine ye ?_
      refine yl 1 rfl 57 b3 hT3 0 ?_
      refine yb 0 rfl 58 (cls == 2) (false) (beq_eq_false_iff_ne.2 (by have := beq_iff_eq.1 f49; omega)) ?_
      refine yzt 0 ?_
      refine yF ?_
      refine wp_skip ?_
      refine sx_then ?_
      refine wp_seq ?_
      have c58 : cls ≠ 2 := by first | (have := beq_iff_eq.1 f35; omega) | (have := beq_iff_eq.1 f39; omega) | (have := beq_iff_eq.1 f49; omega) | exact beq_eq_false_iff_ne.1 f58
      refine ye ?_
      refine yl 1 rfl 86 b3 hT23 2 ?_
      rcases Bool.eq_false_or_eq_true (decide (((a.xs.length : Nat) : Int) > 0)) with f88 | f88
      · skip
        refine yb 1 rfl 88 (decide (((a.xs.length : Nat) : Int) > 0)) (true) (f88) ?_
        refine yzt 18 ?_
        refine yT ?_
        have hE : errEnc f cls a = 4 := by unfold errEnc; rw [if_neg c1, if_neg (by omega), if_neg c3, if_neg c58, if_pos (by first | (have := of_decide_eq_true f88; omega) | exact .inr (.inl (bne_iff_ne.1 f92)) | exact .inr (.inr ⟨f96, .inr f103⟩) | exact .inr (.inr ⟨f96, .inl (by first | (have := beq_iff_eq.1 f39; omega) | (have := beq_iff_eq.1 f49; omega))⟩))]
        have hN : (4 : Int) ≠ 0 := by decide
        refine yq ?_
        refine wp_ret ?_
        repeat (first | with_reducible refine sx_thenret ?_ | with_reducible refine sx_blockret ?_)
        refine yret (.tuple #[Go.Value.string (ByteArray.mk #[]), .int .i64 4]) (res2 Tryd.results29 rvt rvt) ?_
        exact givesS_err hE hN rfl (bthru ((bthru (bthru hbV1 hbV2) hbV3).trans (hOV4.below (by omega))) hbV5)
      refine yb 1 rfl 88 (decide (((a.xs.length : Nat) : Int) > 0)) (false) (f88) ?_
      refine yl 2 rfl 91 b3 hT3 3 ?_
      rcases Bool.eq_false_or_eq_true (a.e != 0) with f92 | f92
      · skip
        refine yb 0 rfl 92 (a.e != 0) (true) (f92) ?_
        refine yzt 14 ?_
        refine yT ?_
        have hE : errEnc f cls a = 4 := by unfold errEnc; rw [if_neg c1, if_neg (by omega), if_neg c3, if_neg c58, if_pos (by first | (have := of_decide_eq_true f88; omega) | exact .inr (.inl (bne_iff_ne.1 f92)) | exact .inr (.inr ⟨f96, .inr f103⟩) | exact .inr (.inr ⟨f96, .inl (by first | (have := beq_iff_eq.1 f39; omega) | (have := beq_iff_eq.1 f49; omega))⟩))]
        have hN : (4 : Int) ≠ 0 := by decide
        refine yq ?_
        refine wp_ret ?_
        repeat (first | with_reducible refine sx_thenret ?_ | with_reducible refine sx_blockret ?_)
        refine yret (.tuple #[Go.Value.string (ByteArray.mk #[]), .int .i64 4]) (res2 Tryd.results29 rvt rvt) ?_
        exact givesS_err hE hN rfl (bthru ((bthru (bthru hbV1 hbV2) hbV3).trans (hOV4.below (by omega))) hbV5)
      refine yb 0 rfl 92 (a.e != 0) (false) (f92) ?_
      rcases Bool.eq_false_or_eq_true (a.g) with f96 | f96
      · skip
        refine ylb 3 rfl 96 b3 hT4 1 (a.g) true (f96) ?_
        refine yl 2 rfl 99 b3 hT3 0 ?_
        refine yb 0 rfl 100 (decide (cls ≥ 4)) (true) (decide_eq_true (by have := beq_iff_eq.1 f49; omega)) ?_
        refine yzt 6 ?_
        refine yT ?_
        have hE : errEnc f cls a = 4 := by unfold errEnc; rw [if_neg c1, if_neg (by omega), if_neg c3, if_neg c58, if_pos (by first | (have := of_decide_eq_true f88; omega) | exact .inr (.inl (bne_iff_ne.1 f92)) | exact .inr (.inr ⟨f96, .inr f103⟩) | exact .inr (.inr ⟨f96, .inl (by first | (have := beq_iff_eq.1 f39; omega) | (have := beq_iff_eq.1 f49; omega))⟩))]
        have hN : (4 : Int) ≠ 0 := by decide
        refine yq ?_
        refine wp_ret ?_
        repeat (first | with_reducible refine sx_thenret ?_ | with_reducible refine sx_blockret ?_)
        refine yret (.tuple #[Go.Value.string (ByteArray.mk #[]), .int .i64 4]) (res2 Tryd.results29 rvt rvt) ?_
        exact givesS_err hE hN rfl (bthru ((bthru (bthru hbV1 hbV2) hbV3).trans (hOV4.below (by omega))) hbV5)
      refine ylb 3 rfl 96 b3 hT4 1 (a.g) false (f96) ?_
      refine yzt 10 ?_
      refine yF ?_
      refine wp_skip ?_
      refine sx_then ?_
      have hE : errEnc f cls a = 0 := by unfold errEnc; rw [if_neg c1, if_neg (by omega), if_neg c3, if_neg c58, if_neg (fun h => by rcases h with h | h | ⟨h, k⟩ <;> first | (have := of_decide_eq_false f88; omega) | (rw [show (a.e != 0) = true from bne_iff_ne.2 h] at f92; cases f92; done) | (rw [f96] at h; cases h; done) | (rcases k with k | k <;> first | (have := beq_iff_eq.1 f35; omega) | (have := beq_eq_false_iff_ne.1 f49; have := beq_eq_false_iff_ne.1 f35; have := beq_eq_false_iff_ne.1 f39; omega) | (rw [f103] at k; cases k; done)))]
      refine ye ?_
      refine yl 1 rfl 108 b6 hT3 1 ?_
      refine yv 0 rfl 109 (.int .i64 ((P : Nat) : Int)) ?_ (exec_shl (X := (1)) (Y := ((f.E : Nat) : Int)) (k2 := .i64) ((P : Nat) : Int) (by kernel_rfl) (by kernel_rfl) (by omega) ((HSH.out)))
      refine ya 0 rfl 110 .i64 (((P : Nat) : Int) - 1) (((P - 1 : Nat) : Int)) ((by rw [show (((P : Nat) : Int) - 1) = ((P - 1 : Nat) : Int) by omega]; exact IntWalk.i64_in _ (by omega))) ?_
      refine yzt 1 ?_
      refine ye ?_
      refine yl 1 rfl 112 b3 hT4 1 ?_
      refine yw 1 rfl 10 #[.bool false, .int .i64 0, .slice none 0 0] 137 (fun V6 hbV6 hzV6 b10 => ?_)
      have boV7 := b10
      refine ysw 0 rfl b10 hT137 #[.bool a.g, .int .i64 0, .slice none 0 0] ?_
      clear b10
      intro V7 hOV7 b10
      have hzV7 := hOV7.size
      refine yzt 0 ?_
      refine wp_seq ?_
      refine ye ?_
      replace b3 := (b3.past (hbV6.trans (hOV7.below (by omega))))
      refine yl 1 rfl 115 b3 hT3 0 ?_
      refine yzt 0 ?_
      refine wp_block ?_
      refine ye ?_
      refine yb 0 rfl 117 (cls == 3) (false) (f35) ?_
      refine yzt 1 ?_
      refine yF ?_
      refine ye ?_
      refine yb 0 rfl 126 (cls == 4) (false) (f39) ?_
      refine yzt 1 ?_
      refine yF ?_
      refine ye ?_
      refine yb 0 rfl 142 (cls == 5) (true) (f49) ?_
      refine yzt 1 ?_
      refine yT ?_
      refine sx_region ?_
      have boV8 := b10
      refine ys1 1 rfl b10 hT4 0 (.bool true) #[.bool true, .int .i64 0, .slice none 0 0] ?_
      clear b10
      intro V8 hOV8 b10
      have hzV8 := hOV8.size
      refine yz 0 ?_
      refine sx_inblock ?_
      refine sx_then ?_
      refine ye ?_
      replace b6 := (b6.past ((hbV6.trans (hOV7.below (by omega))).trans (hOV8.below (by omega))))
      refine yla 0 rfl 144 b6 hT116 0 ?_
      refine yla 0 rfl 145 b10 hT137 0 ?_
      refine yc 0 rfl 146 ((hJ0 V8 true 0 0 rfl h0T).out) (fun Gx hGx => ?_)
      rintro eV9 V9 ⟨rfl, hbV9⟩
      have hzV9 := hbV9.size
      have hS : strOf (f.strP (f.encP cls.toNat a.g d)) = strOf (f.str true 0 0) := by rw [show cls.toNat = 5 by have := beq_iff_eq.1 f49; omega, e5]; rfl
      refine ⟨_, rfl, hGx _ _ ?_⟩
      clear hGx Gx
      refine yzt 2 ?_
      refine wp_ret ?_
      repeat (first | with_reducible refine sx_thenret ?_ | with_reducible refine sx_blockret ?_)
      refine yret (.tuple #[.string (strOf (f.str true 0 0)), .int .i64 0]) (res2 Tryd.results29 rvt rvt) ?_
      exact givesS_ok hE hS rfl (bthru (((bthru (bthru ((bthru (bthru hbV1 hbV2) hbV3).trans (hOV4.below (by omega))) hbV5) hbV6).trans (hOV7.below (by omega))).trans (hOV8.below (by omega))) hbV9)
    replace b6 := (b6.past hbV5)
    refine ylb 2 rfl 52 b6 hT4 10 (f.res) false (f52) ?_
    refine yzt 3 ?_
    refine yT ?_
    have hE : errEnc f cls a = 5 := by unfold errEnc; rw [if_neg c1, if_neg (by omega), if_pos (by first | exact .inl ⟨.inl (beq_iff_eq.1 f35), f43⟩ | exact .inl ⟨.inr (beq_iff_eq.1 f39), f43⟩ | exact .inr ⟨beq_iff_eq.1 f49, f52⟩)]
    have hN : (5 : Int) ≠ 0 := by decide
    refine yq ?_
    refine wp_ret ?_
    repeat (first | with_reducible refine sx_thenret ?_ | with_reducible refine sx_blockret ?_)
    refine yret (.tuple #[Go.Value.string (ByteArray.mk #[]), .int .i64 5]) (res2 Tryd.results29 rvt rvt) ?_
    exact givesS_err hE hN rfl (bthru ((bthru (bthru hbV1 hbV2) hbV3).trans (hOV4.below (by omega))) hbV5)
  refine yb 0 rfl 49 (cls == 5) (false) (f49) ?_
  refine yzt 6 ?_
  refine yF ?_
  refine wp_skip ?_
  refine sx_then ?_
  refine wp_seq ?_
  have c3 : ¬ (((cls = 3 ∨ cls = 4) ∧ f.inf = false) ∨ (cls = 5 ∧ f.res = false)) := fun h => by rcases h with ⟨h, k⟩ | ⟨h, k⟩ <;> first | (rw [f43] at k; cases k; done) | (rw [f52] at k; cases k; done) | (have q := beq_iff_eq.1 f35; omega) | (have q := beq_iff_eq.1 f39; omega) | (have q := beq_eq_false_iff_ne.1 f35; have q2 := beq_eq_false_iff_ne.1 f39; omega) | (have q := beq_eq_false_iff_ne.1 f49; omega)
  refine ye ?_
  refine yl 1 rfl 57 b3 hT3 0 ?_
  rcases Bool.eq_false_or_eq_true (cls == 2) with f58 | f58
  · skip
    refine yb 0 rfl 58 (cls == 2) (true) (f58) ?_
    refine yzt 0 ?_
    refine yT ?_
    refine wp_seq ?_
    have c58 : cls = 2 := beq_iff_eq.1 f58
    refine ye ?_
    refine yl 1 rfl 60 b3 hT3 3 ?_
    rcases Bool.eq_false_or_eq_true (decide (a.e < (-20000))) with f61 | f61
    · skip
      refine yb 0 rfl 61 (decide (a.e < (-20000))) (true) (f61) ?_
      refine yzt 5 ?_
      refine yT ?_
      have hE : errEnc f cls a = 3 := by unfold errEnc; rw [if_neg c1, if_neg (by omega), if_neg c3, if_pos c58, if_pos (by first | (have := of_decide_eq_true f61; omega) | (have := of_decide_eq_true f65; omega))]
      have hN : (3 : Int) ≠ 0 := by decide
      refine yq ?_
      refine wp_ret ?_
      repeat (first | with_reducible refine sx_thenret ?_ | with_reducible refine sx_blockret ?_)
      refine yret (.tuple #[Go.Value.string (ByteArray.mk #[]), .int .i64 3]) (res2 Tryd.results29 rvt rvt) ?_
      exact givesS_err hE hN rfl (bthru ((bthru (bthru hbV1 hbV2) hbV3).trans (hOV4.below (by omega))) hbV5)
    refine yb 0 rfl 61 (decide (a.e < (-20000))) (false) (f61) ?_
    refine yl 2 rfl 64 b3 hT3 3 ?_
    rcases Bool.eq_false_or_eq_true (decide (a.e > 20000)) with f65 | f65
    · skip
      refine yb 0 rfl 65 (decide (a.e > 20000)) (true) (f65) ?_
      refine yzt 1 ?_
      refine yT ?_
      have hE : errEnc f cls a = 3 := by unfold errEnc; rw [if_neg c1, if_neg (by omega), if_neg c3, if_pos c58, if_pos (by first | (have := of_decide_eq_true f61; omega) | (have := of_decide_eq_true f65; omega))]
      have hN : (3 : Int) ≠ 0 := by decide
      refine yq ?_
      refine wp_ret ?_
      repeat (first | with_reducible refine sx_thenret ?_ | with_reducible refine sx_blockret ?_)
      refine yret (.tuple #[Go.Value.string (ByteArray.mk #[]), .int .i64 3]) (res2 Tryd.results29 rvt rvt) ?_
      exact givesS_err hE hN rfl (bthru ((bthru (bthru hbV1 hbV2) hbV3).trans (hOV4.below (by omega))) hbV5)
    refine yb 0 rfl 65 (decide (a.e > 20000)) (false) (f65) ?_
    refine yzt 1 ?_
    refine yF ?_
    refine wp_skip ?_
    refine sx_then ?_
    refine wp_seq ?_
    refine wp_seq ?_
    by_cases h70 : a.xs.length = 0
    · skip
      by_cases h77 : inGridD d f.g = true
      · skip
        have c4 : -20000 ≤ a.e ∧ a.e ≤ 20000 := by have := of_decide_eq_false f61; have := of_decide_eq_false f65; omega
        have hb1 := hbd c2 c4
        replace b6 := (b6.past hbV5)
        obtain ⟨V6, hVV6, hbV6, hzV6⟩ := drew_of V5
        replace b3 := (b3.past hbV6)
        replace b6 := (b6.past hbV6)
        refine yd2 hVV6 ⟨b3, b6⟩ ?_
        clear hVV6
        refine yt 12 [0] rfl ⟨b3, b6⟩ ?_
        refine ytl 1 rfl 68 (fun _ h => h.1) hT23 2 ⟨b3, b6⟩ ?_
        refine yt 10 [2] rfl ⟨b3, b6⟩ ?_
        refine tk 3 70 (.bool true) ⟨b3, b6⟩ ?_ (hy := fun w' _ => ((show _ = Result.ok (Next.value (.bool (((a.xs.length : Nat) : Int) == 0))) _ from (by kernel_rfl)).trans (congrArg (fun z => Result.ok (Next.value (.bool z)) _) (show (((a.xs.length : Nat) : Int) == 0) = true from beq_iff_eq.2 (by omega)))))
        refine yt 0 [4, 5, 6, 7, 8, 9, 10, 11, 12] rfl ⟨b3, b6⟩ ?_
        refine sx_done (by kernel_rfl) ?_
        refine sx_then ?_
        refine yT ?_
        have hE : errEnc f cls a = 4 := by unfold errEnc; rw [if_neg c1, if_neg (by omega), if_neg c3, if_pos c58, if_neg (by omega), if_pos (by first | exact .inl h70 | exact .inr (by rw [hD]; simpa using h77))]
        have hN : (4 : Int) ≠ 0 := by decide
        refine yq ?_
        refine wp_ret ?_
        repeat (first | with_reducible refine sx_thenret ?_ | with_reducible refine sx_blockret ?_)
        refine yret (.tuple #[Go.Value.string (ByteArray.mk #[]), .int .i64 4]) (res2 Tryd.results29 rvt rvt) ?_
        exact givesS_err hE hN rfl (bthru (bthru ((bthru (bthru hbV1 hbV2) hbV3).trans (hOV4.below (by omega))) hbV5) hbV6)
      have c4 : -20000 ≤ a.e ∧ a.e ≤ 20000 := by have := of_decide_eq_false f61; have := of_decide_eq_false f65; omega
      have hb1 := hbd c2 c4
      replace b6 := (b6.past hbV5)
      obtain ⟨V6, hVV6, hbV6, hzV6⟩ := drew_of V5
      replace b3 := (b3.past hbV6)
      replace b6 := (b6.past hbV6)
      refine yd2 hVV6 ⟨b3, b6⟩ ?_
      clear hVV6
      refine yt 12 [0] rfl ⟨b3, b6⟩ ?_
      refine ytl 1 rfl 68 (fun _ h => h.1) hT23 2 ⟨b3, b6⟩ ?_
      refine yt 10 [2] rfl ⟨b3, b6⟩ ?_
      refine tk 3 70 (.bool true) ⟨b3, b6⟩ ?_ (hy := fun w' _ => ((show _ = Result.ok (Next.value (.bool (((a.xs.length : Nat) : Int) == 0))) _ from (by kernel_rfl)).trans (congrArg (fun z => Result.ok (Next.value (.bool z)) _) (show (((a.xs.length : Nat) : Int) == 0) = true from beq_iff_eq.2 (by omega)))))
      refine yt 0 [4, 5, 6, 7, 8, 9, 10, 11, 12] rfl ⟨b3, b6⟩ ?_
      refine sx_done (by kernel_rfl) ?_
      refine sx_then ?_
      refine yT ?_
      have hE : errEnc f cls a = 4 := by unfold errEnc; rw [if_neg c1, if_neg (by omega), if_neg c3, if_pos c58, if_neg (by omega), if_pos (by first | exact .inl h70 | exact .inr (by rw [hD]; simpa using h77))]
      have hN : (4 : Int) ≠ 0 := by decide
      refine yq ?_
      refine wp_ret ?_
      repeat (first | with_reducible refine sx_thenret ?_ | with_reducible refine sx_blockret ?_)
      refine yret (.tuple #[Go.Value.string (ByteArray.mk #[]), .int .i64 4]) (res2 Tryd.results29 rvt rvt) ?_
      exact givesS_err hE hN rfl (bthru (bthru ((bthru (bthru hbV1 hbV2) hbV3).trans (hOV4.below (by omega))) hbV5) hbV6)
    by_cases h77 : inGridD d f.g = true
    · skip
      have c4 : -20000 ≤ a.e ∧ a.e ≤ 20000 := by have := of_decide_eq_false f61; have := of_decide_eq_false f65; omega
      have hb1 := hbd c2 c4
      replace b6 := (b6.past hbV5)
      obtain ⟨V6, hVV6, hbV6, hzV6⟩ := drew_of V5
      replace b3 := (b3.past hbV6)
      replace b6 := (b6.past hbV6)
      refine yd2 hVV6 ⟨b3, b6⟩ ?_
      clear hVV6
      refine yt 12 [0] rfl ⟨b3, b6⟩ ?_
      refine ytl 1 rfl 68 (fun _ h => h.1) hT23 2 ⟨b3, b6⟩ ?_
      refine yt 10 [2] rfl ⟨b3, b6⟩ ?_
      refine tk 3 70 (.bool false) ⟨b3, b6⟩ ?_ (hy := fun w' _ => ((show _ = Result.ok (Next.value (.bool (((a.xs.length : Nat) : Int) == 0))) _ from (by kernel_rfl)).trans (congrArg (fun z => Result.ok (Next.value (.bool z)) _) (show (((a.xs.length : Nat) : Int) == 0) = false from beq_eq_false_iff_ne.2 (by omega)))))
      refine yt 8 [4] rfl ⟨b3, b6⟩ ?_
      refine ytla 5 rfl 72 (fun _ h => h.2) hT116 0 ⟨b3, b6⟩ ?_
      refine ytla 6 rfl 73 (fun _ h => h.1) hT56 0 ⟨b3, b6⟩ ?_
      refine yt 5 [8] rfl ⟨b3, b6⟩ ?_
      refine ytla 9 rfl 76 (fun _ h => h.2) hT29 3 ⟨b3, b6⟩ ?_
      refine sxr [7] ?_
      refine rd1 (fun Kx hKx => ?_)
      replace rd := (rd.past (bthru hbV5 hbV6))
      replace hT := (hT.past (bthru (bthru ((bthru (bthru hbV1 hbV2) hbV3).trans (hOV4.below (by omega))) hbV5) hbV6))
      refine yck 74 ((HR V6 c2 rd c4 hT).out) ?_
      rintro eV7 V7 ⟨p74, c74, rfl, o74, hbV7⟩
      have hzV7 := hbV7.size
      refine ⟨_, rfl, ?_⟩
      replace b3 := (b3.past hbV7)
      replace b6 := (b6.past hbV7)
      refine hKx.out _ _ ⟨b3, b6⟩ ?_
      clear hKx Kx
      refine sxr [10] ?_
      refine rd1 (fun Kx hKx => ?_)
      refine yck 77 (gkeeps_any d.neg p74 c74 d.e d.m f.g V7 o74.rd (by omega) (by omega) (goodG_of G.g)) ?_
      rintro eV8 V8 ⟨rfl, hbV8⟩
      have hzV8 := hbV8.size
      rw [show (keepsD ⟨d.neg, d.m, d.e⟩ f.g) = true from hkp.trans h77]
      refine ⟨_, rfl, ?_⟩
      replace b3 := (b3.past hbV8)
      replace b6 := (b6.past hbV8)
      refine hKx.out _ _ ⟨b3, b6⟩ ?_
      clear hKx Kx
      refine yt 0 [11, 12] rfl ⟨b3, b6⟩ ?_
      refine sx_done (by kernel_rfl) ?_
      refine sx_then ?_
      refine yF ?_
      refine wp_skip ?_
      refine sx_then ?_
      refine wp_seq ?_
      have hi := hige h77
      obtain ⟨V9, hVV9, hbV9, hzV9⟩ := drew_of V8
      replace b6 := (b6.past hbV9)
      replace b3 := (b3.past hbV9)
      refine yd2 hVV9 ⟨b6, b3⟩ ?_
      clear hVV9
      refine ytla 0 rfl 80 (fun _ h => h.1) hT116 0 ⟨b6, b3⟩ ?_
      refine ytla 1 rfl 81 (fun _ h => h.1) hT116 0 ⟨b6, b3⟩ ?_
      refine ytla 2 rfl 82 (fun _ h => h.2) hT56 0 ⟨b6, b3⟩ ?_
      refine sxr [3] ?_
      refine rd1 (fun Kx hKx => ?_)
      replace rd := (rd.past (bthru (bthru hbV7 hbV8) hbV9))
      replace hT := (hT.past (bthru (bthru hbV7 hbV8) hbV9))
      refine yck 83 ((HR V9 c2 rd c4 hT).out) ?_
      rintro eV10 V10 ⟨p83, c83, rfl, o83, hbV10⟩
      have hzV10 := hbV10.size
      refine ⟨_, rfl, ?_⟩
      replace b6 := (b6.past hbV10)
      replace b3 := (b3.past hbV10)
      refine hKx.out _ _ ⟨b6, b3⟩ ?_
      clear hKx Kx
      refine sxr [4] ?_
      refine rd1 (fun Kx hKx => ?_)
      refine yck 84 (number_any f d p83 c83 V10 G o83.rd hb1.1 (by omega) h77 (hm0 c2 h70)) ?_
      rintro eV11 V11 ⟨rfl, hbV11⟩
      have hzV11 := hbV11.size
      refine ⟨_, rfl, ?_⟩
      replace b6 := (b6.past hbV11)
      replace b3 := (b3.past hbV11)
      refine hKx.out _ _ ⟨b6, b3⟩ ?_
      clear hKx Kx
      refine yt 0 [5, 6] rfl ⟨b6, b3⟩ ?_
      refine sx_done (by kernel_rfl) ?_
      refine sx_then ?_
      refine wp_ret ?_
      repeat (first | with_reducible refine sx_thenret ?_ | with_reducible refine sx_blockret ?_)
      refine yret (.tuple #[.string (strOf (f.strP (f.numP d))), .int .i64 0]) (res2 Tryd.results29 rvt rvt) ?_
      have hE : errEnc f cls a = 0 := by unfold errEnc; rw [if_neg c1, if_neg (by omega), if_neg c3, if_pos c58, if_neg (by omega), if_neg (fun h => by rcases h with h | h <;> first | exact h70 h | (rw [hD, h77] at h; cases h; done))]
      exact givesS_ok hE (by rw [show cls.toNat = 2 by omega, e2]) rfl (bthru (bthru (bthru (bthru (bthru (bthru (bthru ((bthru (bthru hbV1 hbV2) hbV3).trans (hOV4.below (by omega))) hbV5) hbV6) hbV7) hbV8) hbV9) hbV10) hbV11)
    have c4 : -20000 ≤ a.e ∧ a.e ≤ 20000 := by have := of_decide_eq_false f61; have := of_decide_eq_false f65; omega
    have hb1 := hbd c2 c4
    replace b6 := (b6.past hbV5)
    obtain ⟨V6, hVV6, hbV6, hzV6⟩ := drew_of V5
    replace b3 := (b3.past hbV6)
    replace b6 := (b6.past hbV6)
    refine yd2 hVV6 ⟨b3, b6⟩ ?_
    clear hVV6
    refine yt 12 [0] rfl ⟨b3, b6⟩ ?_
    refine ytl 1 rfl 68 (fun _ h => h.1) hT23 2 ⟨b3, b6⟩ ?_
    refine yt 10 [2] rfl ⟨b3, b6⟩ ?_
    refine tk 3 70 (.bool false) ⟨b3, b6⟩ ?_ (hy := fun w' _ => ((show _ = Result.ok (Next.value (.bool (((a.xs.length : Nat) : Int) == 0))) _ from (by kernel_rfl)).trans (congrArg (fun z => Result.ok (Next.value (.bool z)) _) (show (((a.xs.length : Nat) : Int) == 0) = false from beq_eq_false_iff_ne.2 (by omega)))))
    refine yt 8 [4] rfl ⟨b3, b6⟩ ?_
    refine ytla 5 rfl 72 (fun _ h => h.2) hT116 0 ⟨b3, b6⟩ ?_
    refine ytla 6 rfl 73 (fun _ h => h.1) hT56 0 ⟨b3, b6⟩ ?_
    refine yt 5 [8] rfl ⟨b3, b6⟩ ?_
    refine ytla 9 rfl 76 (fun _ h => h.2) hT29 3 ⟨b3, b6⟩ ?_
    refine sxr [7] ?_
    refine rd1 (fun Kx hKx => ?_)
    replace rd := (rd.past (bthru hbV5 hbV6))
    replace hT := (hT.past (bthru (bthru ((bthru (bthru hbV1 hbV2) hbV3).trans (hOV4.below (by omega))) hbV5) hbV6))
    refine yck 74 ((HR V6 c2 rd c4 hT).out) ?_
    rintro eV7 V7 ⟨p74, c74, rfl, o74, hbV7⟩
    have hzV7 := hbV7.size
    refine ⟨_, rfl, ?_⟩
    replace b3 := (b3.past hbV7)
    replace b6 := (b6.past hbV7)
    refine hKx.out _ _ ⟨b3, b6⟩ ?_
    clear hKx Kx
    refine sxr [10] ?_
    refine rd1 (fun Kx hKx => ?_)
    refine yck 77 (gkeeps_any d.neg p74 c74 d.e d.m f.g V7 o74.rd (by omega) (by omega) (goodG_of G.g)) ?_
    rintro eV8 V8 ⟨rfl, hbV8⟩
    have hzV8 := hbV8.size
    rw [show (keepsD ⟨d.neg, d.m, d.e⟩ f.g) = false from hkp.trans (by simpa using h77)]
    refine ⟨_, rfl, ?_⟩
    replace b3 := (b3.past hbV8)
    replace b6 := (b6.past hbV8)
    refine hKx.out _ _ ⟨b3, b6⟩ ?_
    clear hKx Kx
    refine yt 0 [11, 12] rfl ⟨b3, b6⟩ ?_
    refine sx_done (by kernel_rfl) ?_
    refine sx_then ?_
    refine yT ?_
    have hE : errEnc f cls a = 4 := by unfold errEnc; rw [if_neg c1, if_neg (by omega), if_neg c3, if_pos c58, if_neg (by omega), if_pos (by first | exact .inl h70 | exact .inr (by rw [hD]; simpa using h77))]
    have hN : (4 : Int) ≠ 0 := by decide
    refine yq ?_
    refine wp_ret ?_
    repeat (first | with_reducible refine sx_thenret ?_ | with_reducible refine sx_blockret ?_)
    refine yret (.tuple #[Go.Value.string (ByteArray.mk #[]), .int .i64 4]) (res2 Tryd.results29 rvt rvt) ?_
    exact givesS_err hE hN rfl (bthru (bthru (bthru (bthru ((bthru (bthru hbV1 hbV2) hbV3).trans (hOV4.below (by omega))) hbV5) hbV6) hbV7) hbV8)
  refine yb 0 rfl 58 (cls == 2) (false) (f58) ?_
  refine yzt 0 ?_
  refine yF ?_
  refine wp_skip ?_
  refine sx_then ?_
  refine wp_seq ?_
  have c58 : cls ≠ 2 := by first | (have := beq_iff_eq.1 f35; omega) | (have := beq_iff_eq.1 f39; omega) | (have := beq_iff_eq.1 f49; omega) | exact beq_eq_false_iff_ne.1 f58
  refine ye ?_
  refine yl 1 rfl 86 b3 hT23 2 ?_
  rcases Bool.eq_false_or_eq_true (decide (((a.xs.length : Nat) : Int) > 0)) with f88 | f88
  · skip
    refine yb 1 rfl 88 (decide (((a.xs.length : Nat) : Int) > 0)) (true) (f88) ?_
    refine yzt 18 ?_
    refine yT ?_
    have hE : errEnc f cls a = 4 := by unfold errEnc; rw [if_neg c1, if_neg (by omega), if_neg c3, if_neg c58, if_pos (by first | (have := of_decide_eq_true f88; omega) | exact .inr (.inl (bne_iff_ne.1 f92)) | exact .inr (.inr ⟨f96, .inr f103⟩) | exact .inr (.inr ⟨f96, .inl (by first | (have := beq_iff_eq.1 f39; omega) | (have := beq_iff_eq.1 f49; omega))⟩))]
    have hN : (4 : Int) ≠ 0 := by decide
    refine yq ?_
    refine wp_ret ?_
    repeat (first | with_reducible refine sx_thenret ?_ | with_reducible refine sx_blockret ?_)
    refine yret (.tuple #[Go.Value.string (ByteArray.mk #[]), .int .i64 4]) (res2 Tryd.results29 rvt rvt) ?_
    exact givesS_err hE hN rfl (bthru ((bthru (bthru hbV1 hbV2) hbV3).trans (hOV4.below (by omega))) hbV5)
  refine yb 1 rfl 88 (decide (((a.xs.length : Nat) : Int) > 0)) (false) (f88) ?_
  refine yl 2 rfl 91 b3 hT3 3 ?_
  rcases Bool.eq_false_or_eq_true (a.e != 0) with f92 | f92
  · skip
    refine yb 0 rfl 92 (a.e != 0) (true) (f92) ?_
    refine yzt 14 ?_
    refine yT ?_
    have hE : errEnc f cls a = 4 := by unfold errEnc; rw [if_neg c1, if_neg (by omega), if_neg c3, if_neg c58, if_pos (by first | (have := of_decide_eq_true f88; omega) | exact .inr (.inl (bne_iff_ne.1 f92)) | exact .inr (.inr ⟨f96, .inr f103⟩) | exact .inr (.inr ⟨f96, .inl (by first | (have := beq_iff_eq.1 f39; omega) | (have := beq_iff_eq.1 f49; omega))⟩))]
    have hN : (4 : Int) ≠ 0 := by decide
    refine yq ?_
    refine wp_ret ?_
    repeat (first | with_reducible refine sx_thenret ?_ | with_reducible refine sx_blockret ?_)
    refine yret (.tuple #[Go.Value.string (ByteArray.mk #[]), .int .i64 4]) (res2 Tryd.results29 rvt rvt) ?_
    exact givesS_err hE hN rfl (bthru ((bthru (bthru hbV1 hbV2) hbV3).trans (hOV4.below (by omega))) hbV5)
  refine yb 0 rfl 92 (a.e != 0) (false) (f92) ?_
  rcases Bool.eq_false_or_eq_true (a.g) with f96 | f96
  · skip
    refine ylb 3 rfl 96 b3 hT4 1 (a.g) true (f96) ?_
    refine yl 2 rfl 99 b3 hT3 0 ?_
    refine yb 0 rfl 100 (decide (cls ≥ 4)) (false) (decide_eq_false (by have := beq_eq_false_iff_ne.1 f49; have := beq_eq_false_iff_ne.1 f35; have := beq_eq_false_iff_ne.1 f39; omega)) ?_
    rcases Bool.eq_false_or_eq_true (f.res) with f103 | f103
    · skip
      replace b6 := (b6.past hbV5)
      refine ylb 2 rfl 103 b6 hT4 10 (f.res) true (f103) ?_
      refine yzt 3 ?_
      refine yT ?_
      have hE : errEnc f cls a = 4 := by unfold errEnc; rw [if_neg c1, if_neg (by omega), if_neg c3, if_neg c58, if_pos (by first | (have := of_decide_eq_true f88; omega) | exact .inr (.inl (bne_iff_ne.1 f92)) | exact .inr (.inr ⟨f96, .inr f103⟩) | exact .inr (.inr ⟨f96, .inl (by first | (have := beq_iff_eq.1 f39; omega) | (have := beq_iff_eq.1 f49; omega))⟩))]
      have hN : (4 : Int) ≠ 0 := by decide
      refine yq ?_
      refine wp_ret ?_
      repeat (first | with_reducible refine sx_thenret ?_ | with_reducible refine sx_blockret ?_)
      refine yret (.tuple #[Go.Value.string (ByteArray.mk #[]), .int .i64 4]) (res2 Tryd.results29 rvt rvt) ?_
      exact givesS_err hE hN rfl (bthru ((bthru (bthru hbV1 hbV2) hbV3).trans (hOV4.below (by omega))) hbV5)
    replace b6 := (b6.past hbV5)
    refine ylb 2 rfl 103 b6 hT4 10 (f.res) false (f103) ?_
    refine yzt 3 ?_
    refine yF ?_
    refine wp_skip ?_
    refine sx_then ?_
    have hE : errEnc f cls a = 0 := by unfold errEnc; rw [if_neg c1, if_neg (by omega), if_neg c3, if_neg c58, if_neg (fun h => by rcases h with h | h | ⟨h, k⟩ <;> first | (have := of_decide_eq_false f88; omega) | (rw [show (a.e != 0) = true from bne_iff_ne.2 h] at f92; cases f92; done) | (rw [f96] at h; cases h; done) | (rcases k with k | k <;> first | (have := beq_iff_eq.1 f35; omega) | (have := beq_eq_false_iff_ne.1 f49; have := beq_eq_false_iff_ne.1 f35; have := beq_eq_false_iff_ne.1 f39; omega) | (rw [f103] at k; cases k; done)))]
    refine ye ?_
    refine yl 1 rfl 108 b6 hT3 1 ?_
    refine yv 0 rfl 109 (.int .i64 ((P : Nat) : Int)) ?_ (exec_shl (X := (1)) (Y := ((f.E : Nat) : Int)) (k2 := .i64) ((P : Nat) : Int) (by kernel_rfl) (by kernel_rfl) (by omega) ((HSH.out)))
    refine ya 0 rfl 110 .i64 (((P : Nat) : Int) - 1) (((P - 1 : Nat) : Int)) ((by rw [show (((P : Nat) : Int) - 1) = ((P - 1 : Nat) : Int) by omega]; exact IntWalk.i64_in _ (by omega))) ?_
    refine yzt 1 ?_
    refine ye ?_
    refine yl 1 rfl 112 b3 hT4 1 ?_
    refine yw 1 rfl 10 #[.bool false, .int .i64 0, .slice none 0 0] 137 (fun V6 hbV6 hzV6 b10 => ?_)
    have boV7 := b10
    refine ysw 0 rfl b10 hT137 #[.bool a.g, .int .i64 0, .slice none 0 0] ?_
    clear b10
    intro V7 hOV7 b10
    have hzV7 := hOV7.size
    refine yzt 0 ?_
    refine wp_seq ?_
    refine ye ?_
    replace b3 := (b3.past (hbV6.trans (hOV7.below (by omega))))
    refine yl 1 rfl 115 b3 hT3 0 ?_
    refine yzt 0 ?_
    refine wp_block ?_
    refine ye ?_
    refine yb 0 rfl 117 (cls == 3) (false) (f35) ?_
    refine yzt 1 ?_
    refine yF ?_
    refine ye ?_
    refine yb 0 rfl 126 (cls == 4) (false) (f39) ?_
    refine yzt 1 ?_
    refine yF ?_
    refine ye ?_
    refine yb 0 rfl 142 (cls == 5) (false) (f49) ?_
    refine yzt 1 ?_
    refine yF ?_
    refine wp_skip ?_
    refine sx_inblock ?_
    refine sx_then ?_
    refine ye ?_
    replace b6 := (b6.past (hbV6.trans (hOV7.below (by omega))))
    refine yla 0 rfl 144 b6 hT116 0 ?_
    refine yla 0 rfl 145 b10 hT137 0 ?_
    refine yc 0 rfl 146 ((hJ0 V7 a.g 0 0 rfl h0T).out) (fun Gx hGx => ?_)
    rintro eV8 V8 ⟨rfl, hbV8⟩
    have hzV8 := hbV8.size
    have hS : strOf (f.strP (f.encP cls.toNat a.g d)) = strOf (f.str a.g 0 0) := by rw [show cls.toNat = 1 by have := beq_eq_false_iff_ne.1 f49; have := beq_eq_false_iff_ne.1 f35; have := beq_eq_false_iff_ne.1 f39; omega, e1]; rfl
    refine ⟨_, rfl, hGx _ _ ?_⟩
    clear hGx Gx
    refine yzt 2 ?_
    refine wp_ret ?_
    repeat (first | with_reducible refine sx_thenret ?_ | with_reducible refine sx_blockret ?_)
    refine yret (.tuple #[.string (strOf (f.str a.g 0 0)), .int .i64 0]) (res2 Tryd.results29 rvt rvt) ?_
    exact givesS_ok hE hS rfl (bthru ((bthru (bthru ((bthru (bthru hbV1 hbV2) hbV3).trans (hOV4.below (by omega))) hbV5) hbV6).trans (hOV7.below (by omega))) hbV8)
  refine ylb 3 rfl 96 b3 hT4 1 (a.g) false (f96) ?_
  refine yzt 10 ?_
  refine yF ?_
  refine wp_skip ?_
  refine sx_then ?_
  have hE : errEnc f cls a = 0 := by unfold errEnc; rw [if_neg c1, if_neg (by omega), if_neg c3, if_neg c58, if_neg (fun h => by rcases h with h | h | ⟨h, k⟩ <;> first | (have := of_decide_eq_false f88; omega) | (rw [show (a.e != 0) = true from bne_iff_ne.2 h] at f92; cases f92; done) | (rw [f96] at h; cases h; done) | (rcases k with k | k <;> first | (have := beq_iff_eq.1 f35; omega) | (have := beq_eq_false_iff_ne.1 f49; have := beq_eq_false_iff_ne.1 f35; have := beq_eq_false_iff_ne.1 f39; omega) | (rw [f103] at k; cases k; done)))]
  refine ye ?_
  replace b6 := (b6.past hbV5)
  refine yl 1 rfl 108 b6 hT3 1 ?_
  refine yv 0 rfl 109 (.int .i64 ((P : Nat) : Int)) ?_ (exec_shl (X := (1)) (Y := ((f.E : Nat) : Int)) (k2 := .i64) ((P : Nat) : Int) (by kernel_rfl) (by kernel_rfl) (by omega) ((HSH.out)))
  refine ya 0 rfl 110 .i64 (((P : Nat) : Int) - 1) (((P - 1 : Nat) : Int)) ((by rw [show (((P : Nat) : Int) - 1) = ((P - 1 : Nat) : Int) by omega]; exact IntWalk.i64_in _ (by omega))) ?_
  refine yzt 1 ?_
  refine ye ?_
  refine yl 1 rfl 112 b3 hT4 1 ?_
  refine yw 1 rfl 10 #[.bool false, .int .i64 0, .slice none 0 0] 137 (fun V6 hbV6 hzV6 b10 => ?_)
  have boV7 := b10
  refine ysw 0 rfl b10 hT137 #[.bool a.g, .int .i64 0, .slice none 0 0] ?_
  clear b10
  intro V7 hOV7 b10
  have hzV7 := hOV7.size
  refine yzt 0 ?_
  refine wp_seq ?_
  refine ye ?_
  replace b3 := (b3.past (hbV6.trans (hOV7.below (by omega))))
  refine yl 1 rfl 115 b3 hT3 0 ?_
  refine yzt 0 ?_
  refine wp_block ?_
  refine ye ?_
  refine yb 0 rfl 117 (cls == 3) (false) (f35) ?_
  refine yzt 1 ?_
  refine yF ?_
  refine ye ?_
  refine yb 0 rfl 126 (cls == 4) (false) (f39) ?_
  refine yzt 1 ?_
  refine yF ?_
  refine ye ?_
  refine yb 0 rfl 142 (cls == 5) (false) (f49) ?_
  refine yzt 1 ?_
  refine yF ?_
  refine wp_skip ?_
  refine sx_inblock ?_
  refine sx_then ?_
  refine ye ?_
  replace b6 := (b6.past (hbV6.trans (hOV7.below (by omega))))
  refine yla 0 rfl 144 b6 hT116 0 ?_
  refine yla 0 rfl 145 b10 hT137 0 ?_
  refine yc 0 rfl 146 ((hJ0 V7 a.g 0 0 rfl h0T).out) (fun Gx hGx => ?_)
  rintro eV8 V8 ⟨rfl, hbV8⟩
  have hzV8 := hbV8.size
  have hS : strOf (f.strP (f.encP cls.toNat a.g d)) = strOf (f.str a.g 0 0) := by rw [show cls.toNat = 1 by have := beq_eq_false_iff_ne.1 f49; have := beq_eq_false_iff_ne.1 f35; have := beq_eq_false_iff_ne.1 f39; omega, e1]; rfl
  refine ⟨_, rfl, hGx _ _ ?_⟩
  clear hGx Gx
  refine yzt 2 ?_
  refine wp_ret ?_
  repeat (first | with_reducible refine sx_thenret ?_ | with_reducible refine sx_blockret ?_)
  refine yret (.tuple #[.string (strOf (f.str a.g 0 0)), .int .i64 0]) (res2 Tryd.results29 rvt rvt) ?_
  exact givesS_ok hE hS rfl (bthru ((bthru (bthru ((bthru (bthru hbV1 hbV2) hbV3).trans (hOV4.below (by omega))) hbV5) hbV6).trans (hOV7.below (by omega))) hbV8)
end Go.Proofs.YtcipdimogodndaaDoor

namespace Go.Slip

def GrpIn (N : Nat) (D : List Nat) (i d A : Nat) : Prop := (∀ x ∈ D, x < 10) ∧ d < 10 ^ (4 - i) ∧ N = val 10 D + 10 ^ D.length * (d + 10 ^ (4 - i) * A)
def GrpOut (N : Nat) (D : List Nat) (A : Nat) : Prop := (∀ x ∈ D, x < 10) ∧ N = val 10 D + 10 ^ D.length * A

theorem GrpOut.start (N : Nat) : GrpOut N [] N := ⟨by simp, by simp⟩

theorem GrpOut.enter {N : Nat} {D : List Nat} {A : Nat} (h : GrpOut N D A) : GrpIn N D 0 (A % 10000) (A / 10000) := by
  refine ⟨h.1, Nat.mod_lt _ (by omega), ?_⟩
  rw [h.2]
  congr 2
  have := Nat.mod_add_div A 10000
  show A = A % 10000 + 10000 * (A / 10000)
  omega

theorem GrpIn.step {N : Nat} {D : List Nat} {i d A : Nat} (h : GrpIn N D i d A) (hi : i < 4) : GrpIn N (D ++ [d % 10]) (i + 1) (d / 10) A := by
  obtain ⟨h1, h2, h3⟩ := h
  have e : 4 - i = 4 - (i + 1) + 1 := by omega
  rw [e, Nat.pow_succ] at h2 h3
  refine ⟨fun x hx => ?_, by omega, ?_⟩
  · rcases List.mem_append.1 hx with hx | hx
    · exact h1 x hx
    · simp at hx; omega
  · rw [h3, val_snoc, List.length_append, List.length_singleton, Nat.pow_succ]
    have := Nat.mod_add_div d 10
    generalize d % 10 = s at *
    generalize d / 10 = q at *
    subst this
    grind

theorem GrpIn.leave {N : Nat} {D : List Nat} {d A : Nat} (h : GrpIn N D 4 d A) : GrpOut N D A := by
  obtain ⟨h1, h2, h3⟩ := h
  have hd : d = 0 := by simpa using h2
  subst hd
  exact ⟨h1, by rw [h3]; simp⟩

theorem GrpOut.size {N : Nat} {D : List Nat} {A : Nat} (h : GrpOut N D A) (hA : 0 < A) : D.length ≤ 16 * (dig B16 N).length := by
  have h1 : 10 ^ D.length ≤ N := by
    rw [h.2]
    have := Nat.le_mul_of_pos_right (10 ^ D.length) hA
    omega
  have h2 := (dig_len_le B16_two N _).1 (Nat.le_refl _)
  have h3 : B16 ^ (dig B16 N).length = 2 ^ (16 * (dig B16 N).length) := by rw [Nat.pow_mul]; congr 1
  have h4 : 2 ^ D.length ≤ 10 ^ D.length := Nat.pow_le_pow_left (by omega) _
  have h5 : 2 ^ D.length < 2 ^ (16 * (dig B16 N).length) := by rw [← h3]; omega
  exact Nat.le_of_lt ((Nat.pow_lt_pow_iff_right (by omega)).1 h5)

end Go.Slip

namespace Go.Slip

def MaRel (L X : List Nat) (ten d0 i d : Nat) : Prop :=
  (∀ x ∈ L, x < B32) ∧ L.length = X.length ∧ (∀ j, i ≤ j → dg L j = dg X j) ∧ val B32 (L.take i) + d * B32 ^ i = val B32 (X.take i) * ten + d0

theorem MaRel.start {X : List Nat} (h : ∀ x ∈ X, x < B32) (ten d0 : Nat) : MaRel X X ten d0 0 d0 := ⟨h, rfl, fun _ _ => rfl, by simp⟩

theorem MaRel.step {L X : List Nat} {ten d0 i d : Nat} (h : MaRel L X ten d0 i d) (hi : i < X.length) (t : Nat) (ht : t = dg X i * ten + d) : MaRel (L.set i (t % B32)) X ten d0 (i + 1) (t / B32) := by
  obtain ⟨h1, h2, h3, h4⟩ := h
  refine ⟨set_lt L h1 i _ (Nat.mod_lt _ B32_pos), by simpa using h2, fun j hj => ?_, ?_⟩
  · rw [dg_set_ne (by omega)]; exact h3 j (by omega)
  · rw [val_take_succ, take_set_same, dg_set_same (by omega), val_take_succ, Nat.pow_succ]
    have h5 := Nat.div_add_mod t B32
    generalize t / B32 = q at *
    generalize t % B32 = r at *
    have e : B32 ^ i * (B32 * q + r) = B32 ^ i * (dg X i * ten + d) := by rw [h5, ht]
    grind

theorem MaRel.done0 {L : List Nat} {ten d0 a : Nat} (h : MaRel L (dig B32 a) ten d0 (dig B32 a).length 0) (h1 : 0 < ten) : L = dig B32 (a * ten + d0) := by
  have h4 := h.2.2.2
  rw [List.take_length, val_dig B32_two, ← h.2.1, List.take_length] at h4
  obtain ⟨m, rfl⟩ : ∃ m, ten = m + 1 := ⟨ten - 1, by omega⟩
  have e : a * (m + 1) + d0 = a + (a * m + d0) := by grind
  rw [e] at h4 ⊢
  exact add_end0 B32_two L a _ h.1 h.2.1 (by omega)

theorem MaRel.done1 {L : List Nat} {ten d0 a d : Nat} (h : MaRel L (dig B32 a) ten d0 (dig B32 a).length d) (h1 : 0 < d) (h2 : d < B32) : L ++ [d] = dig B32 (a * ten + d0) := by
  have h4 := h.2.2.2
  rw [List.take_length, val_dig B32_two, ← h.2.1, List.take_length] at h4
  exact add_end1 B32_two L d _ h.1 h1 h2 h4

end Go.Slip

namespace Go.Proofs.YtcipdimogodndaaDoor
open Go.RowKit Go.Slip

theorem _root_.Go.Slip.SmallRel.skip {B : Nat} {L xs : List Nat} {d k r : Nat} (h : SmallRel B L xs d (k + 1) r) (hk : k < xs.length) (hL : k < L.length) (hx : dg xs k < B) (hz : dg L k = 0) (hlt : r * B + dg xs k < d) : SmallRel B L xs d k (r * B + dg xs k) := by
  have h1 := (h.step hk hL hx).1
  rw [Nat.div_eq_of_lt hlt, Nat.mod_eq_of_lt hlt, set_same L k hz] at h1
  exact h1

end Go.Proofs.YtcipdimogodndaaDoor

namespace Go.Proofs.YtcipdimogodndaaDoor
open Go.RowKit Go.Slip

instance decDv : DecidableEq Dv := fun a b => decidable_of_iff (a.neg = b.neg ∧ a.m = b.m ∧ a.e = b.e) ⟨fun h => Dv.ext' h.1 h.2.1 h.2.2, fun h => by subst h; exact ⟨rfl, rfl, rfl⟩⟩

end Go.Proofs.YtcipdimogodndaaDoor

namespace Go.Proofs.YtcipdimogodndaaDoor
open Go.RowKit Go.Slip

structure InF (w : World) (base : Nat) (a : Rw) : Prop where
  rd : Rd w .i64 a.p (dig B16 a.m)
  cap : (dig B16 a.m).length ≤ a.c
  len : (dig B16 a.m).length ≤ 1000000
  lo : -1000000 ≤ a.e
  hi : a.e ≤ 1000000
  at_ : 0 < (dig B16 a.m).length → base ≤ blk a.p

theorem InF.past {w w' : World} {base : Nat} {a : Rw} (h : InF w base a) (hb : Below w.heap.size w w') : InF w' base a := ⟨h.rd.past hb, h.cap, h.len, h.lo, h.hi, h.at_⟩
theorem InF.drew {w : World} {base : Nat} {a : Rw} (h : InF w base a) : InF w.drew base a := ⟨h.rd.drew, h.cap, h.len, h.lo, h.hi, h.at_⟩
theorem InF.mono {w : World} {base base' : Nat} {a : Rw} (h : InF w base a) (hb : base' ≤ base) : InF w base' a := ⟨h.rd, h.cap, h.len, h.lo, h.hi, fun k => Nat.le_trans hb (h.at_ k)⟩
theorem InF.only {w w' : World} {base k : Nat} {a : Rw} (h : InF w base a) (hb : Only k w w') (hne : 0 < (dig B16 a.m).length → blk a.p ≠ k) : InF w' base a := ⟨h.rd.only hb hne, h.cap, h.len, h.lo, h.hi, h.at_⟩
theorem InF.lt {w : World} {base : Nat} {a : Rw} (h : InF w base a) : 0 < (dig B16 a.m).length → blk a.p < w.heap.size := fun k => h.rd.lt k

end Go.Proofs.YtcipdimogodndaaDoor

namespace Go.Proofs.YtcipdimogodndaaDoor
open Go.RowKit Go.Slip

def GRf (w : World) (xs : List Nat) (en : Ending) (w' : World) : Prop :=
  ∃ p c, en = .returned (.slice p xs.length c) ∧ Rf w' w.heap.size p c xs ∧ Below w.heap.size w w'
theorem GivesR.grf {w w' : World} {xs : List Nat} {en : Ending} (h : GivesR w .i64 xs en w') : GRf w xs en w' := by
  obtain ⟨p, c, h1, h2, h3, h4, h5⟩ := h
  exact ⟨p, c, h1, rf_ofR h2 h3 h4, h5⟩
def GNf (w : World) (base : Nat) (d : Dv) (en : Ending) (w' : World) : Prop :=
  ∃ p c, en = .returned (.agg #[.bool d.neg, .slice p (dig B16 d.m).length c, .int .i64 d.e]) ∧ Rf w' base p c (dig B16 d.m) ∧ Below w.heap.size w w'

theorem rpow2 (N : Int) (n : Nat) (h : N = n) (hn : n ≤ 1000000000) (w : World) : Calls Tryd.prog 62 #[.int .i64 N] w (GRf w (dig B16 (2 ^ n))) := by
  subst h; exact (refPow2_any n w hn).mono fun _ _ => GivesR.grf

theorem rplus (p q : Option Addr) (n m c d : Nat) (a b x : Nat) (w : World) (hp : Rd w .i64 p (dig B16 a)) (hq : Rd w .i64 q (dig B16 b)) (hn : n = (dig B16 a).length) (hm : m = (dig B16 b).length)
    (hl : (dig B16 a).length ≤ 100000000) (hl2 : (dig B16 b).length ≤ 100000000) (h : a + b = x) :
    Calls Tryd.prog 65 #[.slice p n c, .slice q m d] w (GRf w (dig B16 x)) := by
  subst h; exact (refPlus_any p q n m c d a b w hp hq hn hm (by omega)).mono fun _ _ => GivesR.grf
theorem rtimes (p q : Option Addr) (n m c d : Nat) (a b x : Nat) (w : World) (hp : Rd w .i64 p (dig B16 a)) (hq : Rd w .i64 q (dig B16 b)) (hn : n = (dig B16 a).length) (hm : m = (dig B16 b).length)
    (hl : (dig B16 a).length ≤ 100000000) (hl2 : (dig B16 b).length ≤ 100000000) (h : a * b = x) :
    Calls Tryd.prog 110 #[.slice p n c, .slice q m d] w (GRf w (dig B16 x)) := by
  subst h; exact (refTimes_any p q n m c d a b w hp hq hn hm (by omega)).mono fun _ _ => GivesR.grf
theorem gnf_of {w w' : World} {d : Dv} {en : Ending} (h : GivesF w (fun _ => False) d en w') : GNf w w.heap.size d en w' := by
  obtain ⟨p, c, h1, h2, h3, h4, h5⟩ := h
  exact ⟨p, c, h1, rf_of h2 h3 h4, h5⟩
theorem rbared (g : Bool) (p : Option Addr) (n c : Nat) (e : Int) (m : Nat) (d : Dv) (w : World) (hp : Rd w .i64 p (dig B16 m)) (hn : n = (dig B16 m).length) (hl : (dig B16 m).length ≤ 1000000) (he : -1000000 ≤ e ∧ e ≤ 1000000) (h : bare ⟨g, m, e⟩ = d) :
    Calls Tryd.prog 48 #[.agg #[.bool g, .slice p n c, .int .i64 e]] w (GNf w w.heap.size d) := by
  subst h
  exact (refBared_any g p n c e m w hp hn (by omega) (by omega)).mono fun _ _ => gnf_of
end Go.Proofs.YtcipdimogodndaaDoor

namespace Go.Proofs.YtcipdimogodndaaDoor
open Go.RowKit Go.Slip

theorem refTwo_any (s e f d l g k : Int) (w : World) : Calls Tryd.prog 82 #[.int .i64 s, .int .i64 e, .int .i64 f, .int .i64 d, .int .i64 l, .int .i64 g, .int .i64 k] w
    fun en w' => en = .returned (.agg #[.int .i64 s, .int .i64 e, .int .i64 f, .int .i64 2, .int .i64 d, .int .i64 l, .int .i64 g, .bool (k == 1), .int .i64 k]) ∧ Below w.heap.size w w' := by
  have hT79 : SxAgg Tryd.prog 79 9 := sxAgg_of (by kernel_rfl) (by kernel_rfl)
  refine calls_of_wp Tryd.func82 rfl ?_
  refine sx_frame (a' := ⟨((.int .i64 s) :: (.int .i64 e) :: (.int .i64 f) :: (.int .i64 d) :: (.int .i64 l) :: (.int .i64 g) :: (.int .i64 k) :: us 19 []).toArray, []⟩) (by kernel_rfl) ?_
  refine ye ?_
  refine yw 0 rfl 14 #[.int .i64 0, .int .i64 0, .int .i64 0, .int .i64 0, .int .i64 0, .int .i64 0, .int .i64 0, .bool false, .int .i64 0] 79 (fun V1 hbV1 hzV1 b14 => ?_)
  refine yzt 0 ?_
  refine ye ?_
  have boV2 := b14
  refine ysw 11 rfl b14 hT79 #[.int .i64 s, .int .i64 e, .int .i64 f, .int .i64 2, .int .i64 d, .int .i64 l, .int .i64 g, .bool (k == 1), .int .i64 k] ?_
  clear b14
  intro V2 hOV2 b14
  have hzV2 := hOV2.size
  refine yzt 0 ?_
  refine wp_ret ?_
  repeat (first | with_reducible refine sx_thenret ?_ | with_reducible refine sx_blockret ?_)
  refine yret (.agg #[.int .i64 s, .int .i64 e, .int .i64 f, .int .i64 2, .int .i64 d, .int .i64 l, .int .i64 g, .bool (k == 1), .int .i64 k]) (res1 Tryd.results82 (rvr b14 hT79)) ?_
  exact ⟨rfl, (hbV1.trans (hOV2.below (by omega)))⟩

set_option maxRecDepth 100000 in
theorem refFormat_ok (n : Int) (hn : IsFm n) (w : World) : Calls Tryd.prog 34 #[.int .i64 n] w
    fun e w' => e = .returned (.tuple #[.agg #[.int .i64 (((fmt n).size : Nat) : Int), .int .i64 (((fmt n).E : Nat) : Int), .int .i64 (((fmt n).F : Nat) : Int), .int .i64 (fmt n).g.rad, .int .i64 (fmt n).g.digs, .int .i64 (fmt n).g.lo, .int .i64 (fmt n).g.hi, .bool (fmt n).g.grad, .int .i64 (((fmt n).fam : Nat) : Int)], .bool true]) ∧ Below w.heap.size w w' := by
  rcases fm_cases hn with rfl | rfl | rfl | rfl | rfl | rfl | rfl | rfl
  · skip
    have hT79 : SxAgg Tryd.prog 79 9 := sxAgg_of (by kernel_rfl) (by kernel_rfl)
    refine calls_of_wp Tryd.func34 rfl ?_
    refine sx_frame (a' := ⟨((.int .i64 1) :: us 38 []).toArray, []⟩) (by kernel_rfl) ?_
    refine ye ?_
    refine yw 0 rfl 2 #[.int .i64 0, .int .i64 0, .int .i64 0, .int .i64 0, .int .i64 0, .int .i64 0, .int .i64 0, .bool false, .int .i64 0] 79 (fun V1 hbV1 hzV1 b2 => ?_)
    refine yzt 1 ?_
    refine yq ?_
    refine wp_seq ?_
    refine yq ?_
    refine wp_block ?_
    refine yq ?_
    refine yT ?_
    refine ye ?_
    refine yc 1 rfl 9 (refTwo_any 4 8 23 24 (-149) 104 1 V1) (fun Gx hGx => ?_)
    rintro eV2 V2 ⟨rfl, hbV2⟩
    have hzV2 := hbV2.size
    refine ⟨_, rfl, hGx _ _ ?_⟩
    clear hGx Gx
    replace b2 := (b2.past hbV2)
    have boV3 := b2
    refine ysw 0 rfl b2 hT79 #[.int .i64 4, .int .i64 8, .int .i64 23, .int .i64 2, .int .i64 24, .int .i64 (-149), .int .i64 104, .bool true, .int .i64 1] ?_
    clear b2
    intro V3 hOV3 b2
    have hzV3 := hOV3.size
    refine yzt 1 ?_
    refine wp_ret ?_
    repeat (first | with_reducible refine sx_thenret ?_ | with_reducible refine sx_blockret ?_)
    refine yret (.tuple #[.agg #[.int .i64 4, .int .i64 8, .int .i64 23, .int .i64 2, .int .i64 24, .int .i64 (-149), .int .i64 104, .bool true, .int .i64 1], .bool true]) (res2 Tryd.results34 (rvr b2 hT79) rvt) ?_
    exact ⟨by kernel_rfl, ((bthru hbV1 hbV2).trans (hOV3.below (by omega)))⟩
  · skip
    have hT79 : SxAgg Tryd.prog 79 9 := sxAgg_of (by kernel_rfl) (by kernel_rfl)
    refine calls_of_wp Tryd.func34 rfl ?_
    refine sx_frame (a' := ⟨((.int .i64 2) :: us 38 []).toArray, []⟩) (by kernel_rfl) ?_
    refine ye ?_
    refine yw 0 rfl 2 #[.int .i64 0, .int .i64 0, .int .i64 0, .int .i64 0, .int .i64 0, .int .i64 0, .int .i64 0, .bool false, .int .i64 0] 79 (fun V1 hbV1 hzV1 b2 => ?_)
    refine yzt 1 ?_
    refine yq ?_
    refine wp_seq ?_
    refine yq ?_
    refine wp_block ?_
    refine yq ?_
    refine yF ?_
    refine yq ?_
    refine yT ?_
    refine ye ?_
    refine yc 1 rfl 13 (refTwo_any 8 11 52 53 (-1074) 971 1 V1) (fun Gx hGx => ?_)
    rintro eV2 V2 ⟨rfl, hbV2⟩
    have hzV2 := hbV2.size
    refine ⟨_, rfl, hGx _ _ ?_⟩
    clear hGx Gx
    replace b2 := (b2.past hbV2)
    have boV3 := b2
    refine ysw 0 rfl b2 hT79 #[.int .i64 8, .int .i64 11, .int .i64 52, .int .i64 2, .int .i64 53, .int .i64 (-1074), .int .i64 971, .bool true, .int .i64 1] ?_
    clear b2
    intro V3 hOV3 b2
    have hzV3 := hOV3.size
    refine yzt 1 ?_
    refine wp_ret ?_
    repeat (first | with_reducible refine sx_thenret ?_ | with_reducible refine sx_blockret ?_)
    refine yret (.tuple #[.agg #[.int .i64 8, .int .i64 11, .int .i64 52, .int .i64 2, .int .i64 53, .int .i64 (-1074), .int .i64 971, .bool true, .int .i64 1], .bool true]) (res2 Tryd.results34 (rvr b2 hT79) rvt) ?_
    exact ⟨by kernel_rfl, ((bthru hbV1 hbV2).trans (hOV3.below (by omega)))⟩
  · skip
    have hT79 : SxAgg Tryd.prog 79 9 := sxAgg_of (by kernel_rfl) (by kernel_rfl)
    refine calls_of_wp Tryd.func34 rfl ?_
    refine sx_frame (a' := ⟨((.int .i64 3) :: us 38 []).toArray, []⟩) (by kernel_rfl) ?_
    refine ye ?_
    refine yw 0 rfl 2 #[.int .i64 0, .int .i64 0, .int .i64 0, .int .i64 0, .int .i64 0, .int .i64 0, .int .i64 0, .bool false, .int .i64 0] 79 (fun V1 hbV1 hzV1 b2 => ?_)
    refine yzt 1 ?_
    refine yq ?_
    refine wp_seq ?_
    refine yq ?_
    refine wp_block ?_
    refine yq ?_
    refine yF ?_
    refine yq ?_
    refine yF ?_
    refine yq ?_
    refine yT ?_
    refine ye ?_
    refine yc 1 rfl 17 (refTwo_any 10 15 64 64 (-16445) 16320 1 V1) (fun Gx hGx => ?_)
    rintro eV2 V2 ⟨rfl, hbV2⟩
    have hzV2 := hbV2.size
    refine ⟨_, rfl, hGx _ _ ?_⟩
    clear hGx Gx
    replace b2 := (b2.past hbV2)
    have boV3 := b2
    refine ysw 0 rfl b2 hT79 #[.int .i64 10, .int .i64 15, .int .i64 64, .int .i64 2, .int .i64 64, .int .i64 (-16445), .int .i64 16320, .bool true, .int .i64 1] ?_
    clear b2
    intro V3 hOV3 b2
    have hzV3 := hOV3.size
    refine yzt 1 ?_
    refine wp_ret ?_
    repeat (first | with_reducible refine sx_thenret ?_ | with_reducible refine sx_blockret ?_)
    refine yret (.tuple #[.agg #[.int .i64 10, .int .i64 15, .int .i64 64, .int .i64 2, .int .i64 64, .int .i64 (-16445), .int .i64 16320, .bool true, .int .i64 1], .bool true]) (res2 Tryd.results34 (rvr b2 hT79) rvt) ?_
    exact ⟨by kernel_rfl, ((bthru hbV1 hbV2).trans (hOV3.below (by omega)))⟩
  · skip
    have hT79 : SxAgg Tryd.prog 79 9 := sxAgg_of (by kernel_rfl) (by kernel_rfl)
    refine calls_of_wp Tryd.func34 rfl ?_
    refine sx_frame (a' := ⟨((.int .i64 4) :: us 38 []).toArray, []⟩) (by kernel_rfl) ?_
    refine ye ?_
    refine yw 0 rfl 2 #[.int .i64 0, .int .i64 0, .int .i64 0, .int .i64 0, .int .i64 0, .int .i64 0, .int .i64 0, .bool false, .int .i64 0] 79 (fun V1 hbV1 hzV1 b2 => ?_)
    refine yzt 1 ?_
    refine yq ?_
    refine wp_seq ?_
    refine yq ?_
    refine wp_block ?_
    refine yq ?_
    refine yF ?_
    refine yq ?_
    refine yF ?_
    refine yq ?_
    refine yF ?_
    refine yq ?_
    refine yT ?_
    refine ye ?_
    have boV2 := b2
    refine ysw 2 rfl b2 hT79 #[.int .i64 4, .int .i64 7, .int .i64 24, .int .i64 16, .int .i64 6, .int .i64 (-70), .int .i64 57, .bool false, .int .i64 2] ?_
    clear b2
    intro V2 hOV2 b2
    have hzV2 := hOV2.size
    refine yzt 1 ?_
    refine wp_ret ?_
    repeat (first | with_reducible refine sx_thenret ?_ | with_reducible refine sx_blockret ?_)
    refine yret (.tuple #[.agg #[.int .i64 4, .int .i64 7, .int .i64 24, .int .i64 16, .int .i64 6, .int .i64 (-70), .int .i64 57, .bool false, .int .i64 2], .bool true]) (res2 Tryd.results34 (rvr b2 hT79) rvt) ?_
    exact ⟨by kernel_rfl, (hbV1.trans (hOV2.below (by omega)))⟩
  · skip
    have hT79 : SxAgg Tryd.prog 79 9 := sxAgg_of (by kernel_rfl) (by kernel_rfl)
    refine calls_of_wp Tryd.func34 rfl ?_
    refine sx_frame (a' := ⟨((.int .i64 5) :: us 38 []).toArray, []⟩) (by kernel_rfl) ?_
    refine ye ?_
    refine yw 0 rfl 2 #[.int .i64 0, .int .i64 0, .int .i64 0, .int .i64 0, .int .i64 0, .int .i64 0, .int .i64 0, .bool false, .int .i64 0] 79 (fun V1 hbV1 hzV1 b2 => ?_)
    refine yzt 1 ?_
    refine yq ?_
    refine wp_seq ?_
    refine yq ?_
    refine wp_block ?_
    refine yq ?_
    refine yF ?_
    refine yq ?_
    refine yF ?_
    refine yq ?_
    refine yF ?_
    refine yq ?_
    refine yF ?_
    refine yq ?_
    refine yT ?_
    refine ye ?_
    have boV2 := b2
    refine ysw 2 rfl b2 hT79 #[.int .i64 8, .int .i64 7, .int .i64 56, .int .i64 16, .int .i64 14, .int .i64 (-78), .int .i64 49, .bool false, .int .i64 2] ?_
    clear b2
    intro V2 hOV2 b2
    have hzV2 := hOV2.size
    refine yzt 1 ?_
    refine wp_ret ?_
    repeat (first | with_reducible refine sx_thenret ?_ | with_reducible refine sx_blockret ?_)
    refine yret (.tuple #[.agg #[.int .i64 8, .int .i64 7, .int .i64 56, .int .i64 16, .int .i64 14, .int .i64 (-78), .int .i64 49, .bool false, .int .i64 2], .bool true]) (res2 Tryd.results34 (rvr b2 hT79) rvt) ?_
    exact ⟨by kernel_rfl, (hbV1.trans (hOV2.below (by omega)))⟩
  · skip
    have hT79 : SxAgg Tryd.prog 79 9 := sxAgg_of (by kernel_rfl) (by kernel_rfl)
    refine calls_of_wp Tryd.func34 rfl ?_
    refine sx_frame (a' := ⟨((.int .i64 6) :: us 38 []).toArray, []⟩) (by kernel_rfl) ?_
    refine ye ?_
    refine yw 0 rfl 2 #[.int .i64 0, .int .i64 0, .int .i64 0, .int .i64 0, .int .i64 0, .int .i64 0, .int .i64 0, .bool false, .int .i64 0] 79 (fun V1 hbV1 hzV1 b2 => ?_)
    refine yzt 1 ?_
    refine yq ?_
    refine wp_seq ?_
    refine yq ?_
    refine wp_block ?_
    refine yq ?_
    refine yF ?_
    refine yq ?_
    refine yF ?_
    refine yq ?_
    refine yF ?_
    refine yq ?_
    refine yF ?_
    refine yq ?_
    refine yF ?_
    refine yq ?_
    refine yT ?_
    refine ye ?_
    refine yc 1 rfl 29 (refTwo_any 4 8 23 24 (-151) 103 3 V1) (fun Gx hGx => ?_)
    rintro eV2 V2 ⟨rfl, hbV2⟩
    have hzV2 := hbV2.size
    refine ⟨_, rfl, hGx _ _ ?_⟩
    clear hGx Gx
    replace b2 := (b2.past hbV2)
    have boV3 := b2
    refine ysw 0 rfl b2 hT79 #[.int .i64 4, .int .i64 8, .int .i64 23, .int .i64 2, .int .i64 24, .int .i64 (-151), .int .i64 103, .bool false, .int .i64 3] ?_
    clear b2
    intro V3 hOV3 b2
    have hzV3 := hOV3.size
    refine yzt 1 ?_
    refine wp_ret ?_
    repeat (first | with_reducible refine sx_thenret ?_ | with_reducible refine sx_blockret ?_)
    refine yret (.tuple #[.agg #[.int .i64 4, .int .i64 8, .int .i64 23, .int .i64 2, .int .i64 24, .int .i64 (-151), .int .i64 103, .bool false, .int .i64 3], .bool true]) (res2 Tryd.results34 (rvr b2 hT79) rvt) ?_
    exact ⟨by kernel_rfl, ((bthru hbV1 hbV2).trans (hOV3.below (by omega)))⟩
  · skip
    have hT79 : SxAgg Tryd.prog 79 9 := sxAgg_of (by kernel_rfl) (by kernel_rfl)
    refine calls_of_wp Tryd.func34 rfl ?_
    refine sx_frame (a' := ⟨((.int .i64 7) :: us 38 []).toArray, []⟩) (by kernel_rfl) ?_
    refine ye ?_
    refine yw 0 rfl 2 #[.int .i64 0, .int .i64 0, .int .i64 0, .int .i64 0, .int .i64 0, .int .i64 0, .int .i64 0, .bool false, .int .i64 0] 79 (fun V1 hbV1 hzV1 b2 => ?_)
    refine yzt 1 ?_
    refine yq ?_
    refine wp_seq ?_
    refine yq ?_
    refine wp_block ?_
    refine yq ?_
    refine yF ?_
    refine yq ?_
    refine yF ?_
    refine yq ?_
    refine yF ?_
    refine yq ?_
    refine yF ?_
    refine yq ?_
    refine yF ?_
    refine yq ?_
    refine yF ?_
    refine yq ?_
    refine yT ?_
    refine ye ?_
    refine yc 1 rfl 33 (refTwo_any 8 8 55 56 (-183) 71 3 V1) (fun Gx hGx => ?_)
    rintro eV2 V2 ⟨rfl, hbV2⟩
    have hzV2 := hbV2.size
    refine ⟨_, rfl, hGx _ _ ?_⟩
    clear hGx Gx
    replace b2 := (b2.past hbV2)
    have boV3 := b2
    refine ysw 0 rfl b2 hT79 #[.int .i64 8, .int .i64 8, .int .i64 55, .int .i64 2, .int .i64 56, .int .i64 (-183), .int .i64 71, .bool false, .int .i64 3] ?_
    clear b2
    intro V3 hOV3 b2
    have hzV3 := hOV3.size
    refine yzt 1 ?_
    refine wp_ret ?_
    repeat (first | with_reducible refine sx_thenret ?_ | with_reducible refine sx_blockret ?_)
    refine yret (.tuple #[.agg #[.int .i64 8, .int .i64 8, .int .i64 55, .int .i64 2, .int .i64 56, .int .i64 (-183), .int .i64 71, .bool false, .int .i64 3], .bool true]) (res2 Tryd.results34 (rvr b2 hT79) rvt) ?_
    exact ⟨by kernel_rfl, ((bthru hbV1 hbV2).trans (hOV3.below (by omega)))⟩
  · skip
    have hT79 : SxAgg Tryd.prog 79 9 := sxAgg_of (by kernel_rfl) (by kernel_rfl)
    refine calls_of_wp Tryd.func34 rfl ?_
    refine sx_frame (a' := ⟨((.int .i64 8) :: us 38 []).toArray, []⟩) (by kernel_rfl) ?_
    refine ye ?_
    refine yw 0 rfl 2 #[.int .i64 0, .int .i64 0, .int .i64 0, .int .i64 0, .int .i64 0, .int .i64 0, .int .i64 0, .bool false, .int .i64 0] 79 (fun V1 hbV1 hzV1 b2 => ?_)
    refine yzt 1 ?_
    refine yq ?_
    refine wp_seq ?_
    refine yq ?_
    refine wp_block ?_
    refine yq ?_
    refine yF ?_
    refine yq ?_
    refine yF ?_
    refine yq ?_
    refine yF ?_
    refine yq ?_
    refine yF ?_
    refine yq ?_
    refine yF ?_
    refine yq ?_
    refine yF ?_
    refine yq ?_
    refine yF ?_
    refine yq ?_
    refine yT ?_
    refine ye ?_
    refine yc 1 rfl 37 (refTwo_any 8 11 52 53 (-1076) 970 3 V1) (fun Gx hGx => ?_)
    rintro eV2 V2 ⟨rfl, hbV2⟩
    have hzV2 := hbV2.size
    refine ⟨_, rfl, hGx _ _ ?_⟩
    clear hGx Gx
    replace b2 := (b2.past hbV2)
    have boV3 := b2
    refine ysw 0 rfl b2 hT79 #[.int .i64 8, .int .i64 11, .int .i64 52, .int .i64 2, .int .i64 53, .int .i64 (-1076), .int .i64 970, .bool false, .int .i64 3] ?_
    clear b2
    intro V3 hOV3 b2
    have hzV3 := hOV3.size
    refine yzt 1 ?_
    refine wp_ret ?_
    repeat (first | with_reducible refine sx_thenret ?_ | with_reducible refine sx_blockret ?_)
    refine yret (.tuple #[.agg #[.int .i64 8, .int .i64 11, .int .i64 52, .int .i64 2, .int .i64 53, .int .i64 (-1076), .int .i64 970, .bool false, .int .i64 3], .bool true]) (res2 Tryd.results34 (rvr b2 hT79) rvt) ?_
    exact ⟨by kernel_rfl, ((bthru hbV1 hbV2).trans (hOV3.below (by omega)))⟩
set_option maxRecDepth 100000 in
theorem refFormat_not (n : Int) (hn : ¬ IsFm n) (w : World) : Calls Tryd.prog 34 #[.int .i64 n] w
    fun e w' => e = .returned (.tuple #[.agg #[.int .i64 (((fmt n).size : Nat) : Int), .int .i64 (((fmt n).E : Nat) : Int), .int .i64 (((fmt n).F : Nat) : Int), .int .i64 (fmt n).g.rad, .int .i64 (fmt n).g.digs, .int .i64 (fmt n).g.lo, .int .i64 (fmt n).g.hi, .bool (fmt n).g.grad, .int .i64 (((fmt n).fam : Nat) : Int)], .bool false]) ∧ Below w.heap.size w w' := by
  rw [fmt_not hn]
  unfold IsFm at hn
  have hT79 : SxAgg Tryd.prog 79 9 := sxAgg_of (by kernel_rfl) (by kernel_rfl)
  refine calls_of_wp Tryd.func34 rfl ?_
  refine sx_frame (a' := ⟨((.int .i64 n) :: us 38 []).toArray, []⟩) (by kernel_rfl) ?_
  refine ye ?_
  refine yw 0 rfl 2 #[.int .i64 0, .int .i64 0, .int .i64 0, .int .i64 0, .int .i64 0, .int .i64 0, .int .i64 0, .bool false, .int .i64 0] 79 (fun V1 hbV1 hzV1 b2 => ?_)
  refine yzt 1 ?_
  refine yq ?_
  refine wp_seq ?_
  refine yq ?_
  refine wp_block ?_
  refine ye ?_
  refine yb 0 rfl 7 (n == 1) (false) (beq_eq_false_iff_ne.2 (by omega)) ?_
  refine yzt 1 ?_
  refine yF ?_
  refine ye ?_
  refine yb 0 rfl 11 (n == 2) (false) (beq_eq_false_iff_ne.2 (by omega)) ?_
  refine yzt 1 ?_
  refine yF ?_
  refine ye ?_
  refine yb 0 rfl 15 (n == 3) (false) (beq_eq_false_iff_ne.2 (by omega)) ?_
  refine yzt 1 ?_
  refine yF ?_
  refine ye ?_
  refine yb 0 rfl 19 (n == 4) (false) (beq_eq_false_iff_ne.2 (by omega)) ?_
  refine yzt 1 ?_
  refine yF ?_
  refine ye ?_
  refine yb 0 rfl 23 (n == 5) (false) (beq_eq_false_iff_ne.2 (by omega)) ?_
  refine yzt 1 ?_
  refine yF ?_
  refine ye ?_
  refine yb 0 rfl 27 (n == 6) (false) (beq_eq_false_iff_ne.2 (by omega)) ?_
  refine yzt 1 ?_
  refine yF ?_
  refine ye ?_
  refine yb 0 rfl 31 (n == 7) (false) (beq_eq_false_iff_ne.2 (by omega)) ?_
  refine yzt 1 ?_
  refine yF ?_
  refine ye ?_
  refine yb 0 rfl 35 (n == 8) (false) (beq_eq_false_iff_ne.2 (by omega)) ?_
  refine yzt 1 ?_
  refine yF ?_
  refine wp_skip ?_
  refine sx_inblock ?_
  refine sx_then ?_
  refine ye ?_
  have boV2 := b2
  refine ysw 1 rfl b2 hT79 #[.int .i64 0, .int .i64 0, .int .i64 0, .int .i64 0, .int .i64 0, .int .i64 0, .int .i64 0, .bool false, .int .i64 0] ?_
  clear b2
  intro V2 hOV2 b2
  have hzV2 := hOV2.size
  refine yzt 1 ?_
  refine wp_ret ?_
  repeat (first | with_reducible refine sx_thenret ?_ | with_reducible refine sx_blockret ?_)
  refine yret (.tuple #[.agg #[.int .i64 0, .int .i64 0, .int .i64 0, .int .i64 0, .int .i64 0, .int .i64 0, .int .i64 0, .bool false, .int .i64 0], .bool false]) (res2 Tryd.results34 (rvr b2 hT79) rvt) ?_
  exact ⟨by kernel_rfl, (hbV1.trans (hOV2.below (by omega)))⟩
theorem refFormat_any (n : Int) (w : World) : Calls Tryd.prog 34 #[.int .i64 n] w
    fun e w' => e = .returned (.tuple #[.agg #[.int .i64 (((fmt n).size : Nat) : Int), .int .i64 (((fmt n).E : Nat) : Int), .int .i64 (((fmt n).F : Nat) : Int), .int .i64 (fmt n).g.rad, .int .i64 (fmt n).g.digs, .int .i64 (fmt n).g.lo, .int .i64 (fmt n).g.hi, .bool (fmt n).g.grad, .int .i64 (((fmt n).fam : Nat) : Int)], .bool (decide (IsFm n))]) ∧ Below w.heap.size w w' := by
  by_cases hn : IsFm n
  · rw [decide_eq_true hn]; exact refFormat_ok n hn w
  · rw [decide_eq_false hn]; exact refFormat_not n hn w

theorem refOpen_any (n : Int) (s : ByteArray) (w : World) : Calls Tryd.prog 24 #[.int .i64 n, .string s] w
    fun e w' => e = .returned (.int .i64 (errPat n s)) ∧ Below w.heap.size w w' := by
  by_cases hn : IsFm n
  · have HF := fun W => Lib.hid (refFormat_ok n hn W)
    by_cases hs : s.size = (fmt n).size
    · rw [errPat_zero.2 ⟨hn, hs⟩]
      generalize fmt n = f at *
      have hT3 : SxOne Tryd.prog 3 := sxOne_of (by kernel_rfl) (by kernel_rfl)
      have hT79 : SxAgg Tryd.prog 79 9 := sxAgg_of (by kernel_rfl) (by kernel_rfl)
      refine calls_of_wp Tryd.func24 rfl ?_
      refine sx_frame (a' := ⟨((.int .i64 n) :: (.string s) :: us 17 []).toArray, []⟩) (by kernel_rfl) ?_
      refine yq ?_
      refine ye ?_
      refine yc 1 rfl 9 ((HF w).out) (fun Gx hGx => ?_)
      rintro eV1 V1 ⟨rfl, hbV1⟩
      have hzV1 := hbV1.size
      refine ⟨_, rfl, hGx _ _ ?_⟩
      clear hGx Gx
      refine yw 3 rfl 5 #[.int .i64 0, .int .i64 0, .int .i64 0, .int .i64 0, .int .i64 0, .int .i64 0, .int .i64 0, .bool false, .int .i64 0] 79 (fun V2 hbV2 hzV2 b5 => ?_)
      have boV3 := b5
      refine ysw 0 rfl b5 hT79 #[.int .i64 ((f.size : Nat) : Int), .int .i64 ((f.E : Nat) : Int), .int .i64 ((f.F : Nat) : Int), .int .i64 f.g.rad, .int .i64 f.g.digs, .int .i64 f.g.lo, .int .i64 f.g.hi, .bool f.g.grad, .int .i64 ((f.fam : Nat) : Int)] ?_
      clear b5
      intro V3 hOV3 b5
      have hzV3 := hOV3.size
      refine yzt 1 ?_
      refine wp_seq ?_
      refine yq ?_
      refine yF ?_
      refine wp_skip ?_
      refine sx_then ?_
      refine wp_seq ?_
      refine ye ?_
      refine yl 3 rfl 17 b5 hT3 0 ?_
      refine yb 0 rfl 18 (((s.size : Nat) : Int) != ((f.size : Nat) : Int)) (false) (by simp [hs]) ?_
      refine yzt 0 ?_
      refine yF ?_
      refine wp_skip ?_
      refine sx_then ?_
      refine yq ?_
      refine wp_ret ?_
      repeat (first | with_reducible refine sx_thenret ?_ | with_reducible refine sx_blockret ?_)
      refine yret (.int .i64 0) (res1 Tryd.results24 rvt) ?_
      exact ⟨rfl, ((bthru hbV1 hbV2).trans (hOV3.below (by omega)))⟩
    · rw [show errPat n s = 1 by unfold errPat; rw [if_pos hn, if_neg hs]]
      generalize fmt n = f at *
      have hT3 : SxOne Tryd.prog 3 := sxOne_of (by kernel_rfl) (by kernel_rfl)
      have hT79 : SxAgg Tryd.prog 79 9 := sxAgg_of (by kernel_rfl) (by kernel_rfl)
      refine calls_of_wp Tryd.func24 rfl ?_
      refine sx_frame (a' := ⟨((.int .i64 n) :: (.string s) :: us 17 []).toArray, []⟩) (by kernel_rfl) ?_
      refine yq ?_
      refine ye ?_
      refine yc 1 rfl 9 ((HF w).out) (fun Gx hGx => ?_)
      rintro eV1 V1 ⟨rfl, hbV1⟩
      have hzV1 := hbV1.size
      refine ⟨_, rfl, hGx _ _ ?_⟩
      clear hGx Gx
      refine yw 3 rfl 5 #[.int .i64 0, .int .i64 0, .int .i64 0, .int .i64 0, .int .i64 0, .int .i64 0, .int .i64 0, .bool false, .int .i64 0] 79 (fun V2 hbV2 hzV2 b5 => ?_)
      have boV3 := b5
      refine ysw 0 rfl b5 hT79 #[.int .i64 ((f.size : Nat) : Int), .int .i64 ((f.E : Nat) : Int), .int .i64 ((f.F : Nat) : Int), .int .i64 f.g.rad, .int .i64 f.g.digs, .int .i64 f.g.lo, .int .i64 f.g.hi, .bool f.g.grad, .int .i64 ((f.fam : Nat) : Int)] ?_
      clear b5
      intro V3 hOV3 b5
      have hzV3 := hOV3.size
      refine yzt 1 ?_
      refine wp_seq ?_
      refine yq ?_
      refine yF ?_
      refine wp_skip ?_
      refine sx_then ?_
      refine wp_seq ?_
      refine ye ?_
      refine yl 3 rfl 17 b5 hT3 0 ?_
      refine yb 0 rfl 18 (((s.size : Nat) : Int) != ((f.size : Nat) : Int)) (true) (bne_iff_ne.2 (fun h => hs (by omega))) ?_
      refine yzt 0 ?_
      refine yT ?_
      refine yq ?_
      refine wp_ret ?_
      repeat (first | with_reducible refine sx_thenret ?_ | with_reducible refine sx_blockret ?_)
      refine yret (.int .i64 1) (res1 Tryd.results24 rvt) ?_
      exact ⟨rfl, ((bthru hbV1 hbV2).trans (hOV3.below (by omega)))⟩
  · have HF := fun W => Lib.hid (refFormat_not n hn W)
    rw [show errPat n s = 6 by unfold errPat; rw [if_neg hn]]
    generalize fmt n = f at *
    have hT79 : SxAgg Tryd.prog 79 9 := sxAgg_of (by kernel_rfl) (by kernel_rfl)
    refine calls_of_wp Tryd.func24 rfl ?_
    refine sx_frame (a' := ⟨((.int .i64 n) :: (.string s) :: us 17 []).toArray, []⟩) (by kernel_rfl) ?_
    refine yq ?_
    refine ye ?_
    refine yc 1 rfl 9 ((HF w).out) (fun Gx hGx => ?_)
    rintro eV1 V1 ⟨rfl, hbV1⟩
    have hzV1 := hbV1.size
    refine ⟨_, rfl, hGx _ _ ?_⟩
    clear hGx Gx
    refine yw 3 rfl 5 #[.int .i64 0, .int .i64 0, .int .i64 0, .int .i64 0, .int .i64 0, .int .i64 0, .int .i64 0, .bool false, .int .i64 0] 79 (fun V2 hbV2 hzV2 b5 => ?_)
    have boV3 := b5
    refine ysw 0 rfl b5 hT79 #[.int .i64 ((f.size : Nat) : Int), .int .i64 ((f.E : Nat) : Int), .int .i64 ((f.F : Nat) : Int), .int .i64 f.g.rad, .int .i64 f.g.digs, .int .i64 f.g.lo, .int .i64 f.g.hi, .bool f.g.grad, .int .i64 ((f.fam : Nat) : Int)] ?_
    clear b5
    intro V3 hOV3 b5
    have hzV3 := hOV3.size
    refine yzt 1 ?_
    refine wp_seq ?_
    refine yq ?_
    refine yT ?_
    refine yq ?_
    refine wp_ret ?_
    repeat (first | with_reducible refine sx_thenret ?_ | with_reducible refine sx_blockret ?_)
    refine yret (.int .i64 6) (res1 Tryd.results24 rvt) ?_
    exact ⟨rfl, ((bthru hbV1 hbV2).trans (hOV3.below (by omega)))⟩

theorem ext_is {n : Int} (h : IsFm n) : (fmt n).ext = decide (n = 3) := by
  rcases fm_cases h with rfl | rfl | rfl | rfl | rfl | rfl | rfl | rfl <;> rfl

theorem refPlace_any (n : Int) (i : Nat) (w : World) (hn : IsFm n) (hi : i < (fmt n).size) : Calls Tryd.prog 109 #[.int .i64 n, .int .i64 (i : Int)] w
    fun e w' => e = .returned (.int .i64 ((plc (fmt n).ord (fmt n).size i : Nat) : Int)) ∧ Below w.heap.size w w' := by
  have HF := fun W => Lib.hid (refFormat_ok n hn W)
  have G := good_fm hn
  have z1 := G.sz
  have he := ext_is hn
  generalize fmt n = f at *
  by_cases h3 : n = 3
  · rw [decide_eq_true h3] at he
    have hp : ((plc f.ord f.size i : Nat) : Int) = (f.size : Int) - 1 - i := by unfold plc Fm.ord; rw [he, if_pos rfl, if_pos rfl]; omega
    rw [hp]
    have hT3 : SxOne Tryd.prog 3 := sxOne_of (by kernel_rfl) (by kernel_rfl)
    have hT79 : SxAgg Tryd.prog 79 9 := sxAgg_of (by kernel_rfl) (by kernel_rfl)
    refine calls_of_wp Tryd.func109 rfl ?_
    refine sx_frame (a' := ⟨((.int .i64 n) :: (.int .i64 ((i : Nat) : Int)) :: us 29 []).toArray, []⟩) (by kernel_rfl) ?_
    refine yq ?_
    refine ye ?_
    refine yc 1 rfl 9 ((HF w).out) (fun Gx hGx => ?_)
    rintro eV1 V1 ⟨rfl, hbV1⟩
    have hzV1 := hbV1.size
    refine ⟨_, rfl, hGx _ _ ?_⟩
    clear hGx Gx
    refine yw 3 rfl 5 #[.int .i64 0, .int .i64 0, .int .i64 0, .int .i64 0, .int .i64 0, .int .i64 0, .int .i64 0, .bool false, .int .i64 0] 79 (fun V2 hbV2 hzV2 b5 => ?_)
    have boV3 := b5
    refine ysw 0 rfl b5 hT79 #[.int .i64 ((f.size : Nat) : Int), .int .i64 ((f.E : Nat) : Int), .int .i64 ((f.F : Nat) : Int), .int .i64 f.g.rad, .int .i64 f.g.digs, .int .i64 f.g.lo, .int .i64 f.g.hi, .bool f.g.grad, .int .i64 ((f.fam : Nat) : Int)] ?_
    clear b5
    intro V3 hOV3 b5
    have hzV3 := hOV3.size
    refine yzt 1 ?_
    refine wp_seq ?_
    refine wp_block ?_
    refine ye ?_
    refine yb 1 rfl 14 (n == 3) (true) (beq_iff_eq.2 h3) ?_
    refine yzt 1 ?_
    refine yT ?_
    refine ye ?_
    refine yl 1 rfl 16 b5 hT3 0 ?_
    refine yi 0 rfl 17 (((f.size : Nat) : Int) - 1) ?_
    refine yi 1 rfl 19 ((((f.size : Nat) : Int) - 1) - ((i : Nat) : Int)) ?_
    refine yzt 1 ?_
    refine wp_ret ?_
    repeat (first | with_reducible refine sx_thenret ?_ | with_reducible refine sx_blockret ?_)
    refine yret (.int .i64 ((((f.size : Nat) : Int) - 1) - ((i : Nat) : Int))) (res1 Tryd.results109 rvt) ?_
    exact ⟨rfl, ((bthru hbV1 hbV2).trans (hOV3.below (by omega)))⟩
  · rw [decide_eq_false h3] at he
    by_cases hf : f.fam = 3
    · have hp : ((plc f.ord f.size i : Nat) : Int) = (i : Int) + 1 - 2 * ((i % 2 : Nat) : Int) := by unfold plc Fm.ord; rw [he, if_neg (show ¬ (false = true) by simp), if_pos hf, if_neg (by omega), if_pos rfl]; omega
      rw [hp]
      have hT3 : SxOne Tryd.prog 3 := sxOne_of (by kernel_rfl) (by kernel_rfl)
      have hT79 : SxAgg Tryd.prog 79 9 := sxAgg_of (by kernel_rfl) (by kernel_rfl)
      refine calls_of_wp Tryd.func109 rfl ?_
      refine sx_frame (a' := ⟨((.int .i64 n) :: (.int .i64 ((i : Nat) : Int)) :: us 29 []).toArray, []⟩) (by kernel_rfl) ?_
      refine yq ?_
      refine ye ?_
      refine yc 1 rfl 9 ((HF w).out) (fun Gx hGx => ?_)
      rintro eV1 V1 ⟨rfl, hbV1⟩
      have hzV1 := hbV1.size
      refine ⟨_, rfl, hGx _ _ ?_⟩
      clear hGx Gx
      refine yw 3 rfl 5 #[.int .i64 0, .int .i64 0, .int .i64 0, .int .i64 0, .int .i64 0, .int .i64 0, .int .i64 0, .bool false, .int .i64 0] 79 (fun V2 hbV2 hzV2 b5 => ?_)
      have boV3 := b5
      refine ysw 0 rfl b5 hT79 #[.int .i64 ((f.size : Nat) : Int), .int .i64 ((f.E : Nat) : Int), .int .i64 ((f.F : Nat) : Int), .int .i64 f.g.rad, .int .i64 f.g.digs, .int .i64 f.g.lo, .int .i64 f.g.hi, .bool f.g.grad, .int .i64 ((f.fam : Nat) : Int)] ?_
      clear b5
      intro V3 hOV3 b5
      have hzV3 := hOV3.size
      refine yzt 1 ?_
      refine wp_seq ?_
      refine wp_block ?_
      refine ye ?_
      refine yb 1 rfl 14 (n == 3) (false) (beq_eq_false_iff_ne.2 h3) ?_
      refine yzt 1 ?_
      refine yF ?_
      refine ye ?_
      refine yl 1 rfl 22 b5 hT3 8 ?_
      refine yb 0 rfl 23 (((f.fam : Nat) : Int) == 3) (true) (beq_iff_eq.2 (by omega)) ?_
      refine yzt 1 ?_
      refine yT ?_
      refine ye ?_
      refine yi 1 rfl 25 (((i : Nat) : Int) + 1) ?_
      refine yv 1 rfl 27 (.int .i64 ((i % 2 : Nat) : Int)) ?_ (exec_rem (X := ((i : Nat) : Int)) (Y := (2)) ((i % 2 : Nat) : Int) (by kernel_rfl) (by kernel_rfl) ((show (2 : Int) ≠ 0 by omega)) ((by exact (Int.ofNat_tmod i 2).symm)))
      refine yi 0 rfl 28 ((2 : Int) * ((i % 2 : Nat) : Int)) ?_
      refine yi 0 rfl 29 ((((i : Nat) : Int) + 1) - ((2 : Int) * ((i % 2 : Nat) : Int))) ?_
      refine yzt 1 ?_
      refine wp_ret ?_
      repeat (first | with_reducible refine sx_thenret ?_ | with_reducible refine sx_blockret ?_)
      refine yret (.int .i64 ((((i : Nat) : Int) + 1) - ((2 : Int) * ((i % 2 : Nat) : Int)))) (res1 Tryd.results109 rvt) ?_
      exact ⟨rfl, ((bthru hbV1 hbV2).trans (hOV3.below (by omega)))⟩
    · have hp : ((plc f.ord f.size i : Nat) : Int) = (i : Int) := by unfold plc Fm.ord; rw [he, if_neg (show ¬ (false = true) by simp), if_neg hf, if_neg (by omega), if_neg (by omega)]
      rw [hp]
      have hT3 : SxOne Tryd.prog 3 := sxOne_of (by kernel_rfl) (by kernel_rfl)
      have hT79 : SxAgg Tryd.prog 79 9 := sxAgg_of (by kernel_rfl) (by kernel_rfl)
      refine calls_of_wp Tryd.func109 rfl ?_
      refine sx_frame (a' := ⟨((.int .i64 n) :: (.int .i64 ((i : Nat) : Int)) :: us 29 []).toArray, []⟩) (by kernel_rfl) ?_
      refine yq ?_
      refine ye ?_
      refine yc 1 rfl 9 ((HF w).out) (fun Gx hGx => ?_)
      rintro eV1 V1 ⟨rfl, hbV1⟩
      have hzV1 := hbV1.size
      refine ⟨_, rfl, hGx _ _ ?_⟩
      clear hGx Gx
      refine yw 3 rfl 5 #[.int .i64 0, .int .i64 0, .int .i64 0, .int .i64 0, .int .i64 0, .int .i64 0, .int .i64 0, .bool false, .int .i64 0] 79 (fun V2 hbV2 hzV2 b5 => ?_)
      have boV3 := b5
      refine ysw 0 rfl b5 hT79 #[.int .i64 ((f.size : Nat) : Int), .int .i64 ((f.E : Nat) : Int), .int .i64 ((f.F : Nat) : Int), .int .i64 f.g.rad, .int .i64 f.g.digs, .int .i64 f.g.lo, .int .i64 f.g.hi, .bool f.g.grad, .int .i64 ((f.fam : Nat) : Int)] ?_
      clear b5
      intro V3 hOV3 b5
      have hzV3 := hOV3.size
      refine yzt 1 ?_
      refine wp_seq ?_
      refine wp_block ?_
      refine ye ?_
      refine yb 1 rfl 14 (n == 3) (false) (beq_eq_false_iff_ne.2 h3) ?_
      refine yzt 1 ?_
      refine yF ?_
      refine ye ?_
      refine yl 1 rfl 22 b5 hT3 8 ?_
      refine yb 0 rfl 23 (((f.fam : Nat) : Int) == 3) (false) (beq_eq_false_iff_ne.2 (by omega)) ?_
      refine yzt 1 ?_
      refine yF ?_
      refine wp_skip ?_
      refine sx_inblock ?_
      refine sx_then ?_
      refine yq ?_
      refine wp_ret ?_
      repeat (first | with_reducible refine sx_thenret ?_ | with_reducible refine sx_blockret ?_)
      refine yret (.int .i64 ((i : Nat) : Int)) (res1 Tryd.results109 rvt) ?_
      exact ⟨rfl, ((bthru hbV1 hbV2).trans (hOV3.below (by omega)))⟩
end Go.Proofs.YtcipdimogodndaaDoor
