/- codec: width, raw, number.
   codec: value, bare: what parts are worth.
   codec: decode, open, Decode, Class, Size, Grid.
   codec: open, Decode, Class, Size, Grid. -/
import Derived.Test.YtcipdimogodndaaDoorZr1
import Derived.Test.YtcipdimogodndaaDoorZr2
import Derived.Test.YtcipdimogodndaaDoorZr3
import Derived.Test.YtcipdimogodndaaDoorZr4
namespace Go.Proofs.YtcipdimogodndaaDoor
open Go.RowKit Go.Slip

theorem cwidth_any (f : Fm) (w : World) : Calls Tryd.prog 118 #[.agg #[.int .i64 ((f.size : Nat) : Int), .int .i64 ((f.E : Nat) : Int), .int .i64 ((f.F : Nat) : Int), .int .i64 f.g.rad, .int .i64 f.g.digs, .int .i64 f.g.lo, .int .i64 f.g.hi, .bool f.g.grad, .bool f.hid, .bool f.inf, .bool f.res, .func (.func (ordF f)) #[] #[]]] w fun en w' => en = .returned (.int .i64 ((wid f.g : Nat) : Int)) ∧ Below w.heap.size w w' := by
  by_cases h : f.g.rad = 16
  · have hw : wid f.g = 4 := by unfold wid; rw [if_pos h]
    rw [hw]
    have hT3 : SxOne Tryd.prog 3 := sxOne_of (by kernel_rfl) (by kernel_rfl)
    refine calls_of_wp Tryd.func118 rfl ?_
    refine sx_frame (a' := ⟨((.agg #[.int .i64 ((f.size : Nat) : Int), .int .i64 ((f.E : Nat) : Int), .int .i64 ((f.F : Nat) : Int), .int .i64 f.g.rad, .int .i64 f.g.digs, .int .i64 f.g.lo, .int .i64 f.g.hi, .bool f.g.grad, .bool f.hid, .bool f.inf, .bool f.res, .func (.func (ordF f)) #[] #[]]) :: us 6 []).toArray, []⟩) (by kernel_rfl) ?_
    refine ye ?_
    refine yw 0 rfl 1 #[.int .i64 ((f.size : Nat) : Int), .int .i64 ((f.E : Nat) : Int), .int .i64 ((f.F : Nat) : Int), .int .i64 f.g.rad, .int .i64 f.g.digs, .int .i64 f.g.lo, .int .i64 f.g.hi, .bool f.g.grad, .bool f.hid, .bool f.inf, .bool f.res, .func (.func (ordF f)) #[] #[]] 116 (fun V1 hbV1 hzV1 b1 => ?_)
    refine yzt 1 ?_
    refine wp_seq ?_
    refine ye ?_
    refine yl 2 rfl 5 b1 hT3 3 ?_
    refine yb 0 rfl 6 (f.g.rad == 16) (true) (beq_iff_eq.2 h) ?_
    refine yzt 0 ?_
    refine yT ?_
    refine yq ?_
    refine wp_ret ?_
    repeat (first | with_reducible refine sx_thenret ?_ | with_reducible refine sx_blockret ?_)
    refine yret (.int .i64 4) (res1 Tryd.results118 rvt) ?_
    exact ⟨rfl, hbV1⟩
  · have hw : wid f.g = 1 := by unfold wid; rw [if_neg h]
    rw [hw]
    have hT3 : SxOne Tryd.prog 3 := sxOne_of (by kernel_rfl) (by kernel_rfl)
    refine calls_of_wp Tryd.func118 rfl ?_
    refine sx_frame (a' := ⟨((.agg #[.int .i64 ((f.size : Nat) : Int), .int .i64 ((f.E : Nat) : Int), .int .i64 ((f.F : Nat) : Int), .int .i64 f.g.rad, .int .i64 f.g.digs, .int .i64 f.g.lo, .int .i64 f.g.hi, .bool f.g.grad, .bool f.hid, .bool f.inf, .bool f.res, .func (.func (ordF f)) #[] #[]]) :: us 6 []).toArray, []⟩) (by kernel_rfl) ?_
    refine ye ?_
    refine yw 0 rfl 1 #[.int .i64 ((f.size : Nat) : Int), .int .i64 ((f.E : Nat) : Int), .int .i64 ((f.F : Nat) : Int), .int .i64 f.g.rad, .int .i64 f.g.digs, .int .i64 f.g.lo, .int .i64 f.g.hi, .bool f.g.grad, .bool f.hid, .bool f.inf, .bool f.res, .func (.func (ordF f)) #[] #[]] 116 (fun V1 hbV1 hzV1 b1 => ?_)
    refine yzt 1 ?_
    refine wp_seq ?_
    refine ye ?_
    refine yl 2 rfl 5 b1 hT3 3 ?_
    refine yb 0 rfl 6 (f.g.rad == 16) (false) (beq_eq_false_iff_ne.2 h) ?_
    refine yzt 0 ?_
    refine yF ?_
    refine wp_skip ?_
    refine sx_then ?_
    refine yq ?_
    refine wp_ret ?_
    repeat (first | with_reducible refine sx_thenret ?_ | with_reducible refine sx_blockret ?_)
    refine yret (.int .i64 1) (res1 Tryd.results118 rvt) ?_
    exact ⟨rfl, hbV1⟩

set_option maxHeartbeats 1000000 in
set_option maxRecDepth 100000 in
theorem raw_any (f : Fm) (g : Bool) (m : Nat) (pw k : Int) (p : Option Addr) (c : Nat) (w : World) (hp : Rd w .u32 p (dig B32 m)) (hc : (dig B32 m).length ≤ c) (hl : (dig B32 m).length ≤ 1000000) (hpw : -100000 ≤ pw ∧ pw ≤ 100000) (hT : TabW w) :
    Calls Tryd.prog 71 #[.agg #[.int .i64 ((f.size : Nat) : Int), .int .i64 ((f.E : Nat) : Int), .int .i64 ((f.F : Nat) : Int), .int .i64 f.g.rad, .int .i64 f.g.digs, .int .i64 f.g.lo, .int .i64 f.g.hi, .bool f.g.grad, .bool f.hid, .bool f.inf, .bool f.res, .func (.func (ordF f)) #[] #[]], .agg #[.int .i64 k, .bool g, .slice p (dig B32 m).length c, .int .i64 pw]] w (GivesD w w.heap.size (bare ⟨g, m, wid f.g * pw⟩)) := by
  have wp := wid_pos f.g
  have hmu := mul_bd (wd := wid f.g) (k := pw) (B := 100000) wp.2 hpw
  rw [← bare_sign]
  generalize hmw : (wid f.g : Int) * pw = mw at *
  have HMW := Lib.hid hmw
  have HW := fun W h1 h2 => Lib.hid (whole_any p _ c mw m W h1 rfl hc (by omega) (by omega) h2)
  clear hmw
  generalize hd : bare ⟨false, m, mw⟩ = d at *
  clear hd
  cases g with
  | false =>
    rw [if_neg (by simp)]
    have hT3 : SxOne Tryd.prog 3 := sxOne_of (by kernel_rfl) (by kernel_rfl)
    have hT4 : SxOne Tryd.prog 4 := sxOne_of (by kernel_rfl) (by kernel_rfl)
    have hT23 : SxOne Tryd.prog 23 := sxOne_of (by kernel_rfl) (by kernel_rfl)
    have hT97 : SxAgg Tryd.prog 97 3 := sxAgg_of (by kernel_rfl) (by kernel_rfl)
    have hT116 : SxAgg Tryd.prog 116 12 := sxAgg_of (by kernel_rfl) (by kernel_rfl)
    refine calls_of_wp Tryd.func71 rfl ?_
    refine sx_frame (a' := ⟨((.agg #[.int .i64 ((f.size : Nat) : Int), .int .i64 ((f.E : Nat) : Int), .int .i64 ((f.F : Nat) : Int), .int .i64 f.g.rad, .int .i64 f.g.digs, .int .i64 f.g.lo, .int .i64 f.g.hi, .bool f.g.grad, .bool f.hid, .bool f.inf, .bool f.res, .func (.func (ordF f)) #[] #[]]) :: (.agg #[.int .i64 k, .bool false, .slice p (dig B32 m).length c, .int .i64 pw]) :: us 17 []).toArray, []⟩) (by kernel_rfl) ?_
    refine ye ?_
    refine yw 0 rfl 2 #[.int .i64 ((f.size : Nat) : Int), .int .i64 ((f.E : Nat) : Int), .int .i64 ((f.F : Nat) : Int), .int .i64 f.g.rad, .int .i64 f.g.digs, .int .i64 f.g.lo, .int .i64 f.g.hi, .bool f.g.grad, .bool f.hid, .bool f.inf, .bool f.res, .func (.func (ordF f)) #[] #[]] 116 (fun V1 hbV1 hzV1 b2 => ?_)
    refine yw 0 rfl 3 #[.int .i64 k, .bool false, .slice p (dig B32 m).length c, .int .i64 pw] 56 (fun V2 hbV2 hzV2 b3 => ?_)
    refine yw 0 rfl 4 #[.bool false, .slice none 0 0, .int .i64 0] 97 (fun V3 hbV3 hzV3 b4 => ?_)
    refine yzt 0 ?_
    refine wp_seq ?_
    refine sx_cutg (R := fun a' w' => ∃ (kb5 : Nat) (p13 : Option Addr) (c13 : Nat), a' = ⟨((.agg #[.int .i64 ((f.size : Nat) : Int), .int .i64 ((f.E : Nat) : Int), .int .i64 ((f.F : Nat) : Int), .int .i64 f.g.rad, .int .i64 f.g.digs, .int .i64 f.g.lo, .int .i64 f.g.hi, .bool f.g.grad, .bool f.hid, .bool f.inf, .bool f.res, .func (.func (ordF f)) #[] #[]]) :: (.agg #[.int .i64 k, .bool false, .slice p (dig B32 m).length c, .int .i64 pw]) :: (.pointer (some ⟨w.heap.size, 0, none⟩)) :: (.pointer (some ⟨V1.heap.size, 0, none⟩)) :: (.pointer (some ⟨V2.heap.size, 0, none⟩)) :: (.pointer (some ⟨kb5, 0, none⟩)) :: (.pointer (some ⟨V1.heap.size, 2, none⟩)) :: (.slice p (dig B32 m).length c) :: (.agg #[.int .i64 ((f.size : Nat) : Int), .int .i64 ((f.E : Nat) : Int), .int .i64 ((f.F : Nat) : Int), .int .i64 f.g.rad, .int .i64 f.g.digs, .int .i64 f.g.lo, .int .i64 f.g.hi, .bool f.g.grad, .bool f.hid, .bool f.inf, .bool f.res, .func (.func (ordF f)) #[] #[]]) :: (.int .i64 ((wid f.g : Nat) : Int)) :: (.pointer (some ⟨V1.heap.size, 3, none⟩)) :: (.int .i64 pw) :: (.int .i64 mw) :: (.agg #[.bool d.neg, .slice p13 (dig B32 d.m).length c13, .int .i64 d.e]) :: us 5 []).toArray, []⟩ ∧ Bt w' kb5 97 #[.bool d.neg, .slice p13 (dig B32 d.m).length c13, .int .i64 d.e] ∧ Own w' V3.heap.size .u32 91 p13 c13 (dig B32 d.m) ∧ Below V3.heap.size V3 w' ∧ V3.heap.size ≤ kb5) ?_ (fun Gx hGx => ?_)
    · skip
      replace b3 := (b3.past hbV3)
      replace b2 := (b2.past (bthru hbV2 hbV3))
      obtain ⟨V4, hVV4, hbV4, hzV4⟩ := drew_of V3
      replace b3 := (b3.past hbV4)
      replace b2 := (b2.past hbV4)
      refine yd2 hVV4 ⟨b3, b2⟩ ?_
      clear hVV4
      refine yt 9 [0] rfl ⟨b3, b2⟩ ?_
      refine ytl 1 rfl 7 (fun _ h => h.1) hT23 2 ⟨b3, b2⟩ ?_
      refine ytla 2 rfl 8 (fun _ h => h.2) hT116 0 ⟨b3, b2⟩ ?_
      refine yt 6 [4] rfl ⟨b3, b2⟩ ?_
      refine ytl 5 rfl 11 (fun _ h => h.1) hT3 3 ⟨b3, b2⟩ ?_
      refine sxr [3, 8] ?_
      refine rd2 (fun Kx hKx => ?_) ?_
      · skip
        refine yck 9 (cwidth_any f V4) ?_
        rintro eV5 V5 ⟨rfl, hbV5⟩
        have hzV5 := hbV5.size
        refine ⟨_, rfl, ?_⟩
        replace b3 := (b3.past hbV5)
        replace b2 := (b2.past hbV5)
        refine hKx.out _ _ ⟨b3, b2⟩ ?_
        clear hKx Kx
        refine tk 6 12 (.int .i64 mw) ⟨b3, b2⟩ ?_ (hy := fun w' _ => ((show _ = Result.ok (Next.value (.int .i64 (IntKind.wrap .i64 (((wid f.g : Nat) : Int) * pw)))) _ by kernel_rfl).trans (congrArg (fun z => Result.ok (Next.value (.int .i64 z)) _) ((by rw [HMW.out]; exact IntWalk.i64_in _ (by omega))))))
        refine sxr [7, 8] ?_
        refine rd2 (fun Kx hKx => ?_) ?_
        · skip
          replace hp := (hp.past (bthru (bthru (bthru (bthru hbV1 hbV2) hbV3) hbV4) hbV5))
          replace hT := (hT.past (bthru (bthru (bthru (bthru hbV1 hbV2) hbV3) hbV4) hbV5))
          refine yck 13 ((HW V5 hp hT).out) ?_
          rintro eV6 V6 ⟨p13, c13, rfl, o13, hbV6⟩
          have hzV6 := hbV6.size
          refine ⟨_, rfl, ?_⟩
          replace b3 := (b3.past hbV6)
          replace b2 := (b2.past hbV6)
          refine hKx.out _ _ ⟨b3, b2⟩ ?_
          clear hKx Kx
          refine sxr [8] ?_
          refine rd1 (fun Kx hKx => ?_)
          refine snk 5 #[.bool false, .slice none 0 0, .int .i64 0] 97 (fun V7 hbV7 hzV7 b5 => ?_)
          replace b3 := (b3.past hbV7)
          replace b2 := (b2.past hbV7)
          refine hKx.out _ _ ⟨b3, b2⟩ ?_
          clear hKx Kx
          refine sxr [9] ?_
          refine rd1 (fun Kx hKx => ?_)
          refine ssk none b5 hT97 0 #[.bool d.neg, .slice p13 (dig B32 d.m).length c13, .int .i64 d.e] #[.bool d.neg, .slice p13 (dig B32 d.m).length c13, .int .i64 d.e] ?_
          have boV8 := b5
          clear b5
          intro V8 hOV8 b5
          have hzV8 := hOV8.size
          replace b3 := (b3.only hOV8 (by omega))
          replace b2 := (b2.only hOV8 (by omega))
          refine hKx.out _ _ ⟨b3, b2⟩ ?_
          clear hKx Kx
          refine sx_done (by kernel_rfl) ?_
          replace o13 := (o13.past (hbV7.trans (hOV8.below (by omega))))
          exact ⟨rfl, V6.heap.size, p13, c13, by kernel_rfl, b5, (o13.mono (by omega)), ((bthru (bthru (bthru hbV4 hbV5) hbV6) hbV7).trans (hOV8.below (by omega))), by omega⟩
        refine rd1 (fun Kx hKx => ?_)
        refine snk 5 #[.bool false, .slice none 0 0, .int .i64 0] 97 (fun V6 hbV6 hzV6 b5 => ?_)
        replace b3 := (b3.past hbV6)
        replace b2 := (b2.past hbV6)
        refine hKx.out _ _ ⟨b3, b2⟩ ?_
        clear hKx Kx
        refine sxr [7] ?_
        refine rd1 (fun Kx hKx => ?_)
        replace hp := (hp.past (bthru (bthru (bthru (bthru (bthru hbV1 hbV2) hbV3) hbV4) hbV5) hbV6))
        replace hT := (hT.past (bthru (bthru (bthru (bthru (bthru hbV1 hbV2) hbV3) hbV4) hbV5) hbV6))
        refine yck 13 ((HW V6 hp hT).out) ?_
        rintro eV7 V7 ⟨p13, c13, rfl, o13, hbV7⟩
        have hzV7 := hbV7.size
        refine ⟨_, rfl, ?_⟩
        replace b3 := (b3.past hbV7)
        replace b2 := (b2.past hbV7)
        refine hKx.out _ _ ⟨b3, b2⟩ ?_
        clear hKx Kx
        refine sxr [9] ?_
        refine rd1 (fun Kx hKx => ?_)
        replace b5 := (b5.past hbV7)
        refine ssk none b5 hT97 0 #[.bool d.neg, .slice p13 (dig B32 d.m).length c13, .int .i64 d.e] #[.bool d.neg, .slice p13 (dig B32 d.m).length c13, .int .i64 d.e] ?_
        have boV8 := b5
        clear b5
        intro V8 hOV8 b5
        have hzV8 := hOV8.size
        replace b3 := (b3.only hOV8 (by omega))
        replace b2 := (b2.only hOV8 (by omega))
        refine hKx.out _ _ ⟨b3, b2⟩ ?_
        clear hKx Kx
        refine sx_done (by kernel_rfl) ?_
        replace o13 := (o13.put boV8 hOV8 (by kernel_rfl))
        exact ⟨rfl, V5.heap.size, p13, c13, by kernel_rfl, b5, (o13.mono (by omega)), ((bthru (bthru (bthru hbV4 hbV5) hbV6) hbV7).trans (hOV8.below (by omega))), by omega⟩
      refine rd1 (fun Kx hKx => ?_)
      refine snk 5 #[.bool false, .slice none 0 0, .int .i64 0] 97 (fun V5 hbV5 hzV5 b5 => ?_)
      replace b3 := (b3.past hbV5)
      replace b2 := (b2.past hbV5)
      refine hKx.out _ _ ⟨b3, b2⟩ ?_
      clear hKx Kx
      refine sxr [3] ?_
      refine rd1 (fun Kx hKx => ?_)
      refine yck 9 (cwidth_any f V5) ?_
      rintro eV6 V6 ⟨rfl, hbV6⟩
      have hzV6 := hbV6.size
      refine ⟨_, rfl, ?_⟩
      replace b3 := (b3.past hbV6)
      replace b2 := (b2.past hbV6)
      refine hKx.out _ _ ⟨b3, b2⟩ ?_
      clear hKx Kx
      refine tk 6 12 (.int .i64 mw) ⟨b3, b2⟩ ?_ (hy := fun w' _ => ((show _ = Result.ok (Next.value (.int .i64 (IntKind.wrap .i64 (((wid f.g : Nat) : Int) * pw)))) _ by kernel_rfl).trans (congrArg (fun z => Result.ok (Next.value (.int .i64 z)) _) ((by rw [HMW.out]; exact IntWalk.i64_in _ (by omega))))))
      refine sxr [7] ?_
      refine rd1 (fun Kx hKx => ?_)
      replace hp := (hp.past (bthru (bthru (bthru (bthru (bthru hbV1 hbV2) hbV3) hbV4) hbV5) hbV6))
      replace hT := (hT.past (bthru (bthru (bthru (bthru (bthru hbV1 hbV2) hbV3) hbV4) hbV5) hbV6))
      refine yck 13 ((HW V6 hp hT).out) ?_
      rintro eV7 V7 ⟨p13, c13, rfl, o13, hbV7⟩
      have hzV7 := hbV7.size
      refine ⟨_, rfl, ?_⟩
      replace b3 := (b3.past hbV7)
      replace b2 := (b2.past hbV7)
      refine hKx.out _ _ ⟨b3, b2⟩ ?_
      clear hKx Kx
      refine sxr [9] ?_
      refine rd1 (fun Kx hKx => ?_)
      replace b5 := (b5.past (bthru hbV6 hbV7))
      refine ssk none b5 hT97 0 #[.bool d.neg, .slice p13 (dig B32 d.m).length c13, .int .i64 d.e] #[.bool d.neg, .slice p13 (dig B32 d.m).length c13, .int .i64 d.e] ?_
      have boV8 := b5
      clear b5
      intro V8 hOV8 b5
      have hzV8 := hOV8.size
      replace b3 := (b3.only hOV8 (by omega))
      replace b2 := (b2.only hOV8 (by omega))
      refine hKx.out _ _ ⟨b3, b2⟩ ?_
      clear hKx Kx
      refine sx_done (by kernel_rfl) ?_
      replace o13 := (o13.put boV8 hOV8 (by kernel_rfl))
      exact ⟨rfl, V4.heap.size, p13, c13, by kernel_rfl, b5, (o13.mono (by omega)), ((bthru (bthru (bthru hbV4 hbV5) hbV6) hbV7).trans (hOV8.below (by omega))), by omega⟩
    rintro _ V4 ⟨kb5, p13, c13, rfl, b5, o13, hbV4, hkb5⟩
    refine hGx _ _ ?_
    clear hGx Gx
    have hzV4 := hbV4.size
    have hlb5 := b5.lt
    refine sx_then ?_
    refine wp_seq ?_
    refine ye ?_
    replace b3 := (b3.past (bthru hbV3 hbV4))
    refine yl 1 rfl 15 b3 hT4 1 ?_
    refine yzt 0 ?_
    refine yF ?_
    refine wp_skip ?_
    refine sx_then ?_
    refine ye ?_
    refine yla 0 rfl 18 b5 hT97 0 ?_
    replace b4 := (b4.past hbV4)
    have boV5 := b4
    refine ysw 0 rfl b4 hT97 #[.bool d.neg, .slice p13 (dig B32 d.m).length c13, .int .i64 d.e] ?_
    clear b4
    intro V5 hOV5 b4
    have hzV5 := hOV5.size
    refine yzt 0 ?_
    refine wp_ret ?_
    repeat (first | with_reducible refine sx_thenret ?_ | with_reducible refine sx_blockret ?_)
    refine yret (.agg #[.bool d.neg, .slice p13 (dig B32 d.m).length c13, .int .i64 d.e]) (res1 Tryd.results71 (rvr b4 hT97)) ?_
    replace o13 := (o13.put boV5 hOV5 (by kernel_rfl))
    exact ⟨p13, c13, rfl, o13.mono (by omega), ((bthru (bthru (bthru hbV1 hbV2) hbV3) hbV4).trans (hOV5.below (by omega)))⟩
  | true =>
    rw [if_pos rfl]
    have hT3 : SxOne Tryd.prog 3 := sxOne_of (by kernel_rfl) (by kernel_rfl)
    have hT4 : SxOne Tryd.prog 4 := sxOne_of (by kernel_rfl) (by kernel_rfl)
    have hT23 : SxOne Tryd.prog 23 := sxOne_of (by kernel_rfl) (by kernel_rfl)
    have hT97 : SxAgg Tryd.prog 97 3 := sxAgg_of (by kernel_rfl) (by kernel_rfl)
    have hT116 : SxAgg Tryd.prog 116 12 := sxAgg_of (by kernel_rfl) (by kernel_rfl)
    refine calls_of_wp Tryd.func71 rfl ?_
    refine sx_frame (a' := ⟨((.agg #[.int .i64 ((f.size : Nat) : Int), .int .i64 ((f.E : Nat) : Int), .int .i64 ((f.F : Nat) : Int), .int .i64 f.g.rad, .int .i64 f.g.digs, .int .i64 f.g.lo, .int .i64 f.g.hi, .bool f.g.grad, .bool f.hid, .bool f.inf, .bool f.res, .func (.func (ordF f)) #[] #[]]) :: (.agg #[.int .i64 k, .bool true, .slice p (dig B32 m).length c, .int .i64 pw]) :: us 17 []).toArray, []⟩) (by kernel_rfl) ?_
    refine ye ?_
    refine yw 0 rfl 2 #[.int .i64 ((f.size : Nat) : Int), .int .i64 ((f.E : Nat) : Int), .int .i64 ((f.F : Nat) : Int), .int .i64 f.g.rad, .int .i64 f.g.digs, .int .i64 f.g.lo, .int .i64 f.g.hi, .bool f.g.grad, .bool f.hid, .bool f.inf, .bool f.res, .func (.func (ordF f)) #[] #[]] 116 (fun V1 hbV1 hzV1 b2 => ?_)
    refine yw 0 rfl 3 #[.int .i64 k, .bool true, .slice p (dig B32 m).length c, .int .i64 pw] 56 (fun V2 hbV2 hzV2 b3 => ?_)
    refine yw 0 rfl 4 #[.bool false, .slice none 0 0, .int .i64 0] 97 (fun V3 hbV3 hzV3 b4 => ?_)
    refine yzt 0 ?_
    refine wp_seq ?_
    refine sx_cutg (R := fun a' w' => ∃ (kb5 : Nat) (p13 : Option Addr) (c13 : Nat), a' = ⟨((.agg #[.int .i64 ((f.size : Nat) : Int), .int .i64 ((f.E : Nat) : Int), .int .i64 ((f.F : Nat) : Int), .int .i64 f.g.rad, .int .i64 f.g.digs, .int .i64 f.g.lo, .int .i64 f.g.hi, .bool f.g.grad, .bool f.hid, .bool f.inf, .bool f.res, .func (.func (ordF f)) #[] #[]]) :: (.agg #[.int .i64 k, .bool true, .slice p (dig B32 m).length c, .int .i64 pw]) :: (.pointer (some ⟨w.heap.size, 0, none⟩)) :: (.pointer (some ⟨V1.heap.size, 0, none⟩)) :: (.pointer (some ⟨V2.heap.size, 0, none⟩)) :: (.pointer (some ⟨kb5, 0, none⟩)) :: (.pointer (some ⟨V1.heap.size, 2, none⟩)) :: (.slice p (dig B32 m).length c) :: (.agg #[.int .i64 ((f.size : Nat) : Int), .int .i64 ((f.E : Nat) : Int), .int .i64 ((f.F : Nat) : Int), .int .i64 f.g.rad, .int .i64 f.g.digs, .int .i64 f.g.lo, .int .i64 f.g.hi, .bool f.g.grad, .bool f.hid, .bool f.inf, .bool f.res, .func (.func (ordF f)) #[] #[]]) :: (.int .i64 ((wid f.g : Nat) : Int)) :: (.pointer (some ⟨V1.heap.size, 3, none⟩)) :: (.int .i64 pw) :: (.int .i64 mw) :: (.agg #[.bool d.neg, .slice p13 (dig B32 d.m).length c13, .int .i64 d.e]) :: us 5 []).toArray, []⟩ ∧ Bt w' kb5 97 #[.bool d.neg, .slice p13 (dig B32 d.m).length c13, .int .i64 d.e] ∧ Own w' V3.heap.size .u32 91 p13 c13 (dig B32 d.m) ∧ Below V3.heap.size V3 w' ∧ V3.heap.size ≤ kb5) ?_ (fun Gx hGx => ?_)
    · skip
      replace b3 := (b3.past hbV3)
      replace b2 := (b2.past (bthru hbV2 hbV3))
      obtain ⟨V4, hVV4, hbV4, hzV4⟩ := drew_of V3
      replace b3 := (b3.past hbV4)
      replace b2 := (b2.past hbV4)
      refine yd2 hVV4 ⟨b3, b2⟩ ?_
      clear hVV4
      refine yt 9 [0] rfl ⟨b3, b2⟩ ?_
      refine ytl 1 rfl 7 (fun _ h => h.1) hT23 2 ⟨b3, b2⟩ ?_
      refine ytla 2 rfl 8 (fun _ h => h.2) hT116 0 ⟨b3, b2⟩ ?_
      refine yt 6 [4] rfl ⟨b3, b2⟩ ?_
      refine ytl 5 rfl 11 (fun _ h => h.1) hT3 3 ⟨b3, b2⟩ ?_
      refine sxr [3, 8] ?_
      refine rd2 (fun Kx hKx => ?_) ?_
      · skip
        refine yck 9 (cwidth_any f V4) ?_
        rintro eV5 V5 ⟨rfl, hbV5⟩
        have hzV5 := hbV5.size
        refine ⟨_, rfl, ?_⟩
        replace b3 := (b3.past hbV5)
        replace b2 := (b2.past hbV5)
        refine hKx.out _ _ ⟨b3, b2⟩ ?_
        clear hKx Kx
        refine tk 6 12 (.int .i64 mw) ⟨b3, b2⟩ ?_ (hy := fun w' _ => ((show _ = Result.ok (Next.value (.int .i64 (IntKind.wrap .i64 (((wid f.g : Nat) : Int) * pw)))) _ by kernel_rfl).trans (congrArg (fun z => Result.ok (Next.value (.int .i64 z)) _) ((by rw [HMW.out]; exact IntWalk.i64_in _ (by omega))))))
        refine sxr [7, 8] ?_
        refine rd2 (fun Kx hKx => ?_) ?_
        · skip
          replace hp := (hp.past (bthru (bthru (bthru (bthru hbV1 hbV2) hbV3) hbV4) hbV5))
          replace hT := (hT.past (bthru (bthru (bthru (bthru hbV1 hbV2) hbV3) hbV4) hbV5))
          refine yck 13 ((HW V5 hp hT).out) ?_
          rintro eV6 V6 ⟨p13, c13, rfl, o13, hbV6⟩
          have hzV6 := hbV6.size
          refine ⟨_, rfl, ?_⟩
          replace b3 := (b3.past hbV6)
          replace b2 := (b2.past hbV6)
          refine hKx.out _ _ ⟨b3, b2⟩ ?_
          clear hKx Kx
          refine sxr [8] ?_
          refine rd1 (fun Kx hKx => ?_)
          refine snk 5 #[.bool false, .slice none 0 0, .int .i64 0] 97 (fun V7 hbV7 hzV7 b5 => ?_)
          replace b3 := (b3.past hbV7)
          replace b2 := (b2.past hbV7)
          refine hKx.out _ _ ⟨b3, b2⟩ ?_
          clear hKx Kx
          refine sxr [9] ?_
          refine rd1 (fun Kx hKx => ?_)
          refine ssk none b5 hT97 0 #[.bool d.neg, .slice p13 (dig B32 d.m).length c13, .int .i64 d.e] #[.bool d.neg, .slice p13 (dig B32 d.m).length c13, .int .i64 d.e] ?_
          have boV8 := b5
          clear b5
          intro V8 hOV8 b5
          have hzV8 := hOV8.size
          replace b3 := (b3.only hOV8 (by omega))
          replace b2 := (b2.only hOV8 (by omega))
          refine hKx.out _ _ ⟨b3, b2⟩ ?_
          clear hKx Kx
          refine sx_done (by kernel_rfl) ?_
          replace o13 := (o13.past (hbV7.trans (hOV8.below (by omega))))
          exact ⟨rfl, V6.heap.size, p13, c13, by kernel_rfl, b5, (o13.mono (by omega)), ((bthru (bthru (bthru hbV4 hbV5) hbV6) hbV7).trans (hOV8.below (by omega))), by omega⟩
        refine rd1 (fun Kx hKx => ?_)
        refine snk 5 #[.bool false, .slice none 0 0, .int .i64 0] 97 (fun V6 hbV6 hzV6 b5 => ?_)
        replace b3 := (b3.past hbV6)
        replace b2 := (b2.past hbV6)
        refine hKx.out _ _ ⟨b3, b2⟩ ?_
        clear hKx Kx
        refine sxr [7] ?_
        refine rd1 (fun Kx hKx => ?_)
        replace hp := (hp.past (bthru (bthru (bthru (bthru (bthru hbV1 hbV2) hbV3) hbV4) hbV5) hbV6))
        replace hT := (hT.past (bthru (bthru (bthru (bthru (bthru hbV1 hbV2) hbV3) hbV4) hbV5) hbV6))
        refine yck 13 ((HW V6 hp hT).out) ?_
        rintro eV7 V7 ⟨p13, c13, rfl, o13, hbV7⟩
        have hzV7 := hbV7.size
        refine ⟨_, rfl, ?_⟩
        replace b3 := (b3.past hbV7)
        replace b2 := (b2.past hbV7)
        refine hKx.out _ _ ⟨b3, b2⟩ ?_
        clear hKx Kx
        refine sxr [9] ?_
        refine rd1 (fun Kx hKx => ?_)
        replace b5 := (b5.past hbV7)
        refine ssk none b5 hT97 0 #[.bool d.neg, .slice p13 (dig B32 d.m).length c13, .int .i64 d.e] #[.bool d.neg, .slice p13 (dig B32 d.m).length c13, .int .i64 d.e] ?_
        have boV8 := b5
        clear b5
        intro V8 hOV8 b5
        have hzV8 := hOV8.size
        replace b3 := (b3.only hOV8 (by omega))
        replace b2 := (b2.only hOV8 (by omega))
        refine hKx.out _ _ ⟨b3, b2⟩ ?_
        clear hKx Kx
        refine sx_done (by kernel_rfl) ?_
        replace o13 := (o13.put boV8 hOV8 (by kernel_rfl))
        exact ⟨rfl, V5.heap.size, p13, c13, by kernel_rfl, b5, (o13.mono (by omega)), ((bthru (bthru (bthru hbV4 hbV5) hbV6) hbV7).trans (hOV8.below (by omega))), by omega⟩
      refine rd1 (fun Kx hKx => ?_)
      refine snk 5 #[.bool false, .slice none 0 0, .int .i64 0] 97 (fun V5 hbV5 hzV5 b5 => ?_)
      replace b3 := (b3.past hbV5)
      replace b2 := (b2.past hbV5)
      refine hKx.out _ _ ⟨b3, b2⟩ ?_
      clear hKx Kx
      refine sxr [3] ?_
      refine rd1 (fun Kx hKx => ?_)
      refine yck 9 (cwidth_any f V5) ?_
      rintro eV6 V6 ⟨rfl, hbV6⟩
      have hzV6 := hbV6.size
      refine ⟨_, rfl, ?_⟩
      replace b3 := (b3.past hbV6)
      replace b2 := (b2.past hbV6)
      refine hKx.out _ _ ⟨b3, b2⟩ ?_
      clear hKx Kx
      refine tk 6 12 (.int .i64 mw) ⟨b3, b2⟩ ?_ (hy := fun w' _ => ((show _ = Result.ok (Next.value (.int .i64 (IntKind.wrap .i64 (((wid f.g : Nat) : Int) * pw)))) _ by kernel_rfl).trans (congrArg (fun z => Result.ok (Next.value (.int .i64 z)) _) ((by rw [HMW.out]; exact IntWalk.i64_in _ (by omega))))))
      refine sxr [7] ?_
      refine rd1 (fun Kx hKx => ?_)
      replace hp := (hp.past (bthru (bthru (bthru (bthru (bthru hbV1 hbV2) hbV3) hbV4) hbV5) hbV6))
      replace hT := (hT.past (bthru (bthru (bthru (bthru (bthru hbV1 hbV2) hbV3) hbV4) hbV5) hbV6))
      refine yck 13 ((HW V6 hp hT).out) ?_
      rintro eV7 V7 ⟨p13, c13, rfl, o13, hbV7⟩
      have hzV7 := hbV7.size
      refine ⟨_, rfl, ?_⟩
      replace b3 := (b3.past hbV7)
      replace b2 := (b2.past hbV7)
      refine hKx.out _ _ ⟨b3, b2⟩ ?_
      clear hKx Kx
      refine sxr [9] ?_
      refine rd1 (fun Kx hKx => ?_)
      replace b5 := (b5.past (bthru hbV6 hbV7))
      refine ssk none b5 hT97 0 #[.bool d.neg, .slice p13 (dig B32 d.m).length c13, .int .i64 d.e] #[.bool d.neg, .slice p13 (dig B32 d.m).length c13, .int .i64 d.e] ?_
      have boV8 := b5
      clear b5
      intro V8 hOV8 b5
      have hzV8 := hOV8.size
      replace b3 := (b3.only hOV8 (by omega))
      replace b2 := (b2.only hOV8 (by omega))
      refine hKx.out _ _ ⟨b3, b2⟩ ?_
      clear hKx Kx
      refine sx_done (by kernel_rfl) ?_
      replace o13 := (o13.put boV8 hOV8 (by kernel_rfl))
      exact ⟨rfl, V4.heap.size, p13, c13, by kernel_rfl, b5, (o13.mono (by omega)), ((bthru (bthru (bthru hbV4 hbV5) hbV6) hbV7).trans (hOV8.below (by omega))), by omega⟩
    rintro _ V4 ⟨kb5, p13, c13, rfl, b5, o13, hbV4, hkb5⟩
    refine hGx _ _ ?_
    clear hGx Gx
    have hzV4 := hbV4.size
    have hlb5 := b5.lt
    refine sx_then ?_
    refine wp_seq ?_
    refine ye ?_
    replace b3 := (b3.past (bthru hbV3 hbV4))
    refine yl 1 rfl 15 b3 hT4 1 ?_
    refine yzt 0 ?_
    refine yT ?_
    refine sx_region ?_
    refine yla 0 rfl 16 b5 hT97 0 ?_
    refine yc 0 rfl 17 (opp_any d.neg p13 _ c13 d.e d.m V4 rfl) (fun Gx hGx => ?_)
    rintro eV5 V5 ⟨rfl, hbV5⟩
    have hzV5 := hbV5.size
    refine ⟨_, rfl, hGx _ _ ?_⟩
    clear hGx Gx
    replace b5 := (b5.past hbV5)
    have boV6 := b5
    refine ysw 0 rfl b5 hT97 #[.bool ((dMinus d).neg), .slice p13 (dig B32 (dMinus d).m).length c13, .int .i64 ((dMinus d).e)] ?_
    clear b5
    intro V6 hOV6 b5
    have hzV6 := hOV6.size
    refine yz 0 ?_
    refine sx_then ?_
    refine ye ?_
    refine yla 0 rfl 18 b5 hT97 0 ?_
    replace b4 := (b4.past ((bthru hbV4 hbV5).trans (hOV6.below (by omega))))
    have boV7 := b4
    refine ysw 0 rfl b4 hT97 #[.bool ((dMinus d).neg), .slice p13 (dig B32 (dMinus d).m).length c13, .int .i64 ((dMinus d).e)] ?_
    clear b4
    intro V7 hOV7 b4
    have hzV7 := hOV7.size
    refine yzt 0 ?_
    refine wp_ret ?_
    repeat (first | with_reducible refine sx_thenret ?_ | with_reducible refine sx_blockret ?_)
    refine yret (.agg #[.bool ((dMinus d).neg), .slice p13 (dig B32 (dMinus d).m).length c13, .int .i64 ((dMinus d).e)]) (res1 Tryd.results71 (rvr b4 hT97)) ?_
    replace o13 := (((o13.past hbV5).put boV6 hOV6 (by kernel_rfl)).put boV7 hOV7 (by kernel_rfl))
    exact ⟨p13, c13, rfl, o13.mono (by omega), (((bthru (bthru (bthru (bthru hbV1 hbV2) hbV3) hbV4) hbV5).trans (hOV6.below (by omega))).trans (hOV7.below (by omega)))⟩

theorem join_int (f : Fm) (g : Bool) (E : Int) (e x : Nat) (hE : E = e) (p : Option Addr) (c : Nat) (w : World) (G : GoodF f) (hp : Rd w .u32 p (dig B32 x)) (he : e < 2 ^ f.E) (hx : x < 2 ^ f.F) :
    Calls Tryd.prog 75 #[.agg #[.int .i64 ((f.size : Nat) : Int), .int .i64 ((f.E : Nat) : Int), .int .i64 ((f.F : Nat) : Int), .int .i64 f.g.rad, .int .i64 f.g.digs, .int .i64 f.g.lo, .int .i64 f.g.hi, .bool f.g.grad, .bool f.hid, .bool f.inf, .bool f.res, .func (.func (ordF f)) #[] #[]], .agg #[.bool g, .int .i64 E, .slice p (dig B32 x).length c]] w fun en w' => en = .returned (.string (strOf (f.str g e x))) ∧ Below w.heap.size w w' := by
  subst hE
  exact join_any f g e x p c w G hp he hx
theorem two_len {F : Nat} (h : F ≤ 64) : (dig B32 (2 ^ F)).length ≤ 3 := dig_le_pow (n := F + 1) (Nat.pow_lt_pow_right (by omega) (by omega)) (by omega)

set_option maxHeartbeats 1000000 in
set_option maxRecDepth 100000 in
theorem number_any (f : Fm) (d : Dv) (p : Option Addr) (c : Nat) (w : World) (G : GoodF f) (hp : Rd w .u32 p (dig B32 d.m)) (hl : (dig B32 d.m).length ≤ 1200) (he : -60000 ≤ d.e ∧ d.e ≤ 60000) (hin : inGridD d f.g = true) (h0 : d.m ≠ 0) :
    Calls Tryd.prog 72 #[.agg #[.int .i64 ((f.size : Nat) : Int), .int .i64 ((f.E : Nat) : Int), .int .i64 ((f.F : Nat) : Int), .int .i64 f.g.rad, .int .i64 f.g.digs, .int .i64 f.g.lo, .int .i64 f.g.hi, .bool f.g.grad, .bool f.hid, .bool f.inf, .bool f.res, .func (.func (ordF f)) #[] #[]], .agg #[.bool d.neg, .slice p (dig B32 d.m).length c, .int .i64 d.e]] w fun en w' => en = .returned (.string (strOf (f.strP (f.numP d)))) ∧ Below w.heap.size w w' := by
  have hg := goodG_of G.g
  have N := numF_of G hin h0
  have hlt := numP_lt G N
  obtain ⟨s, m, e⟩ := d
  simp only at h0 hl he hp
  have hd1 := hg.d1
  have hd2 := hg.d2
  have hl1 : (dig B32 1).length ≤ 1 := by rw [dig_len_le B32_two]; unfold B32; omega
  obtain ⟨f1, f2, f3⟩ := fit_step hg hin h0
  have f4 := f2 f3
  have hq : qP m 1 (e - wid f.g * stepK ⟨s, m, e⟩ f.g) = f.fr ⟨s, m, e⟩ := by
    have := N.e0
    simp only at this
    unfold qP numP denP Fm.fr
    rw [show (-(e - wid f.g * stepK ⟨s, m, e⟩ f.g)).toNat = 0 by omega, Nat.pow_zero, Nat.mul_one, Nat.div_one]
  rw [hq] at f1
  have hK := isK_one (show 0 < m by omega) e (w := wid f.g) (D := f.g.digs.toNat) (wid_pos f.g).1 (by omega)
  have HF := fun W q d (h1 : Rd W .u32 p (dig B32 m)) (h2 : Rd W .u32 q (dig B32 1)) => Lib.hid (fit_any s p q c d m 1 e f.g 3 _ W h1 h2 (by omega) (by omega) (by omega) (by omega) (by omega) hg (by omega) (by omega) hK)
  have hlow := N.low
  have hbl := N.bl
  have hk1 := N.k1
  have hk2 := N.k2
  have hfl : (dig B32 (f.fr ⟨s, m, e⟩)).length ≤ 16 := dig_le_pow N.lt (k := 16) (by have := Nat.mul_le_mul (wid_pos f.g).2 (show f.g.digs.toNat ≤ 120 by omega); omega)
  have hnp : f.numP ⟨s, m, e⟩ = if f.fam = 2 then ⟨s, (stepK ⟨s, m, e⟩ f.g - f.g.lo).toNat, f.fr ⟨s, m, e⟩⟩
    else if (blen (f.fr ⟨s, m, e⟩) : Int) = f.g.digs then ⟨s, (stepK ⟨s, m, e⟩ f.g - f.g.lo).toNat + 1, if f.ext then f.fr ⟨s, m, e⟩ else f.fr ⟨s, m, e⟩ - 2 ^ f.F⟩
    else ⟨s, (stepK ⟨s, m, e⟩ f.g - f.g.lo).toNat, f.fr ⟨s, m, e⟩⟩ := rfl
  rw [hnp] at hlt ⊢
  clear hnp N
  generalize f.fr ⟨s, m, e⟩ = X at *
  generalize stepK ⟨s, m, e⟩ f.g = K at *
  generalize fitK s m 1 e f.g 3 ((e + blen m - 1) / wid f.g - f.g.digs.toNat + 1) = pf at *
  obtain ⟨pn, pd, pp, pex, pov, pun⟩ := pf
  simp only at f1 f4
  subst f1 f4
  clear hK f2 f3 hq
  have z5 := G.lo
  have z6 := G.hi
  have hr := G.rad
  have hw := G.w
  have HJ := fun (W : World) (g : Bool) (e x : Nat) (p : Option Addr) (c : Nat) h h1 h2 => Lib.hid (join_any f g e x p c W G h h1 h2)
  unfold Fm.strP
  by_cases hf : f.fam = 2
  · rw [if_pos hf] at hr hw hlt ⊢
    simp only at hlt ⊢
    have hei : ((pp - f.g.lo).toNat : Int) = pp - f.g.lo := by omega
    generalize (pp - f.g.lo).toNat = e1 at *
    have hT3 : SxOne Tryd.prog 3 := sxOne_of (by kernel_rfl) (by kernel_rfl)
    have hT4 : SxOne Tryd.prog 4 := sxOne_of (by kernel_rfl) (by kernel_rfl)
    have hT23 : SxOne Tryd.prog 23 := sxOne_of (by kernel_rfl) (by kernel_rfl)
    have hT29 : SxAgg Tryd.prog 29 5 := sxAgg_of (by kernel_rfl) (by kernel_rfl)
    have hT50 : SxAgg Tryd.prog 50 6 := sxAgg_of (by kernel_rfl) (by kernel_rfl)
    have hT116 : SxAgg Tryd.prog 116 12 := sxAgg_of (by kernel_rfl) (by kernel_rfl)
    refine calls_of_wp Tryd.func72 rfl ?_
    refine sx_frame (a' := ⟨((.agg #[.int .i64 ((f.size : Nat) : Int), .int .i64 ((f.E : Nat) : Int), .int .i64 ((f.F : Nat) : Int), .int .i64 f.g.rad, .int .i64 f.g.digs, .int .i64 f.g.lo, .int .i64 f.g.hi, .bool f.g.grad, .bool f.hid, .bool f.inf, .bool f.res, .func (.func (ordF f)) #[] #[]]) :: (.agg #[.bool s, .slice p (dig B32 m).length c, .int .i64 e]) :: us 55 []).toArray, []⟩) (by kernel_rfl) ?_
    refine ye ?_
    refine yw 0 rfl 2 #[.int .i64 ((f.size : Nat) : Int), .int .i64 ((f.E : Nat) : Int), .int .i64 ((f.F : Nat) : Int), .int .i64 f.g.rad, .int .i64 f.g.digs, .int .i64 f.g.lo, .int .i64 f.g.hi, .bool f.g.grad, .bool f.hid, .bool f.inf, .bool f.res, .func (.func (ordF f)) #[] #[]] 116 (fun V1 hbV1 hzV1 b2 => ?_)
    refine yw 0 rfl 3 #[.bool s, .slice p (dig B32 m).length c, .int .i64 e] 97 (fun V2 hbV2 hzV2 b3 => ?_)
    refine yzt 1 ?_
    refine wp_seq ?_
    refine sx_cutg (R := fun a' w' => ∃ (kb5 : Nat) (p14 : Option Addr) (c14 : Nat) (p21 : Option Addr) (c21 : Nat), a' = ⟨((.agg #[.int .i64 ((f.size : Nat) : Int), .int .i64 ((f.E : Nat) : Int), .int .i64 ((f.F : Nat) : Int), .int .i64 f.g.rad, .int .i64 f.g.digs, .int .i64 f.g.lo, .int .i64 f.g.hi, .bool f.g.grad, .bool f.hid, .bool f.inf, .bool f.res, .func (.func (ordF f)) #[] #[]]) :: (.agg #[.bool s, .slice p (dig B32 m).length c, .int .i64 e]) :: (.pointer (some ⟨w.heap.size, 0, none⟩)) :: (.pointer (some ⟨V1.heap.size, 0, none⟩)) :: (Go.Value.string (ByteArray.mk #[])) :: (.pointer (some ⟨kb5, 0, none⟩)) :: us 2 ((.pointer (some ⟨V1.heap.size, 0, none⟩)) :: (.pointer (some ⟨V1.heap.size, 0, none⟩)) :: (.bool s) :: (.pointer (some ⟨V1.heap.size, 0, none⟩)) :: (.pointer (some ⟨V1.heap.size, 1, none⟩)) :: (.slice p (dig B32 m).length c) :: (.slice p14 (dig B32 1).length c14) :: (.pointer (some ⟨V1.heap.size, 0, none⟩)) :: (.pointer (some ⟨V1.heap.size, 2, none⟩)) :: (.int .i64 e) :: (.agg #[.bool s, .slice p (dig B32 m).length c, .slice p14 (dig B32 1).length c14, .int .i64 e]) :: (.pointer (some ⟨w.heap.size, 3, none⟩)) :: (.agg #[.int .i64 f.g.rad, .int .i64 f.g.digs, .int .i64 f.g.lo, .int .i64 f.g.hi, .bool f.g.grad]) :: (.agg #[.bool pn, .slice p21 (dig B32 pd).length c21, .int .i64 pp, .bool pex, .bool pov, .bool pun]) :: us 35 [])).toArray, []⟩ ∧ Bt w' kb5 50 #[.bool pn, .slice p21 (dig B32 pd).length c21, .int .i64 pp, .bool pex, .bool pov, .bool pun] ∧ Own w' V2.heap.size .u32 91 p14 c14 (dig B32 1) ∧ Own w' V2.heap.size .u32 91 p21 c21 (dig B32 pd) ∧ Below V2.heap.size V2 w' ∧ V2.heap.size ≤ kb5) ?_ (fun Gx hGx => ?_)
    · skip
      replace b2 := (b2.past hbV2)
      obtain ⟨V3, hVV3, hbV3, hzV3⟩ := drew_of V2
      replace b3 := (b3.past hbV3)
      replace b2 := (b2.past hbV3)
      refine yd2 hVV3 ⟨b3, b2⟩ ?_
      clear hVV3
      refine yt 14 [0, 1] rfl ⟨b3, b2⟩ ?_
      refine ytl 2 rfl 10 (fun _ h => h.1) hT4 0 ⟨b3, b2⟩ ?_
      refine yt 11 [3, 4] rfl ⟨b3, b2⟩ ?_
      refine ytl 5 rfl 13 (fun _ h => h.1) hT23 1 ⟨b3, b2⟩ ?_
      refine yt 8 [7, 8] rfl ⟨b3, b2⟩ ?_
      refine ytl 9 rfl 17 (fun _ h => h.1) hT3 2 ⟨b3, b2⟩ ?_
      refine yt 6 [11] rfl ⟨b3, b2⟩ ?_
      refine ytla 12 rfl 20 (fun _ h => h.2) hT29 3 ⟨b3, b2⟩ ?_
      refine sxr [6, 14] ?_
      refine rd2 (fun Kx hKx => ?_) ?_
      · skip
        refine yck 14 (sof 1 1 rfl (by omega) V3) ?_
        rintro eV4 V4 ⟨p14, c14, rfl, o14, hbV4⟩
        have hzV4 := hbV4.size
        refine ⟨_, rfl, ?_⟩
        replace b3 := (b3.past hbV4)
        replace b2 := (b2.past hbV4)
        refine hKx.out _ _ ⟨b3, b2⟩ ?_
        clear hKx Kx
        refine yt 3 [10] rfl ⟨b3, b2⟩ ?_
        refine sxr [13, 14] ?_
        refine rd2 (fun Kx hKx => ?_) ?_
        · skip
          replace hp := (hp.past (bthru (bthru (bthru hbV1 hbV2) hbV3) hbV4))
          refine yck 21 ((HF V4 p14 c14 hp o14.rd).out) ?_
          rintro eV5 V5 ⟨p21, c21, rfl, o21, hbV5⟩
          have hzV5 := hbV5.size
          refine ⟨_, rfl, ?_⟩
          replace b3 := (b3.past hbV5)
          replace b2 := (b2.past hbV5)
          refine hKx.out _ _ ⟨b3, b2⟩ ?_
          clear hKx Kx
          refine sxr [14] ?_
          refine rd1 (fun Kx hKx => ?_)
          refine snk 5 #[.bool false, .slice none 0 0, .int .i64 0, .bool false, .bool false, .bool false] 50 (fun V6 hbV6 hzV6 b5 => ?_)
          replace b3 := (b3.past hbV6)
          replace b2 := (b2.past hbV6)
          refine hKx.out _ _ ⟨b3, b2⟩ ?_
          clear hKx Kx
          refine sxr [15] ?_
          refine rd1 (fun Kx hKx => ?_)
          refine ssk none b5 hT50 0 #[.bool pn, .slice p21 (dig B32 pd).length c21, .int .i64 pp, .bool pex, .bool pov, .bool pun] #[.bool pn, .slice p21 (dig B32 pd).length c21, .int .i64 pp, .bool pex, .bool pov, .bool pun] ?_
          have boV7 := b5
          clear b5
          intro V7 hOV7 b5
          have hzV7 := hOV7.size
          replace b3 := (b3.only hOV7 (by omega))
          replace b2 := (b2.only hOV7 (by omega))
          refine hKx.out _ _ ⟨b3, b2⟩ ?_
          clear hKx Kx
          refine sx_done (by kernel_rfl) ?_
          replace o14 := (o14.past ((bthru hbV5 hbV6).trans (hOV7.below (by omega))))
          replace o21 := (o21.past (hbV6.trans (hOV7.below (by omega))))
          exact ⟨rfl, V5.heap.size, p14, c14, p21, c21, by kernel_rfl, b5, (o14.mono (by omega)), (o21.mono (by omega)), ((bthru (bthru (bthru hbV3 hbV4) hbV5) hbV6).trans (hOV7.below (by omega))), by omega⟩
        refine rd1 (fun Kx hKx => ?_)
        refine snk 5 #[.bool false, .slice none 0 0, .int .i64 0, .bool false, .bool false, .bool false] 50 (fun V5 hbV5 hzV5 b5 => ?_)
        replace b3 := (b3.past hbV5)
        replace b2 := (b2.past hbV5)
        refine hKx.out _ _ ⟨b3, b2⟩ ?_
        clear hKx Kx
        refine sxr [13] ?_
        refine rd1 (fun Kx hKx => ?_)
        replace hp := (hp.past (bthru (bthru (bthru (bthru hbV1 hbV2) hbV3) hbV4) hbV5))
        replace o14 := (o14.past hbV5)
        refine yck 21 ((HF V5 p14 c14 hp o14.rd).out) ?_
        rintro eV6 V6 ⟨p21, c21, rfl, o21, hbV6⟩
        have hzV6 := hbV6.size
        refine ⟨_, rfl, ?_⟩
        replace b3 := (b3.past hbV6)
        replace b2 := (b2.past hbV6)
        refine hKx.out _ _ ⟨b3, b2⟩ ?_
        clear hKx Kx
        refine sxr [15] ?_
        refine rd1 (fun Kx hKx => ?_)
        replace b5 := (b5.past hbV6)
        refine ssk none b5 hT50 0 #[.bool pn, .slice p21 (dig B32 pd).length c21, .int .i64 pp, .bool pex, .bool pov, .bool pun] #[.bool pn, .slice p21 (dig B32 pd).length c21, .int .i64 pp, .bool pex, .bool pov, .bool pun] ?_
        have boV7 := b5
        clear b5
        intro V7 hOV7 b5
        have hzV7 := hOV7.size
        replace b3 := (b3.only hOV7 (by omega))
        replace b2 := (b2.only hOV7 (by omega))
        refine hKx.out _ _ ⟨b3, b2⟩ ?_
        clear hKx Kx
        refine sx_done (by kernel_rfl) ?_
        replace o14 := ((o14.past hbV6).put boV7 hOV7 (by kernel_rfl))
        replace o21 := (o21.put boV7 hOV7 (by kernel_rfl))
        exact ⟨rfl, V4.heap.size, p14, c14, p21, c21, by kernel_rfl, b5, (o14.mono (by omega)), (o21.mono (by omega)), ((bthru (bthru (bthru hbV3 hbV4) hbV5) hbV6).trans (hOV7.below (by omega))), by omega⟩
      refine rd1 (fun Kx hKx => ?_)
      refine snk 5 #[.bool false, .slice none 0 0, .int .i64 0, .bool false, .bool false, .bool false] 50 (fun V4 hbV4 hzV4 b5 => ?_)
      replace b3 := (b3.past hbV4)
      replace b2 := (b2.past hbV4)
      refine hKx.out _ _ ⟨b3, b2⟩ ?_
      clear hKx Kx
      refine sxr [6] ?_
      refine rd1 (fun Kx hKx => ?_)
      refine yck 14 (sof 1 1 rfl (by omega) V4) ?_
      rintro eV5 V5 ⟨p14, c14, rfl, o14, hbV5⟩
      have hzV5 := hbV5.size
      refine ⟨_, rfl, ?_⟩
      replace b3 := (b3.past hbV5)
      replace b2 := (b2.past hbV5)
      refine hKx.out _ _ ⟨b3, b2⟩ ?_
      clear hKx Kx
      refine yt 2 [10] rfl ⟨b3, b2⟩ ?_
      refine sxr [13] ?_
      refine rd1 (fun Kx hKx => ?_)
      replace hp := (hp.past (bthru (bthru (bthru (bthru hbV1 hbV2) hbV3) hbV4) hbV5))
      refine yck 21 ((HF V5 p14 c14 hp o14.rd).out) ?_
      rintro eV6 V6 ⟨p21, c21, rfl, o21, hbV6⟩
      have hzV6 := hbV6.size
      refine ⟨_, rfl, ?_⟩
      replace b3 := (b3.past hbV6)
      replace b2 := (b2.past hbV6)
      refine hKx.out _ _ ⟨b3, b2⟩ ?_
      clear hKx Kx
      refine sxr [15] ?_
      refine rd1 (fun Kx hKx => ?_)
      replace b5 := (b5.past (bthru hbV5 hbV6))
      refine ssk none b5 hT50 0 #[.bool pn, .slice p21 (dig B32 pd).length c21, .int .i64 pp, .bool pex, .bool pov, .bool pun] #[.bool pn, .slice p21 (dig B32 pd).length c21, .int .i64 pp, .bool pex, .bool pov, .bool pun] ?_
      have boV7 := b5
      clear b5
      intro V7 hOV7 b5
      have hzV7 := hOV7.size
      replace b3 := (b3.only hOV7 (by omega))
      replace b2 := (b2.only hOV7 (by omega))
      refine hKx.out _ _ ⟨b3, b2⟩ ?_
      clear hKx Kx
      refine sx_done (by kernel_rfl) ?_
      replace o14 := ((o14.past hbV6).put boV7 hOV7 (by kernel_rfl))
      replace o21 := (o21.put boV7 hOV7 (by kernel_rfl))
      exact ⟨rfl, V3.heap.size, p14, c14, p21, c21, by kernel_rfl, b5, (o14.mono (by omega)), (o21.mono (by omega)), ((bthru (bthru (bthru hbV3 hbV4) hbV5) hbV6).trans (hOV7.below (by omega))), by omega⟩
    rintro _ V3 ⟨kb5, p14, c14, p21, c21, rfl, b5, o14, o21, hbV3, hkb5⟩
    refine hGx _ _ ?_
    clear hGx Gx
    have hzV3 := hbV3.size
    have hlb5 := b5.lt
    refine sx_then ?_
    refine ye ?_
    refine yl 1 rfl 23 b5 hT3 2 ?_
    replace b2 := (b2.past (bthru hbV2 hbV3))
    refine yl 2 rfl 26 b2 hT3 5 ?_
    refine ya 0 rfl 27 .i64 (pp - f.g.lo) (((e1 : Nat) : Int)) ((by rw [hei]; exact IntWalk.i64_in _ (by omega))) ?_
    refine yzt 1 ?_
    refine ye ?_
    refine yl 1 rfl 29 b5 hT23 1 ?_
    refine yzt 1 ?_
    refine wp_seq ?_
    refine ye ?_
    refine yl 2 rfl 32 b2 hT3 3 ?_
    refine yb 0 rfl 33 (f.g.rad == 2) (false) (by rw [hr]; rfl) ?_
    refine yzt 0 ?_
    refine yF ?_
    refine wp_skip ?_
    refine sx_then ?_
    refine ye ?_
    refine yla 0 rfl 49 b2 hT116 0 ?_
    replace b3 := (b3.past hbV3)
    refine yl 2 rfl 52 b3 hT4 0 ?_
    refine yc 3 rfl 56 ((HJ V3 s e1 pd p21 c21 o21.rd hlt.1 hlt.2).out) (fun Gx hGx => ?_)
    rintro eV4 V4 ⟨rfl, hbV4⟩
    have hzV4 := hbV4.size
    refine ⟨_, rfl, hGx _ _ ?_⟩
    clear hGx Gx
    refine yzt 1 ?_
    refine wp_ret ?_
    repeat (first | with_reducible refine sx_thenret ?_ | with_reducible refine sx_blockret ?_)
    refine yret (.string (strOf (f.str s e1 pd))) (res1 Tryd.results72 rvt) ?_
    exact ⟨rfl, (bthru (bthru (bthru hbV1 hbV2) hbV3) hbV4)⟩
  · rw [if_neg hf] at hr hw hlt ⊢
    rw [hw] at hbl
    by_cases hb : (blen pd : Int) = f.g.digs
    · rw [if_pos hb] at hlt ⊢
      simp only at hlt ⊢
      have hei : (((pp - f.g.lo).toNat + 1 : Nat) : Int) = pp - f.g.lo + 1 := by omega
      generalize (pp - f.g.lo).toNat + 1 = e1 at *
      by_cases hx : f.ext = true
      · rw [if_pos hx] at hlt ⊢
        have hh : f.hid = false := by unfold Fm.hid; rw [hx]; simp
        have hT3 : SxOne Tryd.prog 3 := sxOne_of (by kernel_rfl) (by kernel_rfl)
        have hT4 : SxOne Tryd.prog 4 := sxOne_of (by kernel_rfl) (by kernel_rfl)
        have hT23 : SxOne Tryd.prog 23 := sxOne_of (by kernel_rfl) (by kernel_rfl)
        have hT29 : SxAgg Tryd.prog 29 5 := sxAgg_of (by kernel_rfl) (by kernel_rfl)
        have hT50 : SxAgg Tryd.prog 50 6 := sxAgg_of (by kernel_rfl) (by kernel_rfl)
        have hT116 : SxAgg Tryd.prog 116 12 := sxAgg_of (by kernel_rfl) (by kernel_rfl)
        refine calls_of_wp Tryd.func72 rfl ?_
        refine sx_frame (a' := ⟨((.agg #[.int .i64 ((f.size : Nat) : Int), .int .i64 ((f.E : Nat) : Int), .int .i64 ((f.F : Nat) : Int), .int .i64 f.g.rad, .int .i64 f.g.digs, .int .i64 f.g.lo, .int .i64 f.g.hi, .bool f.g.grad, .bool f.hid, .bool f.inf, .bool f.res, .func (.func (ordF f)) #[] #[]]) :: (.agg #[.bool s, .slice p (dig B32 m).length c, .int .i64 e]) :: us 55 []).toArray, []⟩) (by kernel_rfl) ?_
        refine ye ?_
        refine yw 0 rfl 2 #[.int .i64 ((f.size : Nat) : Int), .int .i64 ((f.E : Nat) : Int), .int .i64 ((f.F : Nat) : Int), .int .i64 f.g.rad, .int .i64 f.g.digs, .int .i64 f.g.lo, .int .i64 f.g.hi, .bool f.g.grad, .bool f.hid, .bool f.inf, .bool f.res, .func (.func (ordF f)) #[] #[]] 116 (fun V1 hbV1 hzV1 b2 => ?_)
        refine yw 0 rfl 3 #[.bool s, .slice p (dig B32 m).length c, .int .i64 e] 97 (fun V2 hbV2 hzV2 b3 => ?_)
        refine yzt 1 ?_
        refine wp_seq ?_
        refine sx_cutg (R := fun a' w' => ∃ (kb5 : Nat) (p14 : Option Addr) (c14 : Nat) (p21 : Option Addr) (c21 : Nat), a' = ⟨((.agg #[.int .i64 ((f.size : Nat) : Int), .int .i64 ((f.E : Nat) : Int), .int .i64 ((f.F : Nat) : Int), .int .i64 f.g.rad, .int .i64 f.g.digs, .int .i64 f.g.lo, .int .i64 f.g.hi, .bool f.g.grad, .bool f.hid, .bool f.inf, .bool f.res, .func (.func (ordF f)) #[] #[]]) :: (.agg #[.bool s, .slice p (dig B32 m).length c, .int .i64 e]) :: (.pointer (some ⟨w.heap.size, 0, none⟩)) :: (.pointer (some ⟨V1.heap.size, 0, none⟩)) :: (Go.Value.string (ByteArray.mk #[])) :: (.pointer (some ⟨kb5, 0, none⟩)) :: us 2 ((.pointer (some ⟨V1.heap.size, 0, none⟩)) :: (.pointer (some ⟨V1.heap.size, 0, none⟩)) :: (.bool s) :: (.pointer (some ⟨V1.heap.size, 0, none⟩)) :: (.pointer (some ⟨V1.heap.size, 1, none⟩)) :: (.slice p (dig B32 m).length c) :: (.slice p14 (dig B32 1).length c14) :: (.pointer (some ⟨V1.heap.size, 0, none⟩)) :: (.pointer (some ⟨V1.heap.size, 2, none⟩)) :: (.int .i64 e) :: (.agg #[.bool s, .slice p (dig B32 m).length c, .slice p14 (dig B32 1).length c14, .int .i64 e]) :: (.pointer (some ⟨w.heap.size, 3, none⟩)) :: (.agg #[.int .i64 f.g.rad, .int .i64 f.g.digs, .int .i64 f.g.lo, .int .i64 f.g.hi, .bool f.g.grad]) :: (.agg #[.bool pn, .slice p21 (dig B32 pd).length c21, .int .i64 pp, .bool pex, .bool pov, .bool pun]) :: us 35 [])).toArray, []⟩ ∧ Bt w' kb5 50 #[.bool pn, .slice p21 (dig B32 pd).length c21, .int .i64 pp, .bool pex, .bool pov, .bool pun] ∧ Own w' V2.heap.size .u32 91 p14 c14 (dig B32 1) ∧ Own w' V2.heap.size .u32 91 p21 c21 (dig B32 pd) ∧ Below V2.heap.size V2 w' ∧ V2.heap.size ≤ kb5) ?_ (fun Gx hGx => ?_)
        · skip
          replace b2 := (b2.past hbV2)
          obtain ⟨V3, hVV3, hbV3, hzV3⟩ := drew_of V2
          replace b3 := (b3.past hbV3)
          replace b2 := (b2.past hbV3)
          refine yd2 hVV3 ⟨b3, b2⟩ ?_
          clear hVV3
          refine yt 14 [0, 1] rfl ⟨b3, b2⟩ ?_
          refine ytl 2 rfl 10 (fun _ h => h.1) hT4 0 ⟨b3, b2⟩ ?_
          refine yt 11 [3, 4] rfl ⟨b3, b2⟩ ?_
          refine ytl 5 rfl 13 (fun _ h => h.1) hT23 1 ⟨b3, b2⟩ ?_
          refine yt 8 [7, 8] rfl ⟨b3, b2⟩ ?_
          refine ytl 9 rfl 17 (fun _ h => h.1) hT3 2 ⟨b3, b2⟩ ?_
          refine yt 6 [11] rfl ⟨b3, b2⟩ ?_
          refine ytla 12 rfl 20 (fun _ h => h.2) hT29 3 ⟨b3, b2⟩ ?_
          refine sxr [6, 14] ?_
          refine rd2 (fun Kx hKx => ?_) ?_
          · skip
            refine yck 14 (sof 1 1 rfl (by omega) V3) ?_
            rintro eV4 V4 ⟨p14, c14, rfl, o14, hbV4⟩
            have hzV4 := hbV4.size
            refine ⟨_, rfl, ?_⟩
            replace b3 := (b3.past hbV4)
            replace b2 := (b2.past hbV4)
            refine hKx.out _ _ ⟨b3, b2⟩ ?_
            clear hKx Kx
            refine yt 3 [10] rfl ⟨b3, b2⟩ ?_
            refine sxr [13, 14] ?_
            refine rd2 (fun Kx hKx => ?_) ?_
            · skip
              replace hp := (hp.past (bthru (bthru (bthru hbV1 hbV2) hbV3) hbV4))
              refine yck 21 ((HF V4 p14 c14 hp o14.rd).out) ?_
              rintro eV5 V5 ⟨p21, c21, rfl, o21, hbV5⟩
              have hzV5 := hbV5.size
              refine ⟨_, rfl, ?_⟩
              replace b3 := (b3.past hbV5)
              replace b2 := (b2.past hbV5)
              refine hKx.out _ _ ⟨b3, b2⟩ ?_
              clear hKx Kx
              refine sxr [14] ?_
              refine rd1 (fun Kx hKx => ?_)
              refine snk 5 #[.bool false, .slice none 0 0, .int .i64 0, .bool false, .bool false, .bool false] 50 (fun V6 hbV6 hzV6 b5 => ?_)
              replace b3 := (b3.past hbV6)
              replace b2 := (b2.past hbV6)
              refine hKx.out _ _ ⟨b3, b2⟩ ?_
              clear hKx Kx
              refine sxr [15] ?_
              refine rd1 (fun Kx hKx => ?_)
              refine ssk none b5 hT50 0 #[.bool pn, .slice p21 (dig B32 pd).length c21, .int .i64 pp, .bool pex, .bool pov, .bool pun] #[.bool pn, .slice p21 (dig B32 pd).length c21, .int .i64 pp, .bool pex, .bool pov, .bool pun] ?_
              have boV7 := b5
              clear b5
              intro V7 hOV7 b5
              have hzV7 := hOV7.size
              replace b3 := (b3.only hOV7 (by omega))
              replace b2 := (b2.only hOV7 (by omega))
              refine hKx.out _ _ ⟨b3, b2⟩ ?_
              clear hKx Kx
              refine sx_done (by kernel_rfl) ?_
              replace o14 := (o14.past ((bthru hbV5 hbV6).trans (hOV7.below (by omega))))
              replace o21 := (o21.past (hbV6.trans (hOV7.below (by omega))))
              exact ⟨rfl, V5.heap.size, p14, c14, p21, c21, by kernel_rfl, b5, (o14.mono (by omega)), (o21.mono (by omega)), ((bthru (bthru (bthru hbV3 hbV4) hbV5) hbV6).trans (hOV7.below (by omega))), by omega⟩
            refine rd1 (fun Kx hKx => ?_)
            refine snk 5 #[.bool false, .slice none 0 0, .int .i64 0, .bool false, .bool false, .bool false] 50 (fun V5 hbV5 hzV5 b5 => ?_)
            replace b3 := (b3.past hbV5)
            replace b2 := (b2.past hbV5)
            refine hKx.out _ _ ⟨b3, b2⟩ ?_
            clear hKx Kx
            refine sxr [13] ?_
            refine rd1 (fun Kx hKx => ?_)
            replace hp := (hp.past (bthru (bthru (bthru (bthru hbV1 hbV2) hbV3) hbV4) hbV5))
            replace o14 := (o14.past hbV5)
            refine yck 21 ((HF V5 p14 c14 hp o14.rd).out) ?_
            rintro eV6 V6 ⟨p21, c21, rfl, o21, hbV6⟩
            have hzV6 := hbV6.size
            refine ⟨_, rfl, ?_⟩
            replace b3 := (b3.past hbV6)
            replace b2 := (b2.past hbV6)
            refine hKx.out _ _ ⟨b3, b2⟩ ?_
            clear hKx Kx
            refine sxr [15] ?_
            refine rd1 (fun Kx hKx => ?_)
            replace b5 := (b5.past hbV6)
            refine ssk none b5 hT50 0 #[.bool pn, .slice p21 (dig B32 pd).length c21, .int .i64 pp, .bool pex, .bool pov, .bool pun] #[.bool pn, .slice p21 (dig B32 pd).length c21, .int .i64 pp, .bool pex, .bool pov, .bool pun] ?_
            have boV7 := b5
            clear b5
            intro V7 hOV7 b5
            have hzV7 := hOV7.size
            replace b3 := (b3.only hOV7 (by omega))
            replace b2 := (b2.only hOV7 (by omega))
            refine hKx.out _ _ ⟨b3, b2⟩ ?_
            clear hKx Kx
            refine sx_done (by kernel_rfl) ?_
            replace o14 := ((o14.past hbV6).put boV7 hOV7 (by kernel_rfl))
            replace o21 := (o21.put boV7 hOV7 (by kernel_rfl))
            exact ⟨rfl, V4.heap.size, p14, c14, p21, c21, by kernel_rfl, b5, (o14.mono (by omega)), (o21.mono (by omega)), ((bthru (bthru (bthru hbV3 hbV4) hbV5) hbV6).trans (hOV7.below (by omega))), by omega⟩
          refine rd1 (fun Kx hKx => ?_)
          refine snk 5 #[.bool false, .slice none 0 0, .int .i64 0, .bool false, .bool false, .bool false] 50 (fun V4 hbV4 hzV4 b5 => ?_)
          replace b3 := (b3.past hbV4)
          replace b2 := (b2.past hbV4)
          refine hKx.out _ _ ⟨b3, b2⟩ ?_
          clear hKx Kx
          refine sxr [6] ?_
          refine rd1 (fun Kx hKx => ?_)
          refine yck 14 (sof 1 1 rfl (by omega) V4) ?_
          rintro eV5 V5 ⟨p14, c14, rfl, o14, hbV5⟩
          have hzV5 := hbV5.size
          refine ⟨_, rfl, ?_⟩
          replace b3 := (b3.past hbV5)
          replace b2 := (b2.past hbV5)
          refine hKx.out _ _ ⟨b3, b2⟩ ?_
          clear hKx Kx
          refine yt 2 [10] rfl ⟨b3, b2⟩ ?_
          refine sxr [13] ?_
          refine rd1 (fun Kx hKx => ?_)
          replace hp := (hp.past (bthru (bthru (bthru (bthru hbV1 hbV2) hbV3) hbV4) hbV5))
          refine yck 21 ((HF V5 p14 c14 hp o14.rd).out) ?_
          rintro eV6 V6 ⟨p21, c21, rfl, o21, hbV6⟩
          have hzV6 := hbV6.size
          refine ⟨_, rfl, ?_⟩
          replace b3 := (b3.past hbV6)
          replace b2 := (b2.past hbV6)
          refine hKx.out _ _ ⟨b3, b2⟩ ?_
          clear hKx Kx
          refine sxr [15] ?_
          refine rd1 (fun Kx hKx => ?_)
          replace b5 := (b5.past (bthru hbV5 hbV6))
          refine ssk none b5 hT50 0 #[.bool pn, .slice p21 (dig B32 pd).length c21, .int .i64 pp, .bool pex, .bool pov, .bool pun] #[.bool pn, .slice p21 (dig B32 pd).length c21, .int .i64 pp, .bool pex, .bool pov, .bool pun] ?_
          have boV7 := b5
          clear b5
          intro V7 hOV7 b5
          have hzV7 := hOV7.size
          replace b3 := (b3.only hOV7 (by omega))
          replace b2 := (b2.only hOV7 (by omega))
          refine hKx.out _ _ ⟨b3, b2⟩ ?_
          clear hKx Kx
          refine sx_done (by kernel_rfl) ?_
          replace o14 := ((o14.past hbV6).put boV7 hOV7 (by kernel_rfl))
          replace o21 := (o21.put boV7 hOV7 (by kernel_rfl))
          exact ⟨rfl, V3.heap.size, p14, c14, p21, c21, by kernel_rfl, b5, (o14.mono (by omega)), (o21.mono (by omega)), ((bthru (bthru (bthru hbV3 hbV4) hbV5) hbV6).trans (hOV7.below (by omega))), by omega⟩
        rintro _ V3 ⟨kb5, p14, c14, p21, c21, rfl, b5, o14, o21, hbV3, hkb5⟩
        refine hGx _ _ ?_
        clear hGx Gx
        have hzV3 := hbV3.size
        have hlb5 := b5.lt
        refine sx_then ?_
        refine ye ?_
        refine yl 1 rfl 23 b5 hT3 2 ?_
        replace b2 := (b2.past (bthru hbV2 hbV3))
        refine yl 2 rfl 26 b2 hT3 5 ?_
        refine yi 0 rfl 27 (pp - f.g.lo) ?_
        refine yzt 1 ?_
        refine ye ?_
        refine yl 1 rfl 29 b5 hT23 1 ?_
        refine yzt 1 ?_
        refine wp_seq ?_
        refine ye ?_
        refine yl 2 rfl 32 b2 hT3 3 ?_
        refine yb 0 rfl 33 (f.g.rad == 2) (true) (by rw [hr]; rfl) ?_
        refine yzt 0 ?_
        refine yT ?_
        refine ye ?_
        refine ya 1 rfl 35 .i64 ((pp - f.g.lo) + 1) (((e1 : Nat) : Int)) ((by rw [hei]; exact IntWalk.i64_in _ (by omega))) ?_
        refine yzt 1 ?_
        refine wp_seq ?_
        obtain ⟨V4, hVV4, hbV4, hzV4⟩ := drew_of V3
        replace b2 := (b2.past hbV4)
        refine yd1 hVV4 b2 ?_
        clear hVV4
        refine yt 3 [0, 2, 3] rfl b2 ?_
        refine ytl 4 rfl 40 (fun _ h => h) hT3 4 b2 ?_
        refine sxr [1] ?_
        refine rd1 (fun Kx hKx => ?_)
        replace o21 := (o21.past hbV4)
        refine yck 37 (stay (len_any p21 _ c21 pd V4 o21.rd rfl (by omega))) ?_
        rintro eV5 V5 ⟨rfl, hbV5⟩
        have hzV5 := hbV5.size
        refine ⟨_, rfl, ?_⟩
        replace b2 := (b2.past hbV5)
        refine hKx.out _ _ b2 ?_
        clear hKx Kx
        refine tk 5 41 (.bool false) b2 ?_ (hy := fun w' _ => ((show _ = Result.ok (Next.value (.bool (decide (((blen pd : Nat) : Int) < f.g.digs)))) _ from (by kernel_rfl)).trans (congrArg (fun z => Result.ok (Next.value (.bool z)) _) (show (decide (((blen pd : Nat) : Int) < f.g.digs)) = false from decide_eq_false (by omega)))))
        refine sx_done (by kernel_rfl) ?_
        refine sx_then ?_
        refine yF ?_
        refine ye ?_
        refine ylb 1 rfl 43 b2 hT4 8 (f.hid) false (hh) ?_
        refine yzt 0 ?_
        refine yF ?_
        refine wp_skip ?_
        refine sx_then ?_
        refine ye ?_
        refine yla 0 rfl 49 b2 hT116 0 ?_
        replace b3 := (b3.past (bthru (bthru hbV3 hbV4) hbV5))
        refine yl 2 rfl 52 b3 hT4 0 ?_
        replace o21 := (o21.past hbV5)
        refine yc 3 rfl 56 ((HJ V5 s e1 pd p21 c21 o21.rd hlt.1 hlt.2).out) (fun Gx hGx => ?_)
        rintro eV6 V6 ⟨rfl, hbV6⟩
        have hzV6 := hbV6.size
        refine ⟨_, rfl, hGx _ _ ?_⟩
        clear hGx Gx
        refine yzt 1 ?_
        refine wp_ret ?_
        repeat (first | with_reducible refine sx_thenret ?_ | with_reducible refine sx_blockret ?_)
        refine yret (.string (strOf (f.str s e1 pd))) (res1 Tryd.results72 rvt) ?_
        exact ⟨rfl, (bthru (bthru (bthru (bthru (bthru hbV1 hbV2) hbV3) hbV4) hbV5) hbV6)⟩
      · rw [if_neg hx] at hlt ⊢
        have hx' : f.ext = false := by simpa using hx
        have hh : f.hid = true := by unfold Fm.hid; rw [hx']; simp [hf]
        have hFF := G.d1 hf hx'
        have hge : 2 ^ f.F ≤ pd := by
          have h1 := blen_pow pd ((blen_pos pd).1 (by omega))
          rw [show blen pd - 1 = f.F by omega] at h1
          exact h1
        have ht := two_len G.f2
        have hT3 : SxOne Tryd.prog 3 := sxOne_of (by kernel_rfl) (by kernel_rfl)
        have hT4 : SxOne Tryd.prog 4 := sxOne_of (by kernel_rfl) (by kernel_rfl)
        have hT23 : SxOne Tryd.prog 23 := sxOne_of (by kernel_rfl) (by kernel_rfl)
        have hT29 : SxAgg Tryd.prog 29 5 := sxAgg_of (by kernel_rfl) (by kernel_rfl)
        have hT50 : SxAgg Tryd.prog 50 6 := sxAgg_of (by kernel_rfl) (by kernel_rfl)
        have hT116 : SxAgg Tryd.prog 116 12 := sxAgg_of (by kernel_rfl) (by kernel_rfl)
        refine calls_of_wp Tryd.func72 rfl ?_
        refine sx_frame (a' := ⟨((.agg #[.int .i64 ((f.size : Nat) : Int), .int .i64 ((f.E : Nat) : Int), .int .i64 ((f.F : Nat) : Int), .int .i64 f.g.rad, .int .i64 f.g.digs, .int .i64 f.g.lo, .int .i64 f.g.hi, .bool f.g.grad, .bool f.hid, .bool f.inf, .bool f.res, .func (.func (ordF f)) #[] #[]]) :: (.agg #[.bool s, .slice p (dig B32 m).length c, .int .i64 e]) :: us 55 []).toArray, []⟩) (by kernel_rfl) ?_
        refine ye ?_
        refine yw 0 rfl 2 #[.int .i64 ((f.size : Nat) : Int), .int .i64 ((f.E : Nat) : Int), .int .i64 ((f.F : Nat) : Int), .int .i64 f.g.rad, .int .i64 f.g.digs, .int .i64 f.g.lo, .int .i64 f.g.hi, .bool f.g.grad, .bool f.hid, .bool f.inf, .bool f.res, .func (.func (ordF f)) #[] #[]] 116 (fun V1 hbV1 hzV1 b2 => ?_)
        refine yw 0 rfl 3 #[.bool s, .slice p (dig B32 m).length c, .int .i64 e] 97 (fun V2 hbV2 hzV2 b3 => ?_)
        refine yzt 1 ?_
        refine wp_seq ?_
        refine sx_cutg (R := fun a' w' => ∃ (kb5 : Nat) (p14 : Option Addr) (c14 : Nat) (p21 : Option Addr) (c21 : Nat), a' = ⟨((.agg #[.int .i64 ((f.size : Nat) : Int), .int .i64 ((f.E : Nat) : Int), .int .i64 ((f.F : Nat) : Int), .int .i64 f.g.rad, .int .i64 f.g.digs, .int .i64 f.g.lo, .int .i64 f.g.hi, .bool f.g.grad, .bool f.hid, .bool f.inf, .bool f.res, .func (.func (ordF f)) #[] #[]]) :: (.agg #[.bool s, .slice p (dig B32 m).length c, .int .i64 e]) :: (.pointer (some ⟨w.heap.size, 0, none⟩)) :: (.pointer (some ⟨V1.heap.size, 0, none⟩)) :: (Go.Value.string (ByteArray.mk #[])) :: (.pointer (some ⟨kb5, 0, none⟩)) :: us 2 ((.pointer (some ⟨V1.heap.size, 0, none⟩)) :: (.pointer (some ⟨V1.heap.size, 0, none⟩)) :: (.bool s) :: (.pointer (some ⟨V1.heap.size, 0, none⟩)) :: (.pointer (some ⟨V1.heap.size, 1, none⟩)) :: (.slice p (dig B32 m).length c) :: (.slice p14 (dig B32 1).length c14) :: (.pointer (some ⟨V1.heap.size, 0, none⟩)) :: (.pointer (some ⟨V1.heap.size, 2, none⟩)) :: (.int .i64 e) :: (.agg #[.bool s, .slice p (dig B32 m).length c, .slice p14 (dig B32 1).length c14, .int .i64 e]) :: (.pointer (some ⟨w.heap.size, 3, none⟩)) :: (.agg #[.int .i64 f.g.rad, .int .i64 f.g.digs, .int .i64 f.g.lo, .int .i64 f.g.hi, .bool f.g.grad]) :: (.agg #[.bool pn, .slice p21 (dig B32 pd).length c21, .int .i64 pp, .bool pex, .bool pov, .bool pun]) :: us 35 [])).toArray, []⟩ ∧ Bt w' kb5 50 #[.bool pn, .slice p21 (dig B32 pd).length c21, .int .i64 pp, .bool pex, .bool pov, .bool pun] ∧ Own w' V2.heap.size .u32 91 p14 c14 (dig B32 1) ∧ Own w' V2.heap.size .u32 91 p21 c21 (dig B32 pd) ∧ Below V2.heap.size V2 w' ∧ V2.heap.size ≤ kb5) ?_ (fun Gx hGx => ?_)
        · skip
          replace b2 := (b2.past hbV2)
          obtain ⟨V3, hVV3, hbV3, hzV3⟩ := drew_of V2
          replace b3 := (b3.past hbV3)
          replace b2 := (b2.past hbV3)
          refine yd2 hVV3 ⟨b3, b2⟩ ?_
          clear hVV3
          refine yt 14 [0, 1] rfl ⟨b3, b2⟩ ?_
          refine ytl 2 rfl 10 (fun _ h => h.1) hT4 0 ⟨b3, b2⟩ ?_
          refine yt 11 [3, 4] rfl ⟨b3, b2⟩ ?_
          refine ytl 5 rfl 13 (fun _ h => h.1) hT23 1 ⟨b3, b2⟩ ?_
          refine yt 8 [7, 8] rfl ⟨b3, b2⟩ ?_
          refine ytl 9 rfl 17 (fun _ h => h.1) hT3 2 ⟨b3, b2⟩ ?_
          refine yt 6 [11] rfl ⟨b3, b2⟩ ?_
          refine ytla 12 rfl 20 (fun _ h => h.2) hT29 3 ⟨b3, b2⟩ ?_
          refine sxr [6, 14] ?_
          refine rd2 (fun Kx hKx => ?_) ?_
          · skip
            refine yck 14 (sof 1 1 rfl (by omega) V3) ?_
            rintro eV4 V4 ⟨p14, c14, rfl, o14, hbV4⟩
            have hzV4 := hbV4.size
            refine ⟨_, rfl, ?_⟩
            replace b3 := (b3.past hbV4)
            replace b2 := (b2.past hbV4)
            refine hKx.out _ _ ⟨b3, b2⟩ ?_
            clear hKx Kx
            refine yt 3 [10] rfl ⟨b3, b2⟩ ?_
            refine sxr [13, 14] ?_
            refine rd2 (fun Kx hKx => ?_) ?_
            · skip
              replace hp := (hp.past (bthru (bthru (bthru hbV1 hbV2) hbV3) hbV4))
              refine yck 21 ((HF V4 p14 c14 hp o14.rd).out) ?_
              rintro eV5 V5 ⟨p21, c21, rfl, o21, hbV5⟩
              have hzV5 := hbV5.size
              refine ⟨_, rfl, ?_⟩
              replace b3 := (b3.past hbV5)
              replace b2 := (b2.past hbV5)
              refine hKx.out _ _ ⟨b3, b2⟩ ?_
              clear hKx Kx
              refine sxr [14] ?_
              refine rd1 (fun Kx hKx => ?_)
              refine snk 5 #[.bool false, .slice none 0 0, .int .i64 0, .bool false, .bool false, .bool false] 50 (fun V6 hbV6 hzV6 b5 => ?_)
              replace b3 := (b3.past hbV6)
              replace b2 := (b2.past hbV6)
              refine hKx.out _ _ ⟨b3, b2⟩ ?_
              clear hKx Kx
              refine sxr [15] ?_
              refine rd1 (fun Kx hKx => ?_)
              refine ssk none b5 hT50 0 #[.bool pn, .slice p21 (dig B32 pd).length c21, .int .i64 pp, .bool pex, .bool pov, .bool pun] #[.bool pn, .slice p21 (dig B32 pd).length c21, .int .i64 pp, .bool pex, .bool pov, .bool pun] ?_
              have boV7 := b5
              clear b5
              intro V7 hOV7 b5
              have hzV7 := hOV7.size
              replace b3 := (b3.only hOV7 (by omega))
              replace b2 := (b2.only hOV7 (by omega))
              refine hKx.out _ _ ⟨b3, b2⟩ ?_
              clear hKx Kx
              refine sx_done (by kernel_rfl) ?_
              replace o14 := (o14.past ((bthru hbV5 hbV6).trans (hOV7.below (by omega))))
              replace o21 := (o21.past (hbV6.trans (hOV7.below (by omega))))
              exact ⟨rfl, V5.heap.size, p14, c14, p21, c21, by kernel_rfl, b5, (o14.mono (by omega)), (o21.mono (by omega)), ((bthru (bthru (bthru hbV3 hbV4) hbV5) hbV6).trans (hOV7.below (by omega))), by omega⟩
            refine rd1 (fun Kx hKx => ?_)
            refine snk 5 #[.bool false, .slice none 0 0, .int .i64 0, .bool false, .bool false, .bool false] 50 (fun V5 hbV5 hzV5 b5 => ?_)
            replace b3 := (b3.past hbV5)
            replace b2 := (b2.past hbV5)
            refine hKx.out _ _ ⟨b3, b2⟩ ?_
            clear hKx Kx
            refine sxr [13] ?_
            refine rd1 (fun Kx hKx => ?_)
            replace hp := (hp.past (bthru (bthru (bthru (bthru hbV1 hbV2) hbV3) hbV4) hbV5))
            replace o14 := (o14.past hbV5)
            refine yck 21 ((HF V5 p14 c14 hp o14.rd).out) ?_
            rintro eV6 V6 ⟨p21, c21, rfl, o21, hbV6⟩
            have hzV6 := hbV6.size
            refine ⟨_, rfl, ?_⟩
            replace b3 := (b3.past hbV6)
            replace b2 := (b2.past hbV6)
            refine hKx.out _ _ ⟨b3, b2⟩ ?_
            clear hKx Kx
            refine sxr [15] ?_
            refine rd1 (fun Kx hKx => ?_)
            replace b5 := (b5.past hbV6)
            refine ssk none b5 hT50 0 #[.bool pn, .slice p21 (dig B32 pd).length c21, .int .i64 pp, .bool pex, .bool pov, .bool pun] #[.bool pn, .slice p21 (dig B32 pd).length c21, .int .i64 pp, .bool pex, .bool pov, .bool pun] ?_
            have boV7 := b5
            clear b5
            intro V7 hOV7 b5
            have hzV7 := hOV7.size
            replace b3 := (b3.only hOV7 (by omega))
            replace b2 := (b2.only hOV7 (by omega))
            refine hKx.out _ _ ⟨b3, b2⟩ ?_
            clear hKx Kx
            refine sx_done (by kernel_rfl) ?_
            replace o14 := ((o14.past hbV6).put boV7 hOV7 (by kernel_rfl))
            replace o21 := (o21.put boV7 hOV7 (by kernel_rfl))
            exact ⟨rfl, V4.heap.size, p14, c14, p21, c21, by kernel_rfl, b5, (o14.mono (by omega)), (o21.mono (by omega)), ((bthru (bthru (bthru hbV3 hbV4) hbV5) hbV6).trans (hOV7.below (by omega))), by omega⟩
          refine rd1 (fun Kx hKx => ?_)
          refine snk 5 #[.bool false, .slice none 0 0, .int .i64 0, .bool false, .bool false, .bool false] 50 (fun V4 hbV4 hzV4 b5 => ?_)
          replace b3 := (b3.past hbV4)
          replace b2 := (b2.past hbV4)
          refine hKx.out _ _ ⟨b3, b2⟩ ?_
          clear hKx Kx
          refine sxr [6] ?_
          refine rd1 (fun Kx hKx => ?_)
          refine yck 14 (sof 1 1 rfl (by omega) V4) ?_
          rintro eV5 V5 ⟨p14, c14, rfl, o14, hbV5⟩
          have hzV5 := hbV5.size
          refine ⟨_, rfl, ?_⟩
          replace b3 := (b3.past hbV5)
          replace b2 := (b2.past hbV5)
          refine hKx.out _ _ ⟨b3, b2⟩ ?_
          clear hKx Kx
          refine yt 2 [10] rfl ⟨b3, b2⟩ ?_
          refine sxr [13] ?_
          refine rd1 (fun Kx hKx => ?_)
          replace hp := (hp.past (bthru (bthru (bthru (bthru hbV1 hbV2) hbV3) hbV4) hbV5))
          refine yck 21 ((HF V5 p14 c14 hp o14.rd).out) ?_
          rintro eV6 V6 ⟨p21, c21, rfl, o21, hbV6⟩
          have hzV6 := hbV6.size
          refine ⟨_, rfl, ?_⟩
          replace b3 := (b3.past hbV6)
          replace b2 := (b2.past hbV6)
          refine hKx.out _ _ ⟨b3, b2⟩ ?_
          clear hKx Kx
          refine sxr [15] ?_
          refine rd1 (fun Kx hKx => ?_)
          replace b5 := (b5.past (bthru hbV5 hbV6))
          refine ssk none b5 hT50 0 #[.bool pn, .slice p21 (dig B32 pd).length c21, .int .i64 pp, .bool pex, .bool pov, .bool pun] #[.bool pn, .slice p21 (dig B32 pd).length c21, .int .i64 pp, .bool pex, .bool pov, .bool pun] ?_
          have boV7 := b5
          clear b5
          intro V7 hOV7 b5
          have hzV7 := hOV7.size
          replace b3 := (b3.only hOV7 (by omega))
          replace b2 := (b2.only hOV7 (by omega))
          refine hKx.out _ _ ⟨b3, b2⟩ ?_
          clear hKx Kx
          refine sx_done (by kernel_rfl) ?_
          replace o14 := ((o14.past hbV6).put boV7 hOV7 (by kernel_rfl))
          replace o21 := (o21.put boV7 hOV7 (by kernel_rfl))
          exact ⟨rfl, V3.heap.size, p14, c14, p21, c21, by kernel_rfl, b5, (o14.mono (by omega)), (o21.mono (by omega)), ((bthru (bthru (bthru hbV3 hbV4) hbV5) hbV6).trans (hOV7.below (by omega))), by omega⟩
        rintro _ V3 ⟨kb5, p14, c14, p21, c21, rfl, b5, o14, o21, hbV3, hkb5⟩
        refine hGx _ _ ?_
        clear hGx Gx
        have hzV3 := hbV3.size
        have hlb5 := b5.lt
        refine sx_then ?_
        refine ye ?_
        refine yl 1 rfl 23 b5 hT3 2 ?_
        replace b2 := (b2.past (bthru hbV2 hbV3))
        refine yl 2 rfl 26 b2 hT3 5 ?_
        refine yi 0 rfl 27 (pp - f.g.lo) ?_
        refine yzt 1 ?_
        refine ye ?_
        refine yl 1 rfl 29 b5 hT23 1 ?_
        refine yzt 1 ?_
        refine wp_seq ?_
        refine ye ?_
        refine yl 2 rfl 32 b2 hT3 3 ?_
        refine yb 0 rfl 33 (f.g.rad == 2) (true) (by rw [hr]; rfl) ?_
        refine yzt 0 ?_
        refine yT ?_
        refine ye ?_
        refine ya 1 rfl 35 .i64 ((pp - f.g.lo) + 1) (((e1 : Nat) : Int)) ((by rw [hei]; exact IntWalk.i64_in _ (by omega))) ?_
        refine yzt 1 ?_
        refine wp_seq ?_
        obtain ⟨V4, hVV4, hbV4, hzV4⟩ := drew_of V3
        replace b2 := (b2.past hbV4)
        refine yd1 hVV4 b2 ?_
        clear hVV4
        refine yt 3 [0, 2, 3] rfl b2 ?_
        refine ytl 4 rfl 40 (fun _ h => h) hT3 4 b2 ?_
        refine sxr [1] ?_
        refine rd1 (fun Kx hKx => ?_)
        replace o21 := (o21.past hbV4)
        refine yck 37 (stay (len_any p21 _ c21 pd V4 o21.rd rfl (by omega))) ?_
        rintro eV5 V5 ⟨rfl, hbV5⟩
        have hzV5 := hbV5.size
        refine ⟨_, rfl, ?_⟩
        replace b2 := (b2.past hbV5)
        refine hKx.out _ _ b2 ?_
        clear hKx Kx
        refine tk 5 41 (.bool false) b2 ?_ (hy := fun w' _ => ((show _ = Result.ok (Next.value (.bool (decide (((blen pd : Nat) : Int) < f.g.digs)))) _ from (by kernel_rfl)).trans (congrArg (fun z => Result.ok (Next.value (.bool z)) _) (show (decide (((blen pd : Nat) : Int) < f.g.digs)) = false from decide_eq_false (by omega)))))
        refine sx_done (by kernel_rfl) ?_
        refine sx_then ?_
        refine yF ?_
        refine ye ?_
        refine ylb 1 rfl 43 b2 hT4 8 (f.hid) true (hh) ?_
        refine yzt 0 ?_
        refine yT ?_
        refine sx_region ?_
        refine yl 2 rfl 46 b2 hT3 2 ?_
        refine yc 0 rfl 47 (two_any f.F (2 ^ f.F) _ V5 (by have := G.f2; omega) rfl rfl) (fun Gx hGx => ?_)
        rintro eV6 V6 ⟨p47, c47, rfl, o47, hbV6⟩
        have hzV6 := hbV6.size
        refine ⟨_, rfl, hGx _ _ ?_⟩
        clear hGx Gx
        replace o21 := (o21.past (bthru hbV5 hbV6))
        refine yc 0 rfl 48 (ssub p21 p47 _ _ c21 c47 pd (2 ^ f.F) (pd - 2 ^ f.F) V6 o21.rd o47.rd rfl rfl (by omega) hge rfl) (fun Gx hGx => ?_)
        rintro eV7 V7 ⟨p48, c48, rfl, o48, hbV7⟩
        have hzV7 := hbV7.size
        refine ⟨_, rfl, hGx _ _ ?_⟩
        clear hGx Gx
        refine yz 1 ?_
        refine sx_then ?_
        refine ye ?_
        replace b2 := (b2.past (bthru hbV6 hbV7))
        refine yla 0 rfl 49 b2 hT116 0 ?_
        replace b3 := (b3.past (bthru (bthru (bthru (bthru hbV3 hbV4) hbV5) hbV6) hbV7))
        refine yl 2 rfl 52 b3 hT4 0 ?_
        refine yc 3 rfl 56 ((HJ V7 s e1 (pd - 2 ^ f.F) p48 c48 o48.rd hlt.1 hlt.2).out) (fun Gx hGx => ?_)
        rintro eV8 V8 ⟨rfl, hbV8⟩
        have hzV8 := hbV8.size
        refine ⟨_, rfl, hGx _ _ ?_⟩
        clear hGx Gx
        refine yzt 1 ?_
        refine wp_ret ?_
        repeat (first | with_reducible refine sx_thenret ?_ | with_reducible refine sx_blockret ?_)
        refine yret (.string (strOf (f.str s e1 (pd - 2 ^ f.F)))) (res1 Tryd.results72 rvt) ?_
        exact ⟨rfl, (bthru (bthru (bthru (bthru (bthru (bthru (bthru hbV1 hbV2) hbV3) hbV4) hbV5) hbV6) hbV7) hbV8)⟩
    · rw [if_neg hb] at hlt ⊢
      simp only at hlt ⊢
      have hlo := (hlow hf hb).1
      have h0e : (pp - f.g.lo).toNat = 0 := by omega
      rw [h0e] at hlt ⊢
      have hT3 : SxOne Tryd.prog 3 := sxOne_of (by kernel_rfl) (by kernel_rfl)
      have hT4 : SxOne Tryd.prog 4 := sxOne_of (by kernel_rfl) (by kernel_rfl)
      have hT23 : SxOne Tryd.prog 23 := sxOne_of (by kernel_rfl) (by kernel_rfl)
      have hT29 : SxAgg Tryd.prog 29 5 := sxAgg_of (by kernel_rfl) (by kernel_rfl)
      have hT50 : SxAgg Tryd.prog 50 6 := sxAgg_of (by kernel_rfl) (by kernel_rfl)
      have hT116 : SxAgg Tryd.prog 116 12 := sxAgg_of (by kernel_rfl) (by kernel_rfl)
      refine calls_of_wp Tryd.func72 rfl ?_
      refine sx_frame (a' := ⟨((.agg #[.int .i64 ((f.size : Nat) : Int), .int .i64 ((f.E : Nat) : Int), .int .i64 ((f.F : Nat) : Int), .int .i64 f.g.rad, .int .i64 f.g.digs, .int .i64 f.g.lo, .int .i64 f.g.hi, .bool f.g.grad, .bool f.hid, .bool f.inf, .bool f.res, .func (.func (ordF f)) #[] #[]]) :: (.agg #[.bool s, .slice p (dig B32 m).length c, .int .i64 e]) :: us 55 []).toArray, []⟩) (by kernel_rfl) ?_
      refine ye ?_
      refine yw 0 rfl 2 #[.int .i64 ((f.size : Nat) : Int), .int .i64 ((f.E : Nat) : Int), .int .i64 ((f.F : Nat) : Int), .int .i64 f.g.rad, .int .i64 f.g.digs, .int .i64 f.g.lo, .int .i64 f.g.hi, .bool f.g.grad, .bool f.hid, .bool f.inf, .bool f.res, .func (.func (ordF f)) #[] #[]] 116 (fun V1 hbV1 hzV1 b2 => ?_)
      refine yw 0 rfl 3 #[.bool s, .slice p (dig B32 m).length c, .int .i64 e] 97 (fun V2 hbV2 hzV2 b3 => ?_)
      refine yzt 1 ?_
      refine wp_seq ?_
      refine sx_cutg (R := fun a' w' => ∃ (kb5 : Nat) (p14 : Option Addr) (c14 : Nat) (p21 : Option Addr) (c21 : Nat), a' = ⟨((.agg #[.int .i64 ((f.size : Nat) : Int), .int .i64 ((f.E : Nat) : Int), .int .i64 ((f.F : Nat) : Int), .int .i64 f.g.rad, .int .i64 f.g.digs, .int .i64 f.g.lo, .int .i64 f.g.hi, .bool f.g.grad, .bool f.hid, .bool f.inf, .bool f.res, .func (.func (ordF f)) #[] #[]]) :: (.agg #[.bool s, .slice p (dig B32 m).length c, .int .i64 e]) :: (.pointer (some ⟨w.heap.size, 0, none⟩)) :: (.pointer (some ⟨V1.heap.size, 0, none⟩)) :: (Go.Value.string (ByteArray.mk #[])) :: (.pointer (some ⟨kb5, 0, none⟩)) :: us 2 ((.pointer (some ⟨V1.heap.size, 0, none⟩)) :: (.pointer (some ⟨V1.heap.size, 0, none⟩)) :: (.bool s) :: (.pointer (some ⟨V1.heap.size, 0, none⟩)) :: (.pointer (some ⟨V1.heap.size, 1, none⟩)) :: (.slice p (dig B32 m).length c) :: (.slice p14 (dig B32 1).length c14) :: (.pointer (some ⟨V1.heap.size, 0, none⟩)) :: (.pointer (some ⟨V1.heap.size, 2, none⟩)) :: (.int .i64 e) :: (.agg #[.bool s, .slice p (dig B32 m).length c, .slice p14 (dig B32 1).length c14, .int .i64 e]) :: (.pointer (some ⟨w.heap.size, 3, none⟩)) :: (.agg #[.int .i64 f.g.rad, .int .i64 f.g.digs, .int .i64 f.g.lo, .int .i64 f.g.hi, .bool f.g.grad]) :: (.agg #[.bool pn, .slice p21 (dig B32 pd).length c21, .int .i64 pp, .bool pex, .bool pov, .bool pun]) :: us 35 [])).toArray, []⟩ ∧ Bt w' kb5 50 #[.bool pn, .slice p21 (dig B32 pd).length c21, .int .i64 pp, .bool pex, .bool pov, .bool pun] ∧ Own w' V2.heap.size .u32 91 p14 c14 (dig B32 1) ∧ Own w' V2.heap.size .u32 91 p21 c21 (dig B32 pd) ∧ Below V2.heap.size V2 w' ∧ V2.heap.size ≤ kb5) ?_ (fun Gx hGx => ?_)
      · skip
        replace b2 := (b2.past hbV2)
        obtain ⟨V3, hVV3, hbV3, hzV3⟩ := drew_of V2
        replace b3 := (b3.past hbV3)
        replace b2 := (b2.past hbV3)
        refine yd2 hVV3 ⟨b3, b2⟩ ?_
        clear hVV3
        refine yt 14 [0, 1] rfl ⟨b3, b2⟩ ?_
        refine ytl 2 rfl 10 (fun _ h => h.1) hT4 0 ⟨b3, b2⟩ ?_
        refine yt 11 [3, 4] rfl ⟨b3, b2⟩ ?_
        refine ytl 5 rfl 13 (fun _ h => h.1) hT23 1 ⟨b3, b2⟩ ?_
        refine yt 8 [7, 8] rfl ⟨b3, b2⟩ ?_
        refine ytl 9 rfl 17 (fun _ h => h.1) hT3 2 ⟨b3, b2⟩ ?_
        refine yt 6 [11] rfl ⟨b3, b2⟩ ?_
        refine ytla 12 rfl 20 (fun _ h => h.2) hT29 3 ⟨b3, b2⟩ ?_
        refine sxr [6, 14] ?_
        refine rd2 (fun Kx hKx => ?_) ?_
        · skip
          refine yck 14 (sof 1 1 rfl (by omega) V3) ?_
          rintro eV4 V4 ⟨p14, c14, rfl, o14, hbV4⟩
          have hzV4 := hbV4.size
          refine ⟨_, rfl, ?_⟩
          replace b3 := (b3.past hbV4)
          replace b2 := (b2.past hbV4)
          refine hKx.out _ _ ⟨b3, b2⟩ ?_
          clear hKx Kx
          refine yt 3 [10] rfl ⟨b3, b2⟩ ?_
          refine sxr [13, 14] ?_
          refine rd2 (fun Kx hKx => ?_) ?_
          · skip
            replace hp := (hp.past (bthru (bthru (bthru hbV1 hbV2) hbV3) hbV4))
            refine yck 21 ((HF V4 p14 c14 hp o14.rd).out) ?_
            rintro eV5 V5 ⟨p21, c21, rfl, o21, hbV5⟩
            have hzV5 := hbV5.size
            refine ⟨_, rfl, ?_⟩
            replace b3 := (b3.past hbV5)
            replace b2 := (b2.past hbV5)
            refine hKx.out _ _ ⟨b3, b2⟩ ?_
            clear hKx Kx
            refine sxr [14] ?_
            refine rd1 (fun Kx hKx => ?_)
            refine snk 5 #[.bool false, .slice none 0 0, .int .i64 0, .bool false, .bool false, .bool false] 50 (fun V6 hbV6 hzV6 b5 => ?_)
            replace b3 := (b3.past hbV6)
            replace b2 := (b2.past hbV6)
            refine hKx.out _ _ ⟨b3, b2⟩ ?_
            clear hKx Kx
            refine sxr [15] ?_
            refine rd1 (fun Kx hKx => ?_)
            refine ssk none b5 hT50 0 #[.bool pn, .slice p21 (dig B32 pd).length c21, .int .i64 pp, .bool pex, .bool pov, .bool pun] #[.bool pn, .slice p21 (dig B32 pd).length c21, .int .i64 pp, .bool pex, .bool pov, .bool pun] ?_
            have boV7 := b5
            clear b5
            intro V7 hOV7 b5
            have hzV7 := hOV7.size
            replace b3 := (b3.only hOV7 (by omega))
            replace b2 := (b2.only hOV7 (by omega))
            refine hKx.out _ _ ⟨b3, b2⟩ ?_
            clear hKx Kx
            refine sx_done (by kernel_rfl) ?_
            replace o14 := (o14.past ((bthru hbV5 hbV6).trans (hOV7.below (by omega))))
            replace o21 := (o21.past (hbV6.trans (hOV7.below (by omega))))
            exact ⟨rfl, V5.heap.size, p14, c14, p21, c21, by kernel_rfl, b5, (o14.mono (by omega)), (o21.mono (by omega)), ((bthru (bthru (bthru hbV3 hbV4) hbV5) hbV6).trans (hOV7.below (by omega))), by omega⟩
          refine rd1 (fun Kx hKx => ?_)
          refine snk 5 #[.bool false, .slice none 0 0, .int .i64 0, .bool false, .bool false, .bool false] 50 (fun V5 hbV5 hzV5 b5 => ?_)
          replace b3 := (b3.past hbV5)
          replace b2 := (b2.past hbV5)
          refine hKx.out _ _ ⟨b3, b2⟩ ?_
          clear hKx Kx
          refine sxr [13] ?_
          refine rd1 (fun Kx hKx => ?_)
          replace hp := (hp.past (bthru (bthru (bthru (bthru hbV1 hbV2) hbV3) hbV4) hbV5))
          replace o14 := (o14.past hbV5)
          refine yck 21 ((HF V5 p14 c14 hp o14.rd).out) ?_
          rintro eV6 V6 ⟨p21, c21, rfl, o21, hbV6⟩
          have hzV6 := hbV6.size
          refine ⟨_, rfl, ?_⟩
          replace b3 := (b3.past hbV6)
          replace b2 := (b2.past hbV6)
          refine hKx.out _ _ ⟨b3, b2⟩ ?_
          clear hKx Kx
          refine sxr [15] ?_
          refine rd1 (fun Kx hKx => ?_)
          replace b5 := (b5.past hbV6)
          refine ssk none b5 hT50 0 #[.bool pn, .slice p21 (dig B32 pd).length c21, .int .i64 pp, .bool pex, .bool pov, .bool pun] #[.bool pn, .slice p21 (dig B32 pd).length c21, .int .i64 pp, .bool pex, .bool pov, .bool pun] ?_
          have boV7 := b5
          clear b5
          intro V7 hOV7 b5
          have hzV7 := hOV7.size
          replace b3 := (b3.only hOV7 (by omega))
          replace b2 := (b2.only hOV7 (by omega))
          refine hKx.out _ _ ⟨b3, b2⟩ ?_
          clear hKx Kx
          refine sx_done (by kernel_rfl) ?_
          replace o14 := ((o14.past hbV6).put boV7 hOV7 (by kernel_rfl))
          replace o21 := (o21.put boV7 hOV7 (by kernel_rfl))
          exact ⟨rfl, V4.heap.size, p14, c14, p21, c21, by kernel_rfl, b5, (o14.mono (by omega)), (o21.mono (by omega)), ((bthru (bthru (bthru hbV3 hbV4) hbV5) hbV6).trans (hOV7.below (by omega))), by omega⟩
        refine rd1 (fun Kx hKx => ?_)
        refine snk 5 #[.bool false, .slice none 0 0, .int .i64 0, .bool false, .bool false, .bool false] 50 (fun V4 hbV4 hzV4 b5 => ?_)
        replace b3 := (b3.past hbV4)
        replace b2 := (b2.past hbV4)
        refine hKx.out _ _ ⟨b3, b2⟩ ?_
        clear hKx Kx
        refine sxr [6] ?_
        refine rd1 (fun Kx hKx => ?_)
        refine yck 14 (sof 1 1 rfl (by omega) V4) ?_
        rintro eV5 V5 ⟨p14, c14, rfl, o14, hbV5⟩
        have hzV5 := hbV5.size
        refine ⟨_, rfl, ?_⟩
        replace b3 := (b3.past hbV5)
        replace b2 := (b2.past hbV5)
        refine hKx.out _ _ ⟨b3, b2⟩ ?_
        clear hKx Kx
        refine yt 2 [10] rfl ⟨b3, b2⟩ ?_
        refine sxr [13] ?_
        refine rd1 (fun Kx hKx => ?_)
        replace hp := (hp.past (bthru (bthru (bthru (bthru hbV1 hbV2) hbV3) hbV4) hbV5))
        refine yck 21 ((HF V5 p14 c14 hp o14.rd).out) ?_
        rintro eV6 V6 ⟨p21, c21, rfl, o21, hbV6⟩
        have hzV6 := hbV6.size
        refine ⟨_, rfl, ?_⟩
        replace b3 := (b3.past hbV6)
        replace b2 := (b2.past hbV6)
        refine hKx.out _ _ ⟨b3, b2⟩ ?_
        clear hKx Kx
        refine sxr [15] ?_
        refine rd1 (fun Kx hKx => ?_)
        replace b5 := (b5.past (bthru hbV5 hbV6))
        refine ssk none b5 hT50 0 #[.bool pn, .slice p21 (dig B32 pd).length c21, .int .i64 pp, .bool pex, .bool pov, .bool pun] #[.bool pn, .slice p21 (dig B32 pd).length c21, .int .i64 pp, .bool pex, .bool pov, .bool pun] ?_
        have boV7 := b5
        clear b5
        intro V7 hOV7 b5
        have hzV7 := hOV7.size
        replace b3 := (b3.only hOV7 (by omega))
        replace b2 := (b2.only hOV7 (by omega))
        refine hKx.out _ _ ⟨b3, b2⟩ ?_
        clear hKx Kx
        refine sx_done (by kernel_rfl) ?_
        replace o14 := ((o14.past hbV6).put boV7 hOV7 (by kernel_rfl))
        replace o21 := (o21.put boV7 hOV7 (by kernel_rfl))
        exact ⟨rfl, V3.heap.size, p14, c14, p21, c21, by kernel_rfl, b5, (o14.mono (by omega)), (o21.mono (by omega)), ((bthru (bthru (bthru hbV3 hbV4) hbV5) hbV6).trans (hOV7.below (by omega))), by omega⟩
      rintro _ V3 ⟨kb5, p14, c14, p21, c21, rfl, b5, o14, o21, hbV3, hkb5⟩
      refine hGx _ _ ?_
      clear hGx Gx
      have hzV3 := hbV3.size
      have hlb5 := b5.lt
      refine sx_then ?_
      refine ye ?_
      refine yl 1 rfl 23 b5 hT3 2 ?_
      replace b2 := (b2.past (bthru hbV2 hbV3))
      refine yl 2 rfl 26 b2 hT3 5 ?_
      refine yi 0 rfl 27 (pp - f.g.lo) ?_
      refine yzt 1 ?_
      refine ye ?_
      refine yl 1 rfl 29 b5 hT23 1 ?_
      refine yzt 1 ?_
      refine wp_seq ?_
      refine ye ?_
      refine yl 2 rfl 32 b2 hT3 3 ?_
      refine yb 0 rfl 33 (f.g.rad == 2) (true) (by rw [hr]; rfl) ?_
      refine yzt 0 ?_
      refine yT ?_
      refine ye ?_
      refine yi 1 rfl 35 ((pp - f.g.lo) + 1) ?_
      refine yzt 1 ?_
      refine wp_seq ?_
      obtain ⟨V4, hVV4, hbV4, hzV4⟩ := drew_of V3
      replace b2 := (b2.past hbV4)
      refine yd1 hVV4 b2 ?_
      clear hVV4
      refine yt 3 [0, 2, 3] rfl b2 ?_
      refine ytl 4 rfl 40 (fun _ h => h) hT3 4 b2 ?_
      refine sxr [1] ?_
      refine rd1 (fun Kx hKx => ?_)
      replace o21 := (o21.past hbV4)
      refine yck 37 (stay (len_any p21 _ c21 pd V4 o21.rd rfl (by omega))) ?_
      rintro eV5 V5 ⟨rfl, hbV5⟩
      have hzV5 := hbV5.size
      refine ⟨_, rfl, ?_⟩
      replace b2 := (b2.past hbV5)
      refine hKx.out _ _ b2 ?_
      clear hKx Kx
      refine tk 5 41 (.bool true) b2 ?_ (hy := fun w' _ => ((show _ = Result.ok (Next.value (.bool (decide (((blen pd : Nat) : Int) < f.g.digs)))) _ from (by kernel_rfl)).trans (congrArg (fun z => Result.ok (Next.value (.bool z)) _) (show (decide (((blen pd : Nat) : Int) < f.g.digs)) = true from decide_eq_true (by omega)))))
      refine sx_done (by kernel_rfl) ?_
      refine sx_then ?_
      refine yT ?_
      refine yr ?_
      refine sx_then ?_
      refine ye ?_
      refine yla 0 rfl 49 b2 hT116 0 ?_
      replace b3 := (b3.past (bthru (bthru hbV3 hbV4) hbV5))
      refine yl 2 rfl 52 b3 hT4 0 ?_
      replace o21 := (o21.past hbV5)
      refine yc 3 rfl 56 (join_int f s 0 0 pd rfl p21 c21 V5 G o21.rd hlt.1 hlt.2) (fun Gx hGx => ?_)
      rintro eV6 V6 ⟨rfl, hbV6⟩
      have hzV6 := hbV6.size
      refine ⟨_, rfl, hGx _ _ ?_⟩
      clear hGx Gx
      refine yzt 1 ?_
      refine wp_ret ?_
      repeat (first | with_reducible refine sx_thenret ?_ | with_reducible refine sx_blockret ?_)
      refine yret (.string (strOf (f.str s 0 pd))) (res1 Tryd.results72 rvt) ?_
      exact ⟨rfl, (bthru (bthru (bthru (bthru (bthru hbV1 hbV2) hbV3) hbV4) hbV5) hbV6)⟩
end Go.Proofs.YtcipdimogodndaaDoor

namespace Go.Proofs.YtcipdimogodndaaDoor
open Go.RowKit Go.Slip

theorem cmpN_zero {a b : Nat} (h : cmpN a b = 0) : a = b := by
  unfold cmpN at h
  split at h
  · omega
  · split at h <;> omega
theorem tz_bdn {n : Nat} (x : Nat) (hl : (dig B32 x).length ≤ n) : tz x ≤ 32 * n := by
  rcases Nat.eq_zero_or_pos x with h | h
  · rw [h, tz_zero]; omega
  · have h1 := (tz_spec x h).1
    have h2 := (dig_len_le B32_two x n).1 hl
    have h3 : 2 ^ tz x ≤ x := by
      have : 0 < x / 2 ^ tz x := by
        rcases Nat.eq_zero_or_pos (x / 2 ^ tz x) with h4 | h4
        · rw [h4, Nat.mul_zero] at h1; omega
        · exact h4
      have h5 := Nat.mul_le_mul_left (2 ^ tz x) this
      omega
    rw [show B32 = 2 ^ 32 from rfl, ← Nat.pow_mul] at h2
    have h6 := (Nat.pow_lt_pow_iff_right (a := 2) (by omega)).1 (Nat.lt_of_le_of_lt h3 h2)
    omega
theorem tz_bd (x : Nat) (hl : (dig B32 x).length ≤ 1000) : tz x ≤ 32000 := tz_bdn x hl

def GivesC (w : World) (base : Nat) (d : Dc) (en : Ending) (w' : World) : Prop :=
  ∃ p c, en = .returned (.tuple #[.int .i64 ((d.cls : Nat) : Int), .slice p (dig B32 d.m).length c, .int .i64 d.p]) ∧ Own w' base .u32 91 p c (dig B32 d.m) ∧ Below w.heap.size w w'

theorem givesC_none {w w' : World} {base : Nat} {k : Nat} {en : Ending} (h : en = .returned (.tuple #[.int .i64 ((k : Nat) : Int), .slice none 0 0, .int .i64 0])) (hb : Below w.heap.size w w') : GivesC w base ⟨k, 0, 0⟩ en w' := by
  refine ⟨none, 0, ?_, ?_, hb⟩
  · rw [h, dig_zero]; rfl
  · rw [dig_zero]; exact Own.nil _ _ _ _

set_option maxRecDepth 100000 in
theorem value_any (f : Fm) (g : Bool) (e x : Nat) (p : Option Addr) (c base : Nat) (w : World) (G : GoodF f) (hp : Own w base .u32 91 p c (dig B32 x)) (hb : base ≤ w.heap.size) (he : e < 2 ^ f.E) (hx : x < 2 ^ f.F) :
    Calls Tryd.prog 107 #[.agg #[.int .i64 ((f.size : Nat) : Int), .int .i64 ((f.E : Nat) : Int), .int .i64 ((f.F : Nat) : Int), .int .i64 f.g.rad, .int .i64 f.g.digs, .int .i64 f.g.lo, .int .i64 f.g.hi, .bool f.g.grad, .bool f.hid, .bool f.inf, .bool f.res, .func (.func (ordF f)) #[] #[]], .agg #[.bool g, .int .i64 ((e : Nat) : Int), .slice p (dig B32 x).length c]] w (GivesC w base (f.dec g e x)) := by
  have z2 := G.e2
  have z3 := G.f2
  have z4 := G.lo
  have hxl := dig_le_pow hx (k := 2) (by omega)
  have hx0 := dig_len_zero B32_two x
  have h0T : 0 < 2 ^ f.E := Nat.pow_pos (by omega)
  have h0T2 : 2 ^ f.E ≤ 2 ^ 15 := Nat.pow_le_pow_right (by omega) (by omega)
  have HSH := Lib.hid (shl_one (E := f.E) (by omega))
  by_cases f2 : f.fam = 2
  · have hD : f.dec g e x = ⟨2, x, f.g.lo + e⟩ := by unfold Fm.dec; rw [if_pos f2]
    rw [hD]
    generalize 2 ^ f.E = P at *
    have r1 := G.rad
    rw [if_pos f2] at r1
    have hT3 : SxOne Tryd.prog 3 := sxOne_of (by kernel_rfl) (by kernel_rfl)
    have hT23 : SxOne Tryd.prog 23 := sxOne_of (by kernel_rfl) (by kernel_rfl)
    refine calls_of_wp Tryd.func107 rfl ?_
    refine sx_frame (a' := ⟨((.agg #[.int .i64 ((f.size : Nat) : Int), .int .i64 ((f.E : Nat) : Int), .int .i64 ((f.F : Nat) : Int), .int .i64 f.g.rad, .int .i64 f.g.digs, .int .i64 f.g.lo, .int .i64 f.g.hi, .bool f.g.grad, .bool f.hid, .bool f.inf, .bool f.res, .func (.func (ordF f)) #[] #[]]) :: (.agg #[.bool g, .int .i64 ((e : Nat) : Int), .slice p (dig B32 x).length c]) :: us 97 []).toArray, []⟩) (by kernel_rfl) ?_
    refine ye ?_
    refine yw 0 rfl 2 #[.int .i64 ((f.size : Nat) : Int), .int .i64 ((f.E : Nat) : Int), .int .i64 ((f.F : Nat) : Int), .int .i64 f.g.rad, .int .i64 f.g.digs, .int .i64 f.g.lo, .int .i64 f.g.hi, .bool f.g.grad, .bool f.hid, .bool f.inf, .bool f.res, .func (.func (ordF f)) #[] #[]] 116 (fun V1 hbV1 hzV1 b2 => ?_)
    refine yw 0 rfl 3 #[.bool g, .int .i64 ((e : Nat) : Int), .slice p (dig B32 x).length c] 137 (fun V2 hbV2 hzV2 b3 => ?_)
    refine yzt 3 ?_
    refine ye ?_
    replace b2 := (b2.past hbV2)
    refine yl 1 rfl 10 b2 hT3 1 ?_
    refine yv 0 rfl 11 (.int .i64 ((P : Nat) : Int)) ?_ (exec_shl (X := (1)) (Y := ((f.E : Nat) : Int)) (k2 := .i64) ((P : Nat) : Int) (by kernel_rfl) (by kernel_rfl) (by omega) ((HSH.out)))
    refine ya 0 rfl 12 .i64 (((P : Nat) : Int) - 1) (((P - 1 : Nat) : Int)) ((by rw [show (((P : Nat) : Int) - 1) = ((P - 1 : Nat) : Int) by omega]; exact IntWalk.i64_in _ (by omega))) ?_
    refine yzt 1 ?_
    refine ye ?_
    refine yl 2 rfl 15 b2 hT3 5 ?_
    refine yzt 1 ?_
    refine wp_seq ?_
    refine wp_block ?_
    refine ye ?_
    refine yl 2 rfl 19 b2 hT3 3 ?_
    refine yb 0 rfl 20 (f.g.rad == 16) (true) (beq_iff_eq.2 r1) ?_
    refine yzt 1 ?_
    refine yT ?_
    refine wp_seq ?_
    obtain ⟨V3, hVV3, hbV3, hzV3⟩ := drew_of V2
    replace b3 := (b3.past hbV3)
    refine yd1 hVV3 b3 ?_
    clear hVV3
    refine yt 8 [0] rfl b3 ?_
    refine ytl 1 rfl 22 (fun _ h => h) hT23 2 b3 ?_
    refine yt 5 [2, 3] rfl b3 ?_
    refine ytl 4 rfl 25 (fun _ h => h) hT3 1 b3 ?_
    refine tk 5 26 (.int .i64 (f.g.lo + ((e : Nat) : Int))) b3 ?_ (hy := fun w' _ => ((show _ = Result.ok (Next.value (.int .i64 (IntKind.wrap .i64 (f.g.lo + ((e : Nat) : Int))))) _ by kernel_rfl).trans (congrArg (fun z => Result.ok (Next.value (.int .i64 z)) _) (IntWalk.i64_in _ (by omega)))))
    refine yt 0 [6, 7, 8] rfl b3 ?_
    refine sx_done (by kernel_rfl) ?_
    refine sx_then ?_
    refine wp_ret ?_
    repeat (first | with_reducible refine sx_thenret ?_ | with_reducible refine sx_blockret ?_)
    refine yret (.tuple #[.int .i64 2, .slice p (dig B32 x).length c, .int .i64 (f.g.lo + ((e : Nat) : Int))]) (res3 Tryd.results107 rvt rvt rvt) ?_
    replace hp := (hp.past (bthru (bthru hbV1 hbV2) hbV3))
    exact ⟨p, c, rfl, hp, (bthru (bthru hbV1 hbV2) hbV3)⟩
  · have r1 := G.rad
    rw [if_neg f2] at r1
    have hr : (f.g.rad == 16) = false := by rw [r1]; rfl
    by_cases f1 : f.fam = 1
    · have hinf : f.inf = true := by unfold Fm.inf; rw [f1]; rfl
      have hres : f.res = false := by unfold Fm.res; rw [f1]; rfl
      by_cases hl : e = 2 ^ f.E - 1
      · by_cases hex : f.ext = false
        · have hhid : f.hid = true := by unfold Fm.hid; rw [f1, hex]; rfl
          by_cases h0 : x = 0
          · have hD : f.dec g e x = ⟨3, 0, 0⟩ := by unfold Fm.dec; rw [if_neg f2, if_pos ⟨f1, hl⟩, if_pos (.inl ⟨hex, h0⟩)]
            rw [hD]
            generalize 2 ^ f.E = P at *
            have hT3 : SxOne Tryd.prog 3 := sxOne_of (by kernel_rfl) (by kernel_rfl)
            have hT4 : SxOne Tryd.prog 4 := sxOne_of (by kernel_rfl) (by kernel_rfl)
            have hT23 : SxOne Tryd.prog 23 := sxOne_of (by kernel_rfl) (by kernel_rfl)
            refine calls_of_wp Tryd.func107 rfl ?_
            refine sx_frame (a' := ⟨((.agg #[.int .i64 ((f.size : Nat) : Int), .int .i64 ((f.E : Nat) : Int), .int .i64 ((f.F : Nat) : Int), .int .i64 f.g.rad, .int .i64 f.g.digs, .int .i64 f.g.lo, .int .i64 f.g.hi, .bool f.g.grad, .bool f.hid, .bool f.inf, .bool f.res, .func (.func (ordF f)) #[] #[]]) :: (.agg #[.bool g, .int .i64 ((e : Nat) : Int), .slice p (dig B32 x).length c]) :: us 97 []).toArray, []⟩) (by kernel_rfl) ?_
            refine ye ?_
            refine yw 0 rfl 2 #[.int .i64 ((f.size : Nat) : Int), .int .i64 ((f.E : Nat) : Int), .int .i64 ((f.F : Nat) : Int), .int .i64 f.g.rad, .int .i64 f.g.digs, .int .i64 f.g.lo, .int .i64 f.g.hi, .bool f.g.grad, .bool f.hid, .bool f.inf, .bool f.res, .func (.func (ordF f)) #[] #[]] 116 (fun V1 hbV1 hzV1 b2 => ?_)
            refine yw 0 rfl 3 #[.bool g, .int .i64 ((e : Nat) : Int), .slice p (dig B32 x).length c] 137 (fun V2 hbV2 hzV2 b3 => ?_)
            refine yzt 3 ?_
            refine ye ?_
            replace b2 := (b2.past hbV2)
            refine yl 1 rfl 10 b2 hT3 1 ?_
            refine yv 0 rfl 11 (.int .i64 ((P : Nat) : Int)) ?_ (exec_shl (X := (1)) (Y := ((f.E : Nat) : Int)) (k2 := .i64) ((P : Nat) : Int) (by kernel_rfl) (by kernel_rfl) (by omega) ((HSH.out)))
            refine ya 0 rfl 12 .i64 (((P : Nat) : Int) - 1) (((P - 1 : Nat) : Int)) ((by rw [show (((P : Nat) : Int) - 1) = ((P - 1 : Nat) : Int) by omega]; exact IntWalk.i64_in _ (by omega))) ?_
            refine yzt 1 ?_
            refine ye ?_
            refine yl 2 rfl 15 b2 hT3 5 ?_
            refine yzt 1 ?_
            refine wp_seq ?_
            refine wp_block ?_
            refine ye ?_
            refine yl 2 rfl 19 b2 hT3 3 ?_
            refine yb 0 rfl 20 (f.g.rad == 16) (false) (hr) ?_
            refine yzt 1 ?_
            refine yF ?_
            refine ye ?_
            refine ylb 1 rfl 29 b2 hT4 9 (f.inf) true (hinf) ?_
            refine yl 2 rfl 32 b3 hT3 1 ?_
            refine yb 1 rfl 34 (((e : Nat) : Int) == ((P - 1 : Nat) : Int)) (true) (beq_iff_eq.2 (by omega)) ?_
            refine yzt 2 ?_
            refine yT ?_
            refine wp_seq ?_
            refine wp_seq ?_
            obtain ⟨V3, hVV3, hbV3, hzV3⟩ := drew_of V2
            replace b2 := (b2.past hbV3)
            replace b3 := (b3.past hbV3)
            refine yd2 hVV3 ⟨b2, b3⟩ ?_
            clear hVV3
            refine yt 19 [0] rfl ⟨b2, b3⟩ ?_
            refine tk 1 37 (.bool true) ⟨b2, b3⟩ ?_ (hy := fun w' hS => ((show _ = Result.ok (Next.value (.bool (f.hid))) _ from (exec_ld (by kernel_rfl) (run_ld1 hS.1 hT4 8 (.bool f.hid) (by kernel_rfl)))).trans (congrArg (fun z => Result.ok (Next.value (.bool z)) _) (show (f.hid) = true from hhid))))
            refine yt 16 [2, 3] rfl ⟨b2, b3⟩ ?_
            refine ytl 4 rfl 40 (fun _ h => h.2) hT23 2 ⟨b2, b3⟩ ?_
            refine yt 14 [5] rfl ⟨b2, b3⟩ ?_
            refine tk 6 42 (.bool true) ⟨b2, b3⟩ ?_ (hy := fun w' _ => ((show _ = Result.ok (Next.value (.bool ((((dig B32 x).length : Nat) : Int) == 0))) _ from (by kernel_rfl)).trans (congrArg (fun z => Result.ok (Next.value (.bool z)) _) (show ((((dig B32 x).length : Nat) : Int) == 0) = true from beq_iff_eq.2 (by omega)))))
            refine yt 0 [7, 8, 9, 10, 11, 12, 13, 14, 15, 16, 17, 18, 19] rfl ⟨b2, b3⟩ ?_
            refine sx_done (by kernel_rfl) ?_
            refine sx_then ?_
            refine yT ?_
            refine yq ?_
            refine wp_ret ?_
            repeat (first | with_reducible refine sx_thenret ?_ | with_reducible refine sx_blockret ?_)
            refine yret (.tuple #[.int .i64 3, .slice none 0 0, .int .i64 0]) (res3 Tryd.results107 rvt rvt rvt) ?_
            exact givesC_none (k := 3) rfl (bthru (bthru hbV1 hbV2) hbV3)
          · have hD : f.dec g e x = ⟨4, 0, 0⟩ := by unfold Fm.dec; rw [if_neg f2, if_pos ⟨f1, hl⟩, if_neg (by simp [hex, h0])]
            rw [hD]
            generalize 2 ^ f.E = P at *
            have hT3 : SxOne Tryd.prog 3 := sxOne_of (by kernel_rfl) (by kernel_rfl)
            have hT4 : SxOne Tryd.prog 4 := sxOne_of (by kernel_rfl) (by kernel_rfl)
            have hT23 : SxOne Tryd.prog 23 := sxOne_of (by kernel_rfl) (by kernel_rfl)
            refine calls_of_wp Tryd.func107 rfl ?_
            refine sx_frame (a' := ⟨((.agg #[.int .i64 ((f.size : Nat) : Int), .int .i64 ((f.E : Nat) : Int), .int .i64 ((f.F : Nat) : Int), .int .i64 f.g.rad, .int .i64 f.g.digs, .int .i64 f.g.lo, .int .i64 f.g.hi, .bool f.g.grad, .bool f.hid, .bool f.inf, .bool f.res, .func (.func (ordF f)) #[] #[]]) :: (.agg #[.bool g, .int .i64 ((e : Nat) : Int), .slice p (dig B32 x).length c]) :: us 97 []).toArray, []⟩) (by kernel_rfl) ?_
            refine ye ?_
            refine yw 0 rfl 2 #[.int .i64 ((f.size : Nat) : Int), .int .i64 ((f.E : Nat) : Int), .int .i64 ((f.F : Nat) : Int), .int .i64 f.g.rad, .int .i64 f.g.digs, .int .i64 f.g.lo, .int .i64 f.g.hi, .bool f.g.grad, .bool f.hid, .bool f.inf, .bool f.res, .func (.func (ordF f)) #[] #[]] 116 (fun V1 hbV1 hzV1 b2 => ?_)
            refine yw 0 rfl 3 #[.bool g, .int .i64 ((e : Nat) : Int), .slice p (dig B32 x).length c] 137 (fun V2 hbV2 hzV2 b3 => ?_)
            refine yzt 3 ?_
            refine ye ?_
            replace b2 := (b2.past hbV2)
            refine yl 1 rfl 10 b2 hT3 1 ?_
            refine yv 0 rfl 11 (.int .i64 ((P : Nat) : Int)) ?_ (exec_shl (X := (1)) (Y := ((f.E : Nat) : Int)) (k2 := .i64) ((P : Nat) : Int) (by kernel_rfl) (by kernel_rfl) (by omega) ((HSH.out)))
            refine ya 0 rfl 12 .i64 (((P : Nat) : Int) - 1) (((P - 1 : Nat) : Int)) ((by rw [show (((P : Nat) : Int) - 1) = ((P - 1 : Nat) : Int) by omega]; exact IntWalk.i64_in _ (by omega))) ?_
            refine yzt 1 ?_
            refine ye ?_
            refine yl 2 rfl 15 b2 hT3 5 ?_
            refine yzt 1 ?_
            refine wp_seq ?_
            refine wp_block ?_
            refine ye ?_
            refine yl 2 rfl 19 b2 hT3 3 ?_
            refine yb 0 rfl 20 (f.g.rad == 16) (false) (hr) ?_
            refine yzt 1 ?_
            refine yF ?_
            refine ye ?_
            refine ylb 1 rfl 29 b2 hT4 9 (f.inf) true (hinf) ?_
            refine yl 2 rfl 32 b3 hT3 1 ?_
            refine yb 1 rfl 34 (((e : Nat) : Int) == ((P - 1 : Nat) : Int)) (true) (beq_iff_eq.2 (by omega)) ?_
            refine yzt 2 ?_
            refine yT ?_
            refine wp_seq ?_
            refine wp_seq ?_
            obtain ⟨V3, hVV3, hbV3, hzV3⟩ := drew_of V2
            replace b2 := (b2.past hbV3)
            replace b3 := (b3.past hbV3)
            refine yd2 hVV3 ⟨b2, b3⟩ ?_
            clear hVV3
            refine yt 19 [0] rfl ⟨b2, b3⟩ ?_
            refine tk 1 37 (.bool true) ⟨b2, b3⟩ ?_ (hy := fun w' hS => ((show _ = Result.ok (Next.value (.bool (f.hid))) _ from (exec_ld (by kernel_rfl) (run_ld1 hS.1 hT4 8 (.bool f.hid) (by kernel_rfl)))).trans (congrArg (fun z => Result.ok (Next.value (.bool z)) _) (show (f.hid) = true from hhid))))
            refine yt 16 [2, 3] rfl ⟨b2, b3⟩ ?_
            refine ytl 4 rfl 40 (fun _ h => h.2) hT23 2 ⟨b2, b3⟩ ?_
            refine yt 14 [5] rfl ⟨b2, b3⟩ ?_
            refine tk 6 42 (.bool false) ⟨b2, b3⟩ ?_ (hy := fun w' _ => ((show _ = Result.ok (Next.value (.bool ((((dig B32 x).length : Nat) : Int) == 0))) _ from (by kernel_rfl)).trans (congrArg (fun z => Result.ok (Next.value (.bool z)) _) (show ((((dig B32 x).length : Nat) : Int) == 0) = false from beq_eq_false_iff_ne.2 (by omega)))))
            refine yt 10 [7, 8, 9] rfl ⟨b2, b3⟩ ?_
            refine tk 10 46 (.bool true) ⟨b2, b3⟩ ?_ (hy := fun w' hS => ((show _ = Result.ok (Next.value (.bool (f.hid))) _ from (exec_ld (by kernel_rfl) (run_ld1 hS.1 hT4 8 (.bool f.hid) (by kernel_rfl)))).trans (congrArg (fun z => Result.ok (Next.value (.bool z)) _) (show (f.hid) = true from hhid))))
            refine yt 0 [11, 12, 13, 14, 15, 16, 17, 18, 19] rfl ⟨b2, b3⟩ ?_
            refine sx_done (by kernel_rfl) ?_
            refine sx_then ?_
            refine yF ?_
            refine wp_skip ?_
            refine sx_then ?_
            refine yq ?_
            refine wp_ret ?_
            repeat (first | with_reducible refine sx_thenret ?_ | with_reducible refine sx_blockret ?_)
            refine yret (.tuple #[.int .i64 4, .slice none 0 0, .int .i64 0]) (res3 Tryd.results107 rvt rvt rvt) ?_
            exact givesC_none (k := 4) rfl (bthru (bthru hbV1 hbV2) hbV3)
        · have hex : f.ext = true := by simpa using hex
          have hhid : f.hid = false := by unfold Fm.hid; rw [f1, hex]; rfl
          have hl63 : (dig B32 (2 ^ 63)).length ≤ 2 := dig_le_pow (n := 64) (by omega) (by omega)
          by_cases h0 : x = 2 ^ 63
          · have hD : f.dec g e x = ⟨3, 0, 0⟩ := by unfold Fm.dec; rw [if_neg f2, if_pos ⟨f1, hl⟩, if_pos (.inr ⟨hex, h0⟩)]
            have hcm : cmpN x (2 ^ 63) = 0 := by rw [h0]; unfold cmpN; simp
            rw [hD]
            generalize 2 ^ f.E = P at *
            have hT3 : SxOne Tryd.prog 3 := sxOne_of (by kernel_rfl) (by kernel_rfl)
            have hT4 : SxOne Tryd.prog 4 := sxOne_of (by kernel_rfl) (by kernel_rfl)
            have hT23 : SxOne Tryd.prog 23 := sxOne_of (by kernel_rfl) (by kernel_rfl)
            refine calls_of_wp Tryd.func107 rfl ?_
            refine sx_frame (a' := ⟨((.agg #[.int .i64 ((f.size : Nat) : Int), .int .i64 ((f.E : Nat) : Int), .int .i64 ((f.F : Nat) : Int), .int .i64 f.g.rad, .int .i64 f.g.digs, .int .i64 f.g.lo, .int .i64 f.g.hi, .bool f.g.grad, .bool f.hid, .bool f.inf, .bool f.res, .func (.func (ordF f)) #[] #[]]) :: (.agg #[.bool g, .int .i64 ((e : Nat) : Int), .slice p (dig B32 x).length c]) :: us 97 []).toArray, []⟩) (by kernel_rfl) ?_
            refine ye ?_
            refine yw 0 rfl 2 #[.int .i64 ((f.size : Nat) : Int), .int .i64 ((f.E : Nat) : Int), .int .i64 ((f.F : Nat) : Int), .int .i64 f.g.rad, .int .i64 f.g.digs, .int .i64 f.g.lo, .int .i64 f.g.hi, .bool f.g.grad, .bool f.hid, .bool f.inf, .bool f.res, .func (.func (ordF f)) #[] #[]] 116 (fun V1 hbV1 hzV1 b2 => ?_)
            refine yw 0 rfl 3 #[.bool g, .int .i64 ((e : Nat) : Int), .slice p (dig B32 x).length c] 137 (fun V2 hbV2 hzV2 b3 => ?_)
            refine yzt 3 ?_
            refine ye ?_
            replace b2 := (b2.past hbV2)
            refine yl 1 rfl 10 b2 hT3 1 ?_
            refine yv 0 rfl 11 (.int .i64 ((P : Nat) : Int)) ?_ (exec_shl (X := (1)) (Y := ((f.E : Nat) : Int)) (k2 := .i64) ((P : Nat) : Int) (by kernel_rfl) (by kernel_rfl) (by omega) ((HSH.out)))
            refine ya 0 rfl 12 .i64 (((P : Nat) : Int) - 1) (((P - 1 : Nat) : Int)) ((by rw [show (((P : Nat) : Int) - 1) = ((P - 1 : Nat) : Int) by omega]; exact IntWalk.i64_in _ (by omega))) ?_
            refine yzt 1 ?_
            refine ye ?_
            refine yl 2 rfl 15 b2 hT3 5 ?_
            refine yzt 1 ?_
            refine wp_seq ?_
            refine wp_block ?_
            refine ye ?_
            refine yl 2 rfl 19 b2 hT3 3 ?_
            refine yb 0 rfl 20 (f.g.rad == 16) (false) (hr) ?_
            refine yzt 1 ?_
            refine yF ?_
            refine ye ?_
            refine ylb 1 rfl 29 b2 hT4 9 (f.inf) true (hinf) ?_
            refine yl 2 rfl 32 b3 hT3 1 ?_
            refine yb 1 rfl 34 (((e : Nat) : Int) == ((P - 1 : Nat) : Int)) (true) (beq_iff_eq.2 (by omega)) ?_
            refine yzt 2 ?_
            refine yT ?_
            refine wp_seq ?_
            refine wp_seq ?_
            obtain ⟨V3, hVV3, hbV3, hzV3⟩ := drew_of V2
            replace b2 := (b2.past hbV3)
            replace b3 := (b3.past hbV3)
            refine yd2 hVV3 ⟨b2, b3⟩ ?_
            clear hVV3
            refine yt 19 [0] rfl ⟨b2, b3⟩ ?_
            refine tk 1 37 (.bool false) ⟨b2, b3⟩ ?_ (hy := fun w' hS => ((show _ = Result.ok (Next.value (.bool (f.hid))) _ from (exec_ld (by kernel_rfl) (run_ld1 hS.1 hT4 8 (.bool f.hid) (by kernel_rfl)))).trans (congrArg (fun z => Result.ok (Next.value (.bool z)) _) (show (f.hid) = false from hhid))))
            refine yt 10 [2, 3, 4, 5, 6, 7, 8, 9] rfl ⟨b2, b3⟩ ?_
            refine tk 10 46 (.bool false) ⟨b2, b3⟩ ?_ (hy := fun w' hS => ((show _ = Result.ok (Next.value (.bool (f.hid))) _ from (exec_ld (by kernel_rfl) (run_ld1 hS.1 hT4 8 (.bool f.hid) (by kernel_rfl)))).trans (congrArg (fun z => Result.ok (Next.value (.bool z)) _) (show (f.hid) = false from hhid))))
            refine yt 6 [11, 12, 13] rfl ⟨b2, b3⟩ ?_
            refine ytl 14 rfl 50 (fun _ h => h.2) hT23 2 ⟨b2, b3⟩ ?_
            refine sxr [15] ?_
            refine rd1 (fun Kx hKx => ?_)
            refine yck 51 (two_any 63 (2 ^ 63) 63 V3 (by omega) rfl rfl) ?_
            rintro eV4 V4 ⟨p51, c51, rfl, o51, hbV4⟩
            have hzV4 := hbV4.size
            refine ⟨_, rfl, ?_⟩
            replace b2 := (b2.past hbV4)
            replace b3 := (b3.past hbV4)
            refine hKx.out _ _ ⟨b2, b3⟩ ?_
            clear hKx Kx
            refine sxr [16] ?_
            refine rd1 (fun Kx hKx => ?_)
            replace hp := (hp.past (bthru (bthru (bthru hbV1 hbV2) hbV3) hbV4))
            refine yck 52 (cmp_any p p51 _ _ c c51 x (2 ^ 63) V4 hp.rd o51.rd rfl rfl (by omega) (by omega)) ?_
            rintro eV5 V5 ⟨rfl, hbV5⟩
            have hzV5 := hbV5.size
            refine ⟨_, rfl, ?_⟩
            replace b2 := (b2.past hbV5)
            replace b3 := (b3.past hbV5)
            refine hKx.out _ _ ⟨b2, b3⟩ ?_
            clear hKx Kx
            refine tk 17 53 (.bool true) ⟨b2, b3⟩ ?_ (hy := fun w' _ => ((show _ = Result.ok (Next.value (.bool ((cmpN x (2 ^ 63)) == 0))) _ from (by kernel_rfl)).trans (congrArg (fun z => Result.ok (Next.value (.bool z)) _) (show ((cmpN x (2 ^ 63)) == 0) = true from by rw [hcm]; rfl))))
            refine yt 0 [18, 19] rfl ⟨b2, b3⟩ ?_
            refine sx_done (by kernel_rfl) ?_
            refine sx_then ?_
            refine yT ?_
            refine yq ?_
            refine wp_ret ?_
            repeat (first | with_reducible refine sx_thenret ?_ | with_reducible refine sx_blockret ?_)
            refine yret (.tuple #[.int .i64 3, .slice none 0 0, .int .i64 0]) (res3 Tryd.results107 rvt rvt rvt) ?_
            exact givesC_none (k := 3) rfl (bthru (bthru (bthru (bthru hbV1 hbV2) hbV3) hbV4) hbV5)
          · have hD : f.dec g e x = ⟨4, 0, 0⟩ := by unfold Fm.dec; rw [if_neg f2, if_pos ⟨f1, hl⟩, if_neg (by simp [hex]; omega)]
            have hcm : (cmpN x (2 ^ 63) == 0) = false := by rw [beq_eq_false_iff_ne]; intro h; exact h0 (cmpN_zero h)
            rw [hD]
            generalize 2 ^ f.E = P at *
            have hT3 : SxOne Tryd.prog 3 := sxOne_of (by kernel_rfl) (by kernel_rfl)
            have hT4 : SxOne Tryd.prog 4 := sxOne_of (by kernel_rfl) (by kernel_rfl)
            have hT23 : SxOne Tryd.prog 23 := sxOne_of (by kernel_rfl) (by kernel_rfl)
            refine calls_of_wp Tryd.func107 rfl ?_
            refine sx_frame (a' := ⟨((.agg #[.int .i64 ((f.size : Nat) : Int), .int .i64 ((f.E : Nat) : Int), .int .i64 ((f.F : Nat) : Int), .int .i64 f.g.rad, .int .i64 f.g.digs, .int .i64 f.g.lo, .int .i64 f.g.hi, .bool f.g.grad, .bool f.hid, .bool f.inf, .bool f.res, .func (.func (ordF f)) #[] #[]]) :: (.agg #[.bool g, .int .i64 ((e : Nat) : Int), .slice p (dig B32 x).length c]) :: us 97 []).toArray, []⟩) (by kernel_rfl) ?_
            refine ye ?_
            refine yw 0 rfl 2 #[.int .i64 ((f.size : Nat) : Int), .int .i64 ((f.E : Nat) : Int), .int .i64 ((f.F : Nat) : Int), .int .i64 f.g.rad, .int .i64 f.g.digs, .int .i64 f.g.lo, .int .i64 f.g.hi, .bool f.g.grad, .bool f.hid, .bool f.inf, .bool f.res, .func (.func (ordF f)) #[] #[]] 116 (fun V1 hbV1 hzV1 b2 => ?_)
            refine yw 0 rfl 3 #[.bool g, .int .i64 ((e : Nat) : Int), .slice p (dig B32 x).length c] 137 (fun V2 hbV2 hzV2 b3 => ?_)
            refine yzt 3 ?_
            refine ye ?_
            replace b2 := (b2.past hbV2)
            refine yl 1 rfl 10 b2 hT3 1 ?_
            refine yv 0 rfl 11 (.int .i64 ((P : Nat) : Int)) ?_ (exec_shl (X := (1)) (Y := ((f.E : Nat) : Int)) (k2 := .i64) ((P : Nat) : Int) (by kernel_rfl) (by kernel_rfl) (by omega) ((HSH.out)))
            refine ya 0 rfl 12 .i64 (((P : Nat) : Int) - 1) (((P - 1 : Nat) : Int)) ((by rw [show (((P : Nat) : Int) - 1) = ((P - 1 : Nat) : Int) by omega]; exact IntWalk.i64_in _ (by omega))) ?_
            refine yzt 1 ?_
            refine ye ?_
            refine yl 2 rfl 15 b2 hT3 5 ?_
            refine yzt 1 ?_
            refine wp_seq ?_
            refine wp_block ?_
            refine ye ?_
            refine yl 2 rfl 19 b2 hT3 3 ?_
            refine yb 0 rfl 20 (f.g.rad == 16) (false) (hr) ?_
            refine yzt 1 ?_
            refine yF ?_
            refine ye ?_
            refine ylb 1 rfl 29 b2 hT4 9 (f.inf) true (hinf) ?_
            refine yl 2 rfl 32 b3 hT3 1 ?_
            refine yb 1 rfl 34 (((e : Nat) : Int) == ((P - 1 : Nat) : Int)) (true) (beq_iff_eq.2 (by omega)) ?_
            refine yzt 2 ?_
            refine yT ?_
            refine wp_seq ?_
            refine wp_seq ?_
            obtain ⟨V3, hVV3, hbV3, hzV3⟩ := drew_of V2
            replace b2 := (b2.past hbV3)
            replace b3 := (b3.past hbV3)
            refine yd2 hVV3 ⟨b2, b3⟩ ?_
            clear hVV3
            refine yt 19 [0] rfl ⟨b2, b3⟩ ?_
            refine tk 1 37 (.bool false) ⟨b2, b3⟩ ?_ (hy := fun w' hS => ((show _ = Result.ok (Next.value (.bool (f.hid))) _ from (exec_ld (by kernel_rfl) (run_ld1 hS.1 hT4 8 (.bool f.hid) (by kernel_rfl)))).trans (congrArg (fun z => Result.ok (Next.value (.bool z)) _) (show (f.hid) = false from hhid))))
            refine yt 10 [2, 3, 4, 5, 6, 7, 8, 9] rfl ⟨b2, b3⟩ ?_
            refine tk 10 46 (.bool false) ⟨b2, b3⟩ ?_ (hy := fun w' hS => ((show _ = Result.ok (Next.value (.bool (f.hid))) _ from (exec_ld (by kernel_rfl) (run_ld1 hS.1 hT4 8 (.bool f.hid) (by kernel_rfl)))).trans (congrArg (fun z => Result.ok (Next.value (.bool z)) _) (show (f.hid) = false from hhid))))
            refine yt 6 [11, 12, 13] rfl ⟨b2, b3⟩ ?_
            refine ytl 14 rfl 50 (fun _ h => h.2) hT23 2 ⟨b2, b3⟩ ?_
            refine sxr [15] ?_
            refine rd1 (fun Kx hKx => ?_)
            refine yck 51 (two_any 63 (2 ^ 63) 63 V3 (by omega) rfl rfl) ?_
            rintro eV4 V4 ⟨p51, c51, rfl, o51, hbV4⟩
            have hzV4 := hbV4.size
            refine ⟨_, rfl, ?_⟩
            replace b2 := (b2.past hbV4)
            replace b3 := (b3.past hbV4)
            refine hKx.out _ _ ⟨b2, b3⟩ ?_
            clear hKx Kx
            refine sxr [16] ?_
            refine rd1 (fun Kx hKx => ?_)
            replace hp := (hp.past (bthru (bthru (bthru hbV1 hbV2) hbV3) hbV4))
            refine yck 52 (cmp_any p p51 _ _ c c51 x (2 ^ 63) V4 hp.rd o51.rd rfl rfl (by omega) (by omega)) ?_
            rintro eV5 V5 ⟨rfl, hbV5⟩
            have hzV5 := hbV5.size
            refine ⟨_, rfl, ?_⟩
            replace b2 := (b2.past hbV5)
            replace b3 := (b3.past hbV5)
            refine hKx.out _ _ ⟨b2, b3⟩ ?_
            clear hKx Kx
            refine tk 17 53 (.bool false) ⟨b2, b3⟩ ?_ (hy := fun w' _ => ((show _ = Result.ok (Next.value (.bool ((cmpN x (2 ^ 63)) == 0))) _ from (by kernel_rfl)).trans (congrArg (fun z => Result.ok (Next.value (.bool z)) _) (show ((cmpN x (2 ^ 63)) == 0) = false from hcm))))
            refine yt 0 [18, 19] rfl ⟨b2, b3⟩ ?_
            refine sx_done (by kernel_rfl) ?_
            refine sx_then ?_
            refine yF ?_
            refine wp_skip ?_
            refine sx_then ?_
            refine yq ?_
            refine wp_ret ?_
            repeat (first | with_reducible refine sx_thenret ?_ | with_reducible refine sx_blockret ?_)
            refine yret (.tuple #[.int .i64 4, .slice none 0 0, .int .i64 0]) (res3 Tryd.results107 rvt rvt rvt) ?_
            exact givesC_none (k := 4) rfl (bthru (bthru (bthru (bthru hbV1 hbV2) hbV3) hbV4) hbV5)
      · by_cases h0 : e = 0
        · have hD : f.dec g e x = ⟨2, x, f.g.lo⟩ := by unfold Fm.dec; rw [if_neg f2, if_neg (fun h => hl h.2), if_neg (by omega), if_pos h0]
          rw [hD]
          generalize 2 ^ f.E = P at *
          have hT3 : SxOne Tryd.prog 3 := sxOne_of (by kernel_rfl) (by kernel_rfl)
          have hT4 : SxOne Tryd.prog 4 := sxOne_of (by kernel_rfl) (by kernel_rfl)
          have hT23 : SxOne Tryd.prog 23 := sxOne_of (by kernel_rfl) (by kernel_rfl)
          refine calls_of_wp Tryd.func107 rfl ?_
          refine sx_frame (a' := ⟨((.agg #[.int .i64 ((f.size : Nat) : Int), .int .i64 ((f.E : Nat) : Int), .int .i64 ((f.F : Nat) : Int), .int .i64 f.g.rad, .int .i64 f.g.digs, .int .i64 f.g.lo, .int .i64 f.g.hi, .bool f.g.grad, .bool f.hid, .bool f.inf, .bool f.res, .func (.func (ordF f)) #[] #[]]) :: (.agg #[.bool g, .int .i64 ((e : Nat) : Int), .slice p (dig B32 x).length c]) :: us 97 []).toArray, []⟩) (by kernel_rfl) ?_
          refine ye ?_
          refine yw 0 rfl 2 #[.int .i64 ((f.size : Nat) : Int), .int .i64 ((f.E : Nat) : Int), .int .i64 ((f.F : Nat) : Int), .int .i64 f.g.rad, .int .i64 f.g.digs, .int .i64 f.g.lo, .int .i64 f.g.hi, .bool f.g.grad, .bool f.hid, .bool f.inf, .bool f.res, .func (.func (ordF f)) #[] #[]] 116 (fun V1 hbV1 hzV1 b2 => ?_)
          refine yw 0 rfl 3 #[.bool g, .int .i64 ((e : Nat) : Int), .slice p (dig B32 x).length c] 137 (fun V2 hbV2 hzV2 b3 => ?_)
          refine yzt 3 ?_
          refine ye ?_
          replace b2 := (b2.past hbV2)
          refine yl 1 rfl 10 b2 hT3 1 ?_
          refine yv 0 rfl 11 (.int .i64 ((P : Nat) : Int)) ?_ (exec_shl (X := (1)) (Y := ((f.E : Nat) : Int)) (k2 := .i64) ((P : Nat) : Int) (by kernel_rfl) (by kernel_rfl) (by omega) ((HSH.out)))
          refine ya 0 rfl 12 .i64 (((P : Nat) : Int) - 1) (((P - 1 : Nat) : Int)) ((by rw [show (((P : Nat) : Int) - 1) = ((P - 1 : Nat) : Int) by omega]; exact IntWalk.i64_in _ (by omega))) ?_
          refine yzt 1 ?_
          refine ye ?_
          refine yl 2 rfl 15 b2 hT3 5 ?_
          refine yzt 1 ?_
          refine wp_seq ?_
          refine wp_block ?_
          refine ye ?_
          refine yl 2 rfl 19 b2 hT3 3 ?_
          refine yb 0 rfl 20 (f.g.rad == 16) (false) (hr) ?_
          refine yzt 1 ?_
          refine yF ?_
          refine ye ?_
          refine ylb 1 rfl 29 b2 hT4 9 (f.inf) true (hinf) ?_
          refine yl 2 rfl 32 b3 hT3 1 ?_
          refine yb 1 rfl 34 (((e : Nat) : Int) == ((P - 1 : Nat) : Int)) (false) (beq_eq_false_iff_ne.2 (by omega)) ?_
          refine yzt 2 ?_
          refine yF ?_
          refine ye ?_
          refine yl 1 rfl 58 b3 hT3 1 ?_
          refine yb 0 rfl 59 (((e : Nat) : Int) == 0) (true) (beq_iff_eq.2 (by omega)) ?_
          refine ylb 2 rfl 62 b2 hT4 10 (f.res) false (hres) ?_
          refine yzt 2 ?_
          refine yF ?_
          refine ye ?_
          refine yl 1 rfl 68 b3 hT3 1 ?_
          refine yb 0 rfl 69 (((e : Nat) : Int) == 0) (true) (beq_iff_eq.2 (by omega)) ?_
          refine yzt 1 ?_
          refine yT ?_
          refine wp_seq ?_
          obtain ⟨V3, hVV3, hbV3, hzV3⟩ := drew_of V2
          replace b3 := (b3.past hbV3)
          refine yd1 hVV3 b3 ?_
          clear hVV3
          refine yt 5 [0] rfl b3 ?_
          refine ytl 1 rfl 71 (fun _ h => h) hT23 2 b3 ?_
          refine yt 0 [2, 3, 4, 5] rfl b3 ?_
          refine sx_done (by kernel_rfl) ?_
          refine sx_then ?_
          refine wp_ret ?_
          repeat (first | with_reducible refine sx_thenret ?_ | with_reducible refine sx_blockret ?_)
          refine yret (.tuple #[.int .i64 2, .slice p (dig B32 x).length c, .int .i64 f.g.lo]) (res3 Tryd.results107 rvt rvt rvt) ?_
          replace hp := (hp.past (bthru (bthru hbV1 hbV2) hbV3))
          exact ⟨p, c, rfl, hp, (bthru (bthru hbV1 hbV2) hbV3)⟩
        · by_cases hex : f.ext = false
          · have hhid : f.hid = true := by unfold Fm.hid; rw [f1, hex]; rfl
            have hD : f.dec g e x = ⟨2, x + 2 ^ f.F, f.g.lo + e - 1⟩ := by unfold Fm.dec; rw [if_neg f2, if_neg (fun h => hl h.2), if_neg (by omega), if_neg h0, if_pos hex]
            have hlF : (dig B32 (2 ^ f.F)).length ≤ 3 := dig_le_pow (n := f.F + 1) (Nat.pow_lt_pow_right (by omega) (by omega)) (by omega)
            rw [hD]
            generalize 2 ^ f.E = P at *
            have hT3 : SxOne Tryd.prog 3 := sxOne_of (by kernel_rfl) (by kernel_rfl)
            have hT4 : SxOne Tryd.prog 4 := sxOne_of (by kernel_rfl) (by kernel_rfl)
            have hT23 : SxOne Tryd.prog 23 := sxOne_of (by kernel_rfl) (by kernel_rfl)
            refine calls_of_wp Tryd.func107 rfl ?_
            refine sx_frame (a' := ⟨((.agg #[.int .i64 ((f.size : Nat) : Int), .int .i64 ((f.E : Nat) : Int), .int .i64 ((f.F : Nat) : Int), .int .i64 f.g.rad, .int .i64 f.g.digs, .int .i64 f.g.lo, .int .i64 f.g.hi, .bool f.g.grad, .bool f.hid, .bool f.inf, .bool f.res, .func (.func (ordF f)) #[] #[]]) :: (.agg #[.bool g, .int .i64 ((e : Nat) : Int), .slice p (dig B32 x).length c]) :: us 97 []).toArray, []⟩) (by kernel_rfl) ?_
            refine ye ?_
            refine yw 0 rfl 2 #[.int .i64 ((f.size : Nat) : Int), .int .i64 ((f.E : Nat) : Int), .int .i64 ((f.F : Nat) : Int), .int .i64 f.g.rad, .int .i64 f.g.digs, .int .i64 f.g.lo, .int .i64 f.g.hi, .bool f.g.grad, .bool f.hid, .bool f.inf, .bool f.res, .func (.func (ordF f)) #[] #[]] 116 (fun V1 hbV1 hzV1 b2 => ?_)
            refine yw 0 rfl 3 #[.bool g, .int .i64 ((e : Nat) : Int), .slice p (dig B32 x).length c] 137 (fun V2 hbV2 hzV2 b3 => ?_)
            refine yzt 3 ?_
            refine ye ?_
            replace b2 := (b2.past hbV2)
            refine yl 1 rfl 10 b2 hT3 1 ?_
            refine yv 0 rfl 11 (.int .i64 ((P : Nat) : Int)) ?_ (exec_shl (X := (1)) (Y := ((f.E : Nat) : Int)) (k2 := .i64) ((P : Nat) : Int) (by kernel_rfl) (by kernel_rfl) (by omega) ((HSH.out)))
            refine ya 0 rfl 12 .i64 (((P : Nat) : Int) - 1) (((P - 1 : Nat) : Int)) ((by rw [show (((P : Nat) : Int) - 1) = ((P - 1 : Nat) : Int) by omega]; exact IntWalk.i64_in _ (by omega))) ?_
            refine yzt 1 ?_
            refine ye ?_
            refine yl 2 rfl 15 b2 hT3 5 ?_
            refine yzt 1 ?_
            refine wp_seq ?_
            refine wp_block ?_
            refine ye ?_
            refine yl 2 rfl 19 b2 hT3 3 ?_
            refine yb 0 rfl 20 (f.g.rad == 16) (false) (hr) ?_
            refine yzt 1 ?_
            refine yF ?_
            refine ye ?_
            refine ylb 1 rfl 29 b2 hT4 9 (f.inf) true (hinf) ?_
            refine yl 2 rfl 32 b3 hT3 1 ?_
            refine yb 1 rfl 34 (((e : Nat) : Int) == ((P - 1 : Nat) : Int)) (false) (beq_eq_false_iff_ne.2 (by omega)) ?_
            refine yzt 2 ?_
            refine yF ?_
            refine ye ?_
            refine yl 1 rfl 58 b3 hT3 1 ?_
            refine yb 0 rfl 59 (((e : Nat) : Int) == 0) (false) (beq_eq_false_iff_ne.2 (by omega)) ?_
            refine yzt 5 ?_
            refine yF ?_
            refine ye ?_
            refine yl 1 rfl 68 b3 hT3 1 ?_
            refine yb 0 rfl 69 (((e : Nat) : Int) == 0) (false) (beq_eq_false_iff_ne.2 (by omega)) ?_
            refine yzt 1 ?_
            refine yF ?_
            refine ye ?_
            refine ylb 1 rfl 75 b2 hT4 8 (f.hid) true (hhid) ?_
            refine yzt 1 ?_
            refine yT ?_
            refine wp_seq ?_
            obtain ⟨V3, hVV3, hbV3, hzV3⟩ := drew_of V2
            replace b3 := (b3.past hbV3)
            replace b2 := (b2.past hbV3)
            refine yd2 hVV3 ⟨b3, b2⟩ ?_
            clear hVV3
            refine yt 13 [0] rfl ⟨b3, b2⟩ ?_
            refine ytl 1 rfl 77 (fun _ h => h.1) hT23 2 ⟨b3, b2⟩ ?_
            refine yt 11 [2] rfl ⟨b3, b2⟩ ?_
            refine ytl 3 rfl 79 (fun _ h => h.2) hT3 2 ⟨b3, b2⟩ ?_
            refine yt 8 [6, 7] rfl ⟨b3, b2⟩ ?_
            refine ytl 8 rfl 84 (fun _ h => h.1) hT3 1 ⟨b3, b2⟩ ?_
            refine tk 9 85 (.int .i64 (f.g.lo + ((e : Nat) : Int))) ⟨b3, b2⟩ ?_ (hy := fun w' _ => ((show _ = Result.ok (Next.value (.int .i64 (IntKind.wrap .i64 (f.g.lo + ((e : Nat) : Int))))) _ by kernel_rfl).trans (congrArg (fun z => Result.ok (Next.value (.int .i64 z)) _) (IntWalk.i64_in _ (by omega)))))
            refine tk 10 86 (.int .i64 ((f.g.lo + ((e : Nat) : Int)) - 1)) ⟨b3, b2⟩ ?_ (hy := fun w' _ => ((show _ = Result.ok (Next.value (.int .i64 (IntKind.wrap .i64 ((f.g.lo + ((e : Nat) : Int)) - 1)))) _ by kernel_rfl).trans (congrArg (fun z => Result.ok (Next.value (.int .i64 z)) _) (IntWalk.i64_in _ (by omega)))))
            refine sxr [4] ?_
            refine rd1 (fun Kx hKx => ?_)
            refine yck 80 (two_any f.F (2 ^ f.F) _ V3 (by omega) rfl rfl) ?_
            rintro eV4 V4 ⟨p80, c80, rfl, o80, hbV4⟩
            have hzV4 := hbV4.size
            refine ⟨_, rfl, ?_⟩
            replace b3 := (b3.past hbV4)
            replace b2 := (b2.past hbV4)
            refine hKx.out _ _ ⟨b3, b2⟩ ?_
            clear hKx Kx
            refine sxr [5] ?_
            refine rd1 (fun Kx hKx => ?_)
            replace hp := (hp.past (bthru (bthru (bthru hbV1 hbV2) hbV3) hbV4))
            refine yck 81 (sadd p p80 _ _ c c80 x (2 ^ f.F) (x + 2 ^ f.F) V4 hp.rd o80.rd rfl rfl (by omega) (by omega) rfl) ?_
            rintro eV5 V5 ⟨p81, c81, rfl, o81, hbV5⟩
            have hzV5 := hbV5.size
            refine ⟨_, rfl, ?_⟩
            replace b3 := (b3.past hbV5)
            replace b2 := (b2.past hbV5)
            refine hKx.out _ _ ⟨b3, b2⟩ ?_
            clear hKx Kx
            refine yt 0 [11, 12, 13] rfl ⟨b3, b2⟩ ?_
            refine sx_done (by kernel_rfl) ?_
            refine sx_then ?_
            refine wp_ret ?_
            repeat (first | with_reducible refine sx_thenret ?_ | with_reducible refine sx_blockret ?_)
            refine yret (.tuple #[.int .i64 2, .slice p81 (dig B32 (x + 2 ^ f.F)).length c81, .int .i64 ((f.g.lo + ((e : Nat) : Int)) - 1)]) (res3 Tryd.results107 rvt rvt rvt) ?_
            exact ⟨p81, c81, rfl, o81.mono (by omega), (bthru (bthru (bthru (bthru hbV1 hbV2) hbV3) hbV4) hbV5)⟩
          · have hex : f.ext = true := by simpa using hex
            have hhid : f.hid = false := by unfold Fm.hid; rw [f1, hex]; rfl
            by_cases h63 : x < 2 ^ 63
            · have hD : f.dec g e x = ⟨4, 0, 0⟩ := by unfold Fm.dec; rw [if_neg f2, if_neg (fun h => hl h.2), if_neg (by omega), if_neg h0, if_neg (by simp [hex]), if_pos h63]
              have hbl : blen x < 64 := by have := (blen_le x 63).2 h63; omega
              rw [hD]
              generalize 2 ^ f.E = P at *
              have hT3 : SxOne Tryd.prog 3 := sxOne_of (by kernel_rfl) (by kernel_rfl)
              have hT4 : SxOne Tryd.prog 4 := sxOne_of (by kernel_rfl) (by kernel_rfl)
              have hT23 : SxOne Tryd.prog 23 := sxOne_of (by kernel_rfl) (by kernel_rfl)
              refine calls_of_wp Tryd.func107 rfl ?_
              refine sx_frame (a' := ⟨((.agg #[.int .i64 ((f.size : Nat) : Int), .int .i64 ((f.E : Nat) : Int), .int .i64 ((f.F : Nat) : Int), .int .i64 f.g.rad, .int .i64 f.g.digs, .int .i64 f.g.lo, .int .i64 f.g.hi, .bool f.g.grad, .bool f.hid, .bool f.inf, .bool f.res, .func (.func (ordF f)) #[] #[]]) :: (.agg #[.bool g, .int .i64 ((e : Nat) : Int), .slice p (dig B32 x).length c]) :: us 97 []).toArray, []⟩) (by kernel_rfl) ?_
              refine ye ?_
              refine yw 0 rfl 2 #[.int .i64 ((f.size : Nat) : Int), .int .i64 ((f.E : Nat) : Int), .int .i64 ((f.F : Nat) : Int), .int .i64 f.g.rad, .int .i64 f.g.digs, .int .i64 f.g.lo, .int .i64 f.g.hi, .bool f.g.grad, .bool f.hid, .bool f.inf, .bool f.res, .func (.func (ordF f)) #[] #[]] 116 (fun V1 hbV1 hzV1 b2 => ?_)
              refine yw 0 rfl 3 #[.bool g, .int .i64 ((e : Nat) : Int), .slice p (dig B32 x).length c] 137 (fun V2 hbV2 hzV2 b3 => ?_)
              refine yzt 3 ?_
              refine ye ?_
              replace b2 := (b2.past hbV2)
              refine yl 1 rfl 10 b2 hT3 1 ?_
              refine yv 0 rfl 11 (.int .i64 ((P : Nat) : Int)) ?_ (exec_shl (X := (1)) (Y := ((f.E : Nat) : Int)) (k2 := .i64) ((P : Nat) : Int) (by kernel_rfl) (by kernel_rfl) (by omega) ((HSH.out)))
              refine ya 0 rfl 12 .i64 (((P : Nat) : Int) - 1) (((P - 1 : Nat) : Int)) ((by rw [show (((P : Nat) : Int) - 1) = ((P - 1 : Nat) : Int) by omega]; exact IntWalk.i64_in _ (by omega))) ?_
              refine yzt 1 ?_
              refine ye ?_
              refine yl 2 rfl 15 b2 hT3 5 ?_
              refine yzt 1 ?_
              refine wp_seq ?_
              refine wp_block ?_
              refine ye ?_
              refine yl 2 rfl 19 b2 hT3 3 ?_
              refine yb 0 rfl 20 (f.g.rad == 16) (false) (hr) ?_
              refine yzt 1 ?_
              refine yF ?_
              refine ye ?_
              refine ylb 1 rfl 29 b2 hT4 9 (f.inf) true (hinf) ?_
              refine yl 2 rfl 32 b3 hT3 1 ?_
              refine yb 1 rfl 34 (((e : Nat) : Int) == ((P - 1 : Nat) : Int)) (false) (beq_eq_false_iff_ne.2 (by omega)) ?_
              refine yzt 2 ?_
              refine yF ?_
              refine ye ?_
              refine yl 1 rfl 58 b3 hT3 1 ?_
              refine yb 0 rfl 59 (((e : Nat) : Int) == 0) (false) (beq_eq_false_iff_ne.2 (by omega)) ?_
              refine yzt 5 ?_
              refine yF ?_
              refine ye ?_
              refine yl 1 rfl 68 b3 hT3 1 ?_
              refine yb 0 rfl 69 (((e : Nat) : Int) == 0) (false) (beq_eq_false_iff_ne.2 (by omega)) ?_
              refine yzt 1 ?_
              refine yF ?_
              refine ye ?_
              refine ylb 1 rfl 75 b2 hT4 8 (f.hid) false (hhid) ?_
              refine yzt 1 ?_
              refine yF ?_
              refine ye ?_
              refine yl 1 rfl 89 b3 hT23 2 ?_
              replace hp := (hp.past (bthru hbV1 hbV2))
              refine yc 0 rfl 90 (stay (len_any p _ c x V2 hp.rd rfl (by omega))) (fun Gx hGx => ?_)
              rintro eV3 V3 ⟨rfl, hbV3⟩
              have hzV3 := hbV3.size
              refine ⟨_, rfl, hGx _ _ ?_⟩
              clear hGx Gx
              refine yb 0 rfl 91 (decide (((blen x : Nat) : Int) < 64)) (true) (decide_eq_true (by omega)) ?_
              refine yzt 1 ?_
              refine yT ?_
              refine yq ?_
              refine wp_ret ?_
              repeat (first | with_reducible refine sx_thenret ?_ | with_reducible refine sx_blockret ?_)
              refine yret (.tuple #[.int .i64 4, .slice none 0 0, .int .i64 0]) (res3 Tryd.results107 rvt rvt rvt) ?_
              exact givesC_none (k := 4) rfl (bthru (bthru hbV1 hbV2) hbV3)
            · have hD : f.dec g e x = ⟨2, x, f.g.lo + e - 1⟩ := by unfold Fm.dec; rw [if_neg f2, if_neg (fun h => hl h.2), if_neg (by omega), if_neg h0, if_neg (by simp [hex]), if_neg h63]
              have hbl : 64 ≤ blen x := by have := (blen_le x 63).1; omega
              rw [hD]
              generalize 2 ^ f.E = P at *
              have hT3 : SxOne Tryd.prog 3 := sxOne_of (by kernel_rfl) (by kernel_rfl)
              have hT4 : SxOne Tryd.prog 4 := sxOne_of (by kernel_rfl) (by kernel_rfl)
              have hT23 : SxOne Tryd.prog 23 := sxOne_of (by kernel_rfl) (by kernel_rfl)
              refine calls_of_wp Tryd.func107 rfl ?_
              refine sx_frame (a' := ⟨((.agg #[.int .i64 ((f.size : Nat) : Int), .int .i64 ((f.E : Nat) : Int), .int .i64 ((f.F : Nat) : Int), .int .i64 f.g.rad, .int .i64 f.g.digs, .int .i64 f.g.lo, .int .i64 f.g.hi, .bool f.g.grad, .bool f.hid, .bool f.inf, .bool f.res, .func (.func (ordF f)) #[] #[]]) :: (.agg #[.bool g, .int .i64 ((e : Nat) : Int), .slice p (dig B32 x).length c]) :: us 97 []).toArray, []⟩) (by kernel_rfl) ?_
              refine ye ?_
              refine yw 0 rfl 2 #[.int .i64 ((f.size : Nat) : Int), .int .i64 ((f.E : Nat) : Int), .int .i64 ((f.F : Nat) : Int), .int .i64 f.g.rad, .int .i64 f.g.digs, .int .i64 f.g.lo, .int .i64 f.g.hi, .bool f.g.grad, .bool f.hid, .bool f.inf, .bool f.res, .func (.func (ordF f)) #[] #[]] 116 (fun V1 hbV1 hzV1 b2 => ?_)
              refine yw 0 rfl 3 #[.bool g, .int .i64 ((e : Nat) : Int), .slice p (dig B32 x).length c] 137 (fun V2 hbV2 hzV2 b3 => ?_)
              refine yzt 3 ?_
              refine ye ?_
              replace b2 := (b2.past hbV2)
              refine yl 1 rfl 10 b2 hT3 1 ?_
              refine yv 0 rfl 11 (.int .i64 ((P : Nat) : Int)) ?_ (exec_shl (X := (1)) (Y := ((f.E : Nat) : Int)) (k2 := .i64) ((P : Nat) : Int) (by kernel_rfl) (by kernel_rfl) (by omega) ((HSH.out)))
              refine ya 0 rfl 12 .i64 (((P : Nat) : Int) - 1) (((P - 1 : Nat) : Int)) ((by rw [show (((P : Nat) : Int) - 1) = ((P - 1 : Nat) : Int) by omega]; exact IntWalk.i64_in _ (by omega))) ?_
              refine yzt 1 ?_
              refine ye ?_
              refine yl 2 rfl 15 b2 hT3 5 ?_
              refine yzt 1 ?_
              refine wp_seq ?_
              refine wp_block ?_
              refine ye ?_
              refine yl 2 rfl 19 b2 hT3 3 ?_
              refine yb 0 rfl 20 (f.g.rad == 16) (false) (hr) ?_
              refine yzt 1 ?_
              refine yF ?_
              refine ye ?_
              refine ylb 1 rfl 29 b2 hT4 9 (f.inf) true (hinf) ?_
              refine yl 2 rfl 32 b3 hT3 1 ?_
              refine yb 1 rfl 34 (((e : Nat) : Int) == ((P - 1 : Nat) : Int)) (false) (beq_eq_false_iff_ne.2 (by omega)) ?_
              refine yzt 2 ?_
              refine yF ?_
              refine ye ?_
              refine yl 1 rfl 58 b3 hT3 1 ?_
              refine yb 0 rfl 59 (((e : Nat) : Int) == 0) (false) (beq_eq_false_iff_ne.2 (by omega)) ?_
              refine yzt 5 ?_
              refine yF ?_
              refine ye ?_
              refine yl 1 rfl 68 b3 hT3 1 ?_
              refine yb 0 rfl 69 (((e : Nat) : Int) == 0) (false) (beq_eq_false_iff_ne.2 (by omega)) ?_
              refine yzt 1 ?_
              refine yF ?_
              refine ye ?_
              refine ylb 1 rfl 75 b2 hT4 8 (f.hid) false (hhid) ?_
              refine yzt 1 ?_
              refine yF ?_
              refine ye ?_
              refine yl 1 rfl 89 b3 hT23 2 ?_
              replace hp := (hp.past (bthru hbV1 hbV2))
              refine yc 0 rfl 90 (stay (len_any p _ c x V2 hp.rd rfl (by omega))) (fun Gx hGx => ?_)
              rintro eV3 V3 ⟨rfl, hbV3⟩
              have hzV3 := hbV3.size
              refine ⟨_, rfl, hGx _ _ ?_⟩
              clear hGx Gx
              refine yb 0 rfl 91 (decide (((blen x : Nat) : Int) < 64)) (false) (decide_eq_false (by omega)) ?_
              refine yzt 1 ?_
              refine yF ?_
              refine wp_skip ?_
              refine sx_inblock ?_
              refine sx_then ?_
              refine wp_seq ?_
              replace b3 := (b3.past hbV3)
              obtain ⟨V4, hVV4, hbV4, hzV4⟩ := drew_of V3
              replace b3 := (b3.past hbV4)
              refine yd1 hVV4 b3 ?_
              clear hVV4
              refine yt 9 [0] rfl b3 ?_
              refine ytl 1 rfl 93 (fun _ h => h) hT23 2 b3 ?_
              refine yt 6 [2, 3] rfl b3 ?_
              refine ytl 4 rfl 96 (fun _ h => h) hT3 1 b3 ?_
              refine tk 5 97 (.int .i64 (f.g.lo + ((e : Nat) : Int))) b3 ?_ (hy := fun w' _ => ((show _ = Result.ok (Next.value (.int .i64 (IntKind.wrap .i64 (f.g.lo + ((e : Nat) : Int))))) _ by kernel_rfl).trans (congrArg (fun z => Result.ok (Next.value (.int .i64 z)) _) (IntWalk.i64_in _ (by omega)))))
              refine tk 6 98 (.int .i64 ((f.g.lo + ((e : Nat) : Int)) - 1)) b3 ?_ (hy := fun w' _ => ((show _ = Result.ok (Next.value (.int .i64 (IntKind.wrap .i64 ((f.g.lo + ((e : Nat) : Int)) - 1)))) _ by kernel_rfl).trans (congrArg (fun z => Result.ok (Next.value (.int .i64 z)) _) (IntWalk.i64_in _ (by omega)))))
              refine yt 0 [7, 8, 9] rfl b3 ?_
              refine sx_done (by kernel_rfl) ?_
              refine sx_then ?_
              refine wp_ret ?_
              repeat (first | with_reducible refine sx_thenret ?_ | with_reducible refine sx_blockret ?_)
              refine yret (.tuple #[.int .i64 2, .slice p (dig B32 x).length c, .int .i64 ((f.g.lo + ((e : Nat) : Int)) - 1)]) (res3 Tryd.results107 rvt rvt rvt) ?_
              replace hp := (hp.past (bthru hbV3 hbV4))
              exact ⟨p, c, rfl, hp, (bthru (bthru (bthru hbV1 hbV2) hbV3) hbV4)⟩
    · have f3 : f.fam = 3 := by have := G.fam; omega
      have hex : f.ext = false := by
        cases hh : f.ext with
        | false => rfl
        | true => exact absurd (G.ext hh).1 f1
      have hinf : f.inf = false := by unfold Fm.inf; rw [f3]; rfl
      have hres : f.res = true := by unfold Fm.res; rw [f3]; rfl
      have hhid : f.hid = true := by unfold Fm.hid; rw [f3, hex]; rfl
      by_cases h0 : e = 0
      · cases g with
        | true =>
          have hD : f.dec true e x = ⟨5, 0, 0⟩ := by unfold Fm.dec; rw [if_neg f2, if_neg (fun h => f1 h.1), if_pos ⟨f3, h0⟩, if_pos rfl]
          rw [hD]
          generalize 2 ^ f.E = P at *
          have hT3 : SxOne Tryd.prog 3 := sxOne_of (by kernel_rfl) (by kernel_rfl)
          have hT4 : SxOne Tryd.prog 4 := sxOne_of (by kernel_rfl) (by kernel_rfl)
          refine calls_of_wp Tryd.func107 rfl ?_
          refine sx_frame (a' := ⟨((.agg #[.int .i64 ((f.size : Nat) : Int), .int .i64 ((f.E : Nat) : Int), .int .i64 ((f.F : Nat) : Int), .int .i64 f.g.rad, .int .i64 f.g.digs, .int .i64 f.g.lo, .int .i64 f.g.hi, .bool f.g.grad, .bool f.hid, .bool f.inf, .bool f.res, .func (.func (ordF f)) #[] #[]]) :: (.agg #[.bool true, .int .i64 ((e : Nat) : Int), .slice p (dig B32 x).length c]) :: us 97 []).toArray, []⟩) (by kernel_rfl) ?_
          refine ye ?_
          refine yw 0 rfl 2 #[.int .i64 ((f.size : Nat) : Int), .int .i64 ((f.E : Nat) : Int), .int .i64 ((f.F : Nat) : Int), .int .i64 f.g.rad, .int .i64 f.g.digs, .int .i64 f.g.lo, .int .i64 f.g.hi, .bool f.g.grad, .bool f.hid, .bool f.inf, .bool f.res, .func (.func (ordF f)) #[] #[]] 116 (fun V1 hbV1 hzV1 b2 => ?_)
          refine yw 0 rfl 3 #[.bool true, .int .i64 ((e : Nat) : Int), .slice p (dig B32 x).length c] 137 (fun V2 hbV2 hzV2 b3 => ?_)
          refine yzt 3 ?_
          refine ye ?_
          replace b2 := (b2.past hbV2)
          refine yl 1 rfl 10 b2 hT3 1 ?_
          refine yv 0 rfl 11 (.int .i64 ((P : Nat) : Int)) ?_ (exec_shl (X := (1)) (Y := ((f.E : Nat) : Int)) (k2 := .i64) ((P : Nat) : Int) (by kernel_rfl) (by kernel_rfl) (by omega) ((HSH.out)))
          refine ya 0 rfl 12 .i64 (((P : Nat) : Int) - 1) (((P - 1 : Nat) : Int)) ((by rw [show (((P : Nat) : Int) - 1) = ((P - 1 : Nat) : Int) by omega]; exact IntWalk.i64_in _ (by omega))) ?_
          refine yzt 1 ?_
          refine ye ?_
          refine yl 2 rfl 15 b2 hT3 5 ?_
          refine yzt 1 ?_
          refine wp_seq ?_
          refine wp_block ?_
          refine ye ?_
          refine yl 2 rfl 19 b2 hT3 3 ?_
          refine yb 0 rfl 20 (f.g.rad == 16) (false) (hr) ?_
          refine yzt 1 ?_
          refine yF ?_
          refine ye ?_
          refine ylb 1 rfl 29 b2 hT4 9 (f.inf) false (hinf) ?_
          refine yzt 7 ?_
          refine yF ?_
          refine ye ?_
          refine yl 1 rfl 58 b3 hT3 1 ?_
          refine yb 0 rfl 59 (((e : Nat) : Int) == 0) (true) (beq_iff_eq.2 (by omega)) ?_
          refine ylb 2 rfl 62 b2 hT4 10 (f.res) true (hres) ?_
          refine yzt 2 ?_
          refine yT ?_
          refine wp_seq ?_
          refine ye ?_
          refine yl 1 rfl 65 b3 hT4 0 ?_
          refine yzt 0 ?_
          refine yT ?_
          refine yq ?_
          refine wp_ret ?_
          repeat (first | with_reducible refine sx_thenret ?_ | with_reducible refine sx_blockret ?_)
          refine yret (.tuple #[.int .i64 5, .slice none 0 0, .int .i64 0]) (res3 Tryd.results107 rvt rvt rvt) ?_
          exact givesC_none (k := 5) rfl (bthru hbV1 hbV2)
        | false =>
          have hD : f.dec false e x = ⟨1, 0, 0⟩ := by unfold Fm.dec; rw [if_neg f2, if_neg (fun h => f1 h.1), if_pos ⟨f3, h0⟩, if_neg (by simp)]
          rw [hD]
          generalize 2 ^ f.E = P at *
          have hT3 : SxOne Tryd.prog 3 := sxOne_of (by kernel_rfl) (by kernel_rfl)
          have hT4 : SxOne Tryd.prog 4 := sxOne_of (by kernel_rfl) (by kernel_rfl)
          refine calls_of_wp Tryd.func107 rfl ?_
          refine sx_frame (a' := ⟨((.agg #[.int .i64 ((f.size : Nat) : Int), .int .i64 ((f.E : Nat) : Int), .int .i64 ((f.F : Nat) : Int), .int .i64 f.g.rad, .int .i64 f.g.digs, .int .i64 f.g.lo, .int .i64 f.g.hi, .bool f.g.grad, .bool f.hid, .bool f.inf, .bool f.res, .func (.func (ordF f)) #[] #[]]) :: (.agg #[.bool false, .int .i64 ((e : Nat) : Int), .slice p (dig B32 x).length c]) :: us 97 []).toArray, []⟩) (by kernel_rfl) ?_
          refine ye ?_
          refine yw 0 rfl 2 #[.int .i64 ((f.size : Nat) : Int), .int .i64 ((f.E : Nat) : Int), .int .i64 ((f.F : Nat) : Int), .int .i64 f.g.rad, .int .i64 f.g.digs, .int .i64 f.g.lo, .int .i64 f.g.hi, .bool f.g.grad, .bool f.hid, .bool f.inf, .bool f.res, .func (.func (ordF f)) #[] #[]] 116 (fun V1 hbV1 hzV1 b2 => ?_)
          refine yw 0 rfl 3 #[.bool false, .int .i64 ((e : Nat) : Int), .slice p (dig B32 x).length c] 137 (fun V2 hbV2 hzV2 b3 => ?_)
          refine yzt 3 ?_
          refine ye ?_
          replace b2 := (b2.past hbV2)
          refine yl 1 rfl 10 b2 hT3 1 ?_
          refine yv 0 rfl 11 (.int .i64 ((P : Nat) : Int)) ?_ (exec_shl (X := (1)) (Y := ((f.E : Nat) : Int)) (k2 := .i64) ((P : Nat) : Int) (by kernel_rfl) (by kernel_rfl) (by omega) ((HSH.out)))
          refine ya 0 rfl 12 .i64 (((P : Nat) : Int) - 1) (((P - 1 : Nat) : Int)) ((by rw [show (((P : Nat) : Int) - 1) = ((P - 1 : Nat) : Int) by omega]; exact IntWalk.i64_in _ (by omega))) ?_
          refine yzt 1 ?_
          refine ye ?_
          refine yl 2 rfl 15 b2 hT3 5 ?_
          refine yzt 1 ?_
          refine wp_seq ?_
          refine wp_block ?_
          refine ye ?_
          refine yl 2 rfl 19 b2 hT3 3 ?_
          refine yb 0 rfl 20 (f.g.rad == 16) (false) (hr) ?_
          refine yzt 1 ?_
          refine yF ?_
          refine ye ?_
          refine ylb 1 rfl 29 b2 hT4 9 (f.inf) false (hinf) ?_
          refine yzt 7 ?_
          refine yF ?_
          refine ye ?_
          refine yl 1 rfl 58 b3 hT3 1 ?_
          refine yb 0 rfl 59 (((e : Nat) : Int) == 0) (true) (beq_iff_eq.2 (by omega)) ?_
          refine ylb 2 rfl 62 b2 hT4 10 (f.res) true (hres) ?_
          refine yzt 2 ?_
          refine yT ?_
          refine wp_seq ?_
          refine ye ?_
          refine yl 1 rfl 65 b3 hT4 0 ?_
          refine yzt 0 ?_
          refine yF ?_
          refine wp_skip ?_
          refine sx_then ?_
          refine yq ?_
          refine wp_ret ?_
          repeat (first | with_reducible refine sx_thenret ?_ | with_reducible refine sx_blockret ?_)
          refine yret (.tuple #[.int .i64 1, .slice none 0 0, .int .i64 0]) (res3 Tryd.results107 rvt rvt rvt) ?_
          exact givesC_none (k := 1) rfl (bthru hbV1 hbV2)
      · have hD : f.dec g e x = ⟨2, x + 2 ^ f.F, f.g.lo + e - 1⟩ := by unfold Fm.dec; rw [if_neg f2, if_neg (fun h => f1 h.1), if_neg (fun h => h0 h.2), if_neg h0, if_pos hex]
        have hlF : (dig B32 (2 ^ f.F)).length ≤ 3 := dig_le_pow (n := f.F + 1) (Nat.pow_lt_pow_right (by omega) (by omega)) (by omega)
        rw [hD]
        generalize 2 ^ f.E = P at *
        have hT3 : SxOne Tryd.prog 3 := sxOne_of (by kernel_rfl) (by kernel_rfl)
        have hT4 : SxOne Tryd.prog 4 := sxOne_of (by kernel_rfl) (by kernel_rfl)
        have hT23 : SxOne Tryd.prog 23 := sxOne_of (by kernel_rfl) (by kernel_rfl)
        refine calls_of_wp Tryd.func107 rfl ?_
        refine sx_frame (a' := ⟨((.agg #[.int .i64 ((f.size : Nat) : Int), .int .i64 ((f.E : Nat) : Int), .int .i64 ((f.F : Nat) : Int), .int .i64 f.g.rad, .int .i64 f.g.digs, .int .i64 f.g.lo, .int .i64 f.g.hi, .bool f.g.grad, .bool f.hid, .bool f.inf, .bool f.res, .func (.func (ordF f)) #[] #[]]) :: (.agg #[.bool g, .int .i64 ((e : Nat) : Int), .slice p (dig B32 x).length c]) :: us 97 []).toArray, []⟩) (by kernel_rfl) ?_
        refine ye ?_
        refine yw 0 rfl 2 #[.int .i64 ((f.size : Nat) : Int), .int .i64 ((f.E : Nat) : Int), .int .i64 ((f.F : Nat) : Int), .int .i64 f.g.rad, .int .i64 f.g.digs, .int .i64 f.g.lo, .int .i64 f.g.hi, .bool f.g.grad, .bool f.hid, .bool f.inf, .bool f.res, .func (.func (ordF f)) #[] #[]] 116 (fun V1 hbV1 hzV1 b2 => ?_)
        refine yw 0 rfl 3 #[.bool g, .int .i64 ((e : Nat) : Int), .slice p (dig B32 x).length c] 137 (fun V2 hbV2 hzV2 b3 => ?_)
        refine yzt 3 ?_
        refine ye ?_
        replace b2 := (b2.past hbV2)
        refine yl 1 rfl 10 b2 hT3 1 ?_
        refine yv 0 rfl 11 (.int .i64 ((P : Nat) : Int)) ?_ (exec_shl (X := (1)) (Y := ((f.E : Nat) : Int)) (k2 := .i64) ((P : Nat) : Int) (by kernel_rfl) (by kernel_rfl) (by omega) ((HSH.out)))
        refine ya 0 rfl 12 .i64 (((P : Nat) : Int) - 1) (((P - 1 : Nat) : Int)) ((by rw [show (((P : Nat) : Int) - 1) = ((P - 1 : Nat) : Int) by omega]; exact IntWalk.i64_in _ (by omega))) ?_
        refine yzt 1 ?_
        refine ye ?_
        refine yl 2 rfl 15 b2 hT3 5 ?_
        refine yzt 1 ?_
        refine wp_seq ?_
        refine wp_block ?_
        refine ye ?_
        refine yl 2 rfl 19 b2 hT3 3 ?_
        refine yb 0 rfl 20 (f.g.rad == 16) (false) (hr) ?_
        refine yzt 1 ?_
        refine yF ?_
        refine ye ?_
        refine ylb 1 rfl 29 b2 hT4 9 (f.inf) false (hinf) ?_
        refine yzt 7 ?_
        refine yF ?_
        refine ye ?_
        refine yl 1 rfl 58 b3 hT3 1 ?_
        refine yb 0 rfl 59 (((e : Nat) : Int) == 0) (false) (beq_eq_false_iff_ne.2 (by omega)) ?_
        refine yzt 5 ?_
        refine yF ?_
        refine ye ?_
        refine yl 1 rfl 68 b3 hT3 1 ?_
        refine yb 0 rfl 69 (((e : Nat) : Int) == 0) (false) (beq_eq_false_iff_ne.2 (by omega)) ?_
        refine yzt 1 ?_
        refine yF ?_
        refine ye ?_
        refine ylb 1 rfl 75 b2 hT4 8 (f.hid) true (hhid) ?_
        refine yzt 1 ?_
        refine yT ?_
        refine wp_seq ?_
        obtain ⟨V3, hVV3, hbV3, hzV3⟩ := drew_of V2
        replace b3 := (b3.past hbV3)
        replace b2 := (b2.past hbV3)
        refine yd2 hVV3 ⟨b3, b2⟩ ?_
        clear hVV3
        refine yt 13 [0] rfl ⟨b3, b2⟩ ?_
        refine ytl 1 rfl 77 (fun _ h => h.1) hT23 2 ⟨b3, b2⟩ ?_
        refine yt 11 [2] rfl ⟨b3, b2⟩ ?_
        refine ytl 3 rfl 79 (fun _ h => h.2) hT3 2 ⟨b3, b2⟩ ?_
        refine yt 8 [6, 7] rfl ⟨b3, b2⟩ ?_
        refine ytl 8 rfl 84 (fun _ h => h.1) hT3 1 ⟨b3, b2⟩ ?_
        refine tk 9 85 (.int .i64 (f.g.lo + ((e : Nat) : Int))) ⟨b3, b2⟩ ?_ (hy := fun w' _ => ((show _ = Result.ok (Next.value (.int .i64 (IntKind.wrap .i64 (f.g.lo + ((e : Nat) : Int))))) _ by kernel_rfl).trans (congrArg (fun z => Result.ok (Next.value (.int .i64 z)) _) (IntWalk.i64_in _ (by omega)))))
        refine tk 10 86 (.int .i64 ((f.g.lo + ((e : Nat) : Int)) - 1)) ⟨b3, b2⟩ ?_ (hy := fun w' _ => ((show _ = Result.ok (Next.value (.int .i64 (IntKind.wrap .i64 ((f.g.lo + ((e : Nat) : Int)) - 1)))) _ by kernel_rfl).trans (congrArg (fun z => Result.ok (Next.value (.int .i64 z)) _) (IntWalk.i64_in _ (by omega)))))
        refine sxr [4] ?_
        refine rd1 (fun Kx hKx => ?_)
        refine yck 80 (two_any f.F (2 ^ f.F) _ V3 (by omega) rfl rfl) ?_
        rintro eV4 V4 ⟨p80, c80, rfl, o80, hbV4⟩
        have hzV4 := hbV4.size
        refine ⟨_, rfl, ?_⟩
        replace b3 := (b3.past hbV4)
        replace b2 := (b2.past hbV4)
        refine hKx.out _ _ ⟨b3, b2⟩ ?_
        clear hKx Kx
        refine sxr [5] ?_
        refine rd1 (fun Kx hKx => ?_)
        replace hp := (hp.past (bthru (bthru (bthru hbV1 hbV2) hbV3) hbV4))
        refine yck 81 (sadd p p80 _ _ c c80 x (2 ^ f.F) (x + 2 ^ f.F) V4 hp.rd o80.rd rfl rfl (by omega) (by omega) rfl) ?_
        rintro eV5 V5 ⟨p81, c81, rfl, o81, hbV5⟩
        have hzV5 := hbV5.size
        refine ⟨_, rfl, ?_⟩
        replace b3 := (b3.past hbV5)
        replace b2 := (b2.past hbV5)
        refine hKx.out _ _ ⟨b3, b2⟩ ?_
        clear hKx Kx
        refine yt 0 [11, 12, 13] rfl ⟨b3, b2⟩ ?_
        refine sx_done (by kernel_rfl) ?_
        refine sx_then ?_
        refine wp_ret ?_
        repeat (first | with_reducible refine sx_thenret ?_ | with_reducible refine sx_blockret ?_)
        refine yret (.tuple #[.int .i64 2, .slice p81 (dig B32 (x + 2 ^ f.F)).length c81, .int .i64 ((f.g.lo + ((e : Nat) : Int)) - 1)]) (res3 Tryd.results107 rvt rvt rvt) ?_
        exact ⟨p81, c81, rfl, o81.mono (by omega), (bthru (bthru (bthru (bthru hbV1 hbV2) hbV3) hbV4) hbV5)⟩

theorem cbare_any (p : Option Addr) (c x : Nat) (pw : Int) (gg : Gd) (base : Nat) (w : World) (hp : Own w base .u32 91 p c (dig B32 x)) (hl : (dig B32 x).length ≤ 1000) (hpw : -100000 ≤ pw ∧ pw ≤ 100000) (hr : gg.rad = 2 ∨ gg.rad = 16) (hT : TabW w) :
    Calls Tryd.prog 108 #[.slice p (dig B32 x).length c, .int .i64 pw, .int .i64 gg.rad] w
      fun en w' => ∃ q d, en = .returned (.tuple #[.slice q (dig B32 (x / 2 ^ (tz x / wid gg * wid gg))).length d, .int .i64 (pw + (tz x / wid gg : Nat))]) ∧ Own w' w.heap.size .u32 91 q d (dig B32 (x / 2 ^ (tz x / wid gg * wid gg))) ∧ Below w.heap.size w w' := by
  have hz := tz_bd x hl
  rcases hr with hr | hr
  · have hw : wid gg = 1 := by unfold wid; rw [hr]; rfl
    rw [hw]
    generalize htz : tz x = z at *
    have HTZ := Lib.hid htz
    clear htz
    refine calls_of_wp Tryd.func108 rfl ?_
    refine sx_frame (a' := ⟨((.slice p (dig B32 x).length c) :: (.int .i64 pw) :: (.int .i64 gg.rad) :: us 21 []).toArray, []⟩) (by kernel_rfl) ?_
    refine yq ?_
    refine yq ?_
    refine wp_seq ?_
    refine ye ?_
    refine yb 1 rfl 11 (gg.rad == 16) (false) (by rw [hr]; rfl) ?_
    refine yzt 0 ?_
    refine yF ?_
    refine wp_skip ?_
    refine sx_then ?_
    refine ye ?_
    refine yc 1 rfl 13 (stay (zeros_any p _ c x w hp.rd rfl (by omega) hT)) (fun Gx hGx => ?_)
    rintro eV1 V1 ⟨rfl, hbV1⟩
    have hzV1 := hbV1.size
    refine ⟨_, rfl, hGx _ _ ?_⟩
    clear hGx Gx
    refine yv 1 rfl 15 (.int .i64 ((z / 1 : Nat) : Int)) ?_ (exec_quo (X := ((tz x : Nat) : Int)) (Y := (1)) ((z / 1 : Nat) : Int) (by kernel_rfl) (by kernel_rfl) ((by decide)) ((by rw [HTZ.out]; exact (IntWalk.i64_in _ (by simp; omega)).trans (by simp))))
    refine yzt 1 ?_
    refine ye ?_
    refine ya 3 rfl 19 .i64 (((z / 1 : Nat) : Int) * 1) (((z / 1 * 1 : Nat) : Int)) (((IntWalk.i64_in _ (by omega)).trans (by omega))) ?_
    replace hp := (hp.past hbV1)
    refine yc 0 rfl 20 (sshr p _ c x (z / 1 * 1) _ _ V1 hp.rd rfl (by have := hp.le_cap; omega) (by omega) (by omega) rfl rfl) (fun Gx hGx => ?_)
    rintro eV2 V2 ⟨p20, c20, rfl, o20, hbV2⟩
    have hzV2 := hbV2.size
    refine ⟨_, rfl, hGx _ _ ?_⟩
    clear hGx Gx
    refine yi 2 rfl 23 (pw + ((z / 1 : Nat) : Int)) ?_
    refine yzt 2 ?_
    refine wp_ret ?_
    repeat (first | with_reducible refine sx_thenret ?_ | with_reducible refine sx_blockret ?_)
    refine yret (.tuple #[.slice p20 (dig B32 (x / 2 ^ (z / 1 * 1))).length c20, .int .i64 (pw + ((z / 1 : Nat) : Int))]) (res2 Tryd.results108 rvt rvt) ?_
    exact ⟨p20, c20, rfl, o20.mono (by omega), (bthru hbV1 hbV2)⟩
  · have hw : wid gg = 4 := by unfold wid; rw [hr]; rfl
    rw [hw]
    generalize htz : tz x = z at *
    have HTZ := Lib.hid htz
    clear htz
    refine calls_of_wp Tryd.func108 rfl ?_
    refine sx_frame (a' := ⟨((.slice p (dig B32 x).length c) :: (.int .i64 pw) :: (.int .i64 gg.rad) :: us 21 []).toArray, []⟩) (by kernel_rfl) ?_
    refine yq ?_
    refine yq ?_
    refine wp_seq ?_
    refine ye ?_
    refine yb 1 rfl 11 (gg.rad == 16) (true) (by rw [hr]; rfl) ?_
    refine yzt 0 ?_
    refine yT ?_
    refine yr ?_
    refine sx_then ?_
    refine ye ?_
    refine yc 1 rfl 13 (stay (zeros_any p _ c x w hp.rd rfl (by omega) hT)) (fun Gx hGx => ?_)
    rintro eV1 V1 ⟨rfl, hbV1⟩
    have hzV1 := hbV1.size
    refine ⟨_, rfl, hGx _ _ ?_⟩
    clear hGx Gx
    refine yv 1 rfl 15 (.int .i64 ((z / 4 : Nat) : Int)) ?_ (exec_quo (X := ((tz x : Nat) : Int)) (Y := (4)) ((z / 4 : Nat) : Int) (by kernel_rfl) (by kernel_rfl) ((by decide)) ((by rw [HTZ.out, show ((z : Nat) : Int).tdiv 4 = ((z / 4 : Nat) : Int) by rw [Int.tdiv_eq_ediv_of_nonneg (by omega)]; rfl]; exact IntWalk.i64_in _ (by omega))))
    refine yzt 1 ?_
    refine ye ?_
    refine ya 3 rfl 19 .i64 (((z / 4 : Nat) : Int) * 4) (((z / 4 * 4 : Nat) : Int)) (((IntWalk.i64_in _ (by omega)).trans (by omega))) ?_
    replace hp := (hp.past hbV1)
    refine yc 0 rfl 20 (sshr p _ c x (z / 4 * 4) _ _ V1 hp.rd rfl (by have := hp.le_cap; omega) (by omega) (by omega) rfl rfl) (fun Gx hGx => ?_)
    rintro eV2 V2 ⟨p20, c20, rfl, o20, hbV2⟩
    have hzV2 := hbV2.size
    refine ⟨_, rfl, hGx _ _ ?_⟩
    clear hGx Gx
    refine yi 2 rfl 23 (pw + ((z / 4 : Nat) : Int)) ?_
    refine yzt 2 ?_
    refine wp_ret ?_
    repeat (first | with_reducible refine sx_thenret ?_ | with_reducible refine sx_blockret ?_)
    refine yret (.tuple #[.slice p20 (dig B32 (x / 2 ^ (z / 4 * 4))).length c20, .int .i64 (pw + ((z / 4 : Nat) : Int))]) (res2 Tryd.results108 rvt rvt) ?_
    exact ⟨p20, c20, rfl, o20.mono (by omega), (bthru hbV1 hbV2)⟩
end Go.Proofs.YtcipdimogodndaaDoor

namespace Go.Proofs.YtcipdimogodndaaDoor
open Go.RowKit Go.Slip

def GivesVb (w : World) (v : Vl) (g : Bool) (en : Ending) (w' : World) : Prop :=
  ∃ p c, en = .returned (.tuple #[.agg #[.int .i64 ((v.cls : Nat) : Int), .bool v.neg, .slice p (dig B32 v.d).length c, .int .i64 v.pow], .bool g]) ∧ Own w' w.heap.size .u32 91 p c (dig B32 v.d) ∧ Below w.heap.size w w'
theorem givesVb_of {w w' : World} {v : Vl} {k : Nat} {n g : Bool} {p : Option Addr} {c d base : Nat} {x : Int} {en : Ending} (hv : v = ⟨k, n, d, x⟩) (h : en = .returned (.tuple #[.agg #[.int .i64 ((k : Nat) : Int), .bool n, .slice p (dig B32 d).length c, .int .i64 x], .bool g]))
    (ho : Own w' base .u32 91 p c (dig B32 d)) (hB : w.heap.size ≤ base) (hb : Below w.heap.size w w') : GivesVb w v g en w' := by
  subst hv
  exact ⟨p, c, h, ho.mono hB, hb⟩
theorem givesVb_none {w w' : World} {v : Vl} {k : Nat} {n g : Bool} {en : Ending} (hv : v = ⟨k, n, 0, 0⟩) (h : en = .returned (.tuple #[.agg #[.int .i64 ((k : Nat) : Int), .bool n, .slice none 0 0, .int .i64 0], .bool g])) (hb : Below w.heap.size w w') : GivesVb w v g en w' :=
  givesVb_of (p := none) (c := 0) (base := w.heap.size) hv (by rw [h, dig_zero]; rfl) (by rw [dig_zero]; exact Own.nil _ _ _ _) (Nat.le_refl _) hb

set_option maxRecDepth 100000 in
theorem decode_any (f : Fm) (s : ByteArray) (w : World) (G : GoodF f) (hs : s.size = f.size) (hT : TabW w) :
    Calls Tryd.prog 59 #[.agg #[.int .i64 ((f.size : Nat) : Int), .int .i64 ((f.E : Nat) : Int), .int .i64 ((f.F : Nat) : Int), .int .i64 f.g.rad, .int .i64 f.g.digs, .int .i64 f.g.lo, .int .i64 f.g.hi, .bool f.g.grad, .bool f.hid, .bool f.inf, .bool f.res, .func (.func (ordF f)) #[] #[]], .string s] w (GivesVb w (f.valN (numOfS f s)) (f.neg (numOfS f s))) := by
  have z2 := G.f2
  have he : f.exp (numOfS f s) < 2 ^ f.E := Nat.mod_lt _ (Nat.pow_pos (by omega))
  have hx : f.frac (numOfS f s) < 2 ^ f.F := Nat.mod_lt _ (Nat.pow_pos (by omega))
  have HS := fun W => Lib.hid (split_any f s W G hs)
  unfold Fm.valN Fm.decN
  generalize f.neg (numOfS f s) = g at *
  generalize f.exp (numOfS f s) = e at *
  generalize f.frac (numOfS f s) = x at *
  have HV := fun p c base W h1 h2 => Lib.hid (value_any f g e x p c base W G h1 h2 he hx)
  have k1 := dec_cls f g e x
  have k2 := dec_m (f := f) g (e := e) hx
  have k3 := dec_p G g (frac := x) he
  have k4 := dig_le_pow k2 (k := 3) (by omega)
  have hrd : f.g.rad = 2 ∨ f.g.rad = 16 := by have := G.rad; split at this <;> omega
  clear k2
  generalize f.dec g e x = D at *
  obtain ⟨k, m, pw⟩ := D
  simp only at k1 k3 k4
  have hm0 := dig_len_zero B32_two m
  rcases k1 with rfl | rfl | rfl | rfl | rfl
  · have hv : f.vl g ⟨1, m, pw⟩ = ⟨1, g, 0, 0⟩ := by unfold Fm.vl Dc.c; simp
    have hT3 : SxOne Tryd.prog 3 := sxOne_of (by kernel_rfl) (by kernel_rfl)
    have hT4 : SxOne Tryd.prog 4 := sxOne_of (by kernel_rfl) (by kernel_rfl)
    have hT56 : SxAgg Tryd.prog 56 4 := sxAgg_of (by kernel_rfl) (by kernel_rfl)
    have hT116 : SxAgg Tryd.prog 116 12 := sxAgg_of (by kernel_rfl) (by kernel_rfl)
    have hT137 : SxAgg Tryd.prog 137 3 := sxAgg_of (by kernel_rfl) (by kernel_rfl)
    refine calls_of_wp Tryd.func59 rfl ?_
    refine sx_frame (a' := ⟨((.agg #[.int .i64 ((f.size : Nat) : Int), .int .i64 ((f.E : Nat) : Int), .int .i64 ((f.F : Nat) : Int), .int .i64 f.g.rad, .int .i64 f.g.digs, .int .i64 f.g.lo, .int .i64 f.g.hi, .bool f.g.grad, .bool f.hid, .bool f.inf, .bool f.res, .func (.func (ordF f)) #[] #[]]) :: (.string s) :: us 56 []).toArray, []⟩) (by kernel_rfl) ?_
    refine ye ?_
    refine yw 0 rfl 2 #[.int .i64 ((f.size : Nat) : Int), .int .i64 ((f.E : Nat) : Int), .int .i64 ((f.F : Nat) : Int), .int .i64 f.g.rad, .int .i64 f.g.digs, .int .i64 f.g.lo, .int .i64 f.g.hi, .bool f.g.grad, .bool f.hid, .bool f.inf, .bool f.res, .func (.func (ordF f)) #[] #[]] 116 (fun V1 hbV1 hzV1 b2 => ?_)
    refine yw 0 rfl 4 #[.int .i64 0, .bool false, .slice none 0 0, .int .i64 0] 56 (fun V2 hbV2 hzV2 b4 => ?_)
    refine yzt 1 ?_
    refine ye ?_
    replace b2 := (b2.past hbV2)
    refine yla 0 rfl 11 b2 hT116 0 ?_
    refine yc 1 rfl 13 ((HS V2).out) (fun Gx hGx => ?_)
    rintro eV3 V3 ⟨p13, c13, rfl, o13, hbV3⟩
    have hzV3 := hbV3.size
    refine ⟨_, rfl, hGx _ _ ?_⟩
    clear hGx Gx
    refine yw 0 rfl 6 #[.bool false, .int .i64 0, .slice none 0 0] 137 (fun V4 hbV4 hzV4 b6 => ?_)
    have boV5 := b6
    refine ysw 0 rfl b6 hT137 #[.bool g, .int .i64 ((e : Nat) : Int), .slice p13 (dig B32 x).length c13] ?_
    clear b6
    intro V5 hOV5 b6
    have hzV5 := hOV5.size
    refine yzt 0 ?_
    refine ye ?_
    replace b2 := (b2.past ((bthru hbV3 hbV4).trans (hOV5.below (by omega))))
    refine yla 0 rfl 15 b2 hT116 0 ?_
    refine yla 0 rfl 16 b6 hT137 0 ?_
    replace o13 := (o13.past (hbV4.trans (hOV5.below (by omega))))
    refine yc 0 rfl 17 ((HV p13 c13 _ V5 o13 (by omega)).out) (fun Gx hGx => ?_)
    rintro eV6 V6 ⟨p17, c17, rfl, o17, hbV6⟩
    have hzV6 := hbV6.size
    refine ⟨_, rfl, hGx _ _ ?_⟩
    clear hGx Gx
    refine yzt 7 ?_
    refine ye ?_
    refine yw 2 rfl 10 #[.int .i64 0, .bool false, .slice none 0 0, .int .i64 0] 56 (fun V7 hbV7 hzV7 b10 => ?_)
    have boV8 := b10
    refine ysw 0 rfl b10 hT56 #[.int .i64 1, .bool false, .slice none 0 0, .int .i64 0] ?_
    clear b10
    intro V8 hOV8 b10
    have hzV8 := hOV8.size
    refine yzt 0 ?_
    refine wp_seq ?_
    refine yq ?_
    refine yF ?_
    refine wp_skip ?_
    refine sx_then ?_
    refine wp_seq ?_
    refine ye ?_
    refine yl 1 rfl 32 b10 hT3 0 ?_
    refine yzt 0 ?_
    refine wp_block ?_
    refine yq ?_
    refine yF ?_
    refine wp_seq ?_
    refine yq ?_
    refine yT ?_
    refine wp_skip ?_
    refine sx_then ?_
    refine yT ?_
    refine sx_region ?_
    replace b6 := (b6.past ((bthru hbV6 hbV7).trans (hOV8.below (by omega))))
    refine yl 1 rfl 53 b6 hT4 0 ?_
    have boV9 := b10
    refine ys1 1 rfl b10 hT4 1 (.bool g) #[.int .i64 1, .bool g, .slice none 0 0, .int .i64 0] ?_
    clear b10
    intro V9 hOV9 b10
    have hzV9 := hOV9.size
    refine yz 0 ?_
    refine sx_inblock ?_
    refine sx_then ?_
    refine wp_seq ?_
    replace b6 := (b6.only hOV9 (by omega))
    obtain ⟨V10, hVV10, hbV10, hzV10⟩ := drew_of V9
    replace b10 := (b10.past hbV10)
    replace b6 := (b6.past hbV10)
    refine yd2 hVV10 ⟨b10, b6⟩ ?_
    clear hVV10
    refine ytla 0 rfl 55 (fun _ h => h.1) hT56 0 ⟨b10, b6⟩ ?_
    refine yt 3 [1] rfl ⟨b10, b6⟩ ?_
    refine ytl 2 rfl 57 (fun _ h => h.2) hT4 0 ⟨b10, b6⟩ ?_
    refine sxr [3] ?_
    refine rd1 (fun Kx hKx => ?_)
    replace b4 := (b4.past (bthru (((bthru (bthru ((bthru hbV3 hbV4).trans (hOV5.below (by omega))) hbV6) hbV7).trans (hOV8.below (by omega))).trans (hOV9.below (by omega))) hbV10))
    refine ssk none b4 hT56 0 #[.int .i64 1, .bool g, .slice none 0 0, .int .i64 0] #[.int .i64 1, .bool g, .slice none 0 0, .int .i64 0] ?_
    have boV11 := b4
    clear b4
    intro V11 hOV11 b4
    have hzV11 := hOV11.size
    replace b10 := (b10.only hOV11 (by omega))
    replace b6 := (b6.only hOV11 (by omega))
    refine hKx.out _ _ ⟨b10, b6⟩ ?_
    clear hKx Kx
    refine yt 0 [4] rfl ⟨b10, b6⟩ ?_
    refine sx_done (by kernel_rfl) ?_
    refine sx_then ?_
    refine wp_ret ?_
    repeat (first | with_reducible refine sx_thenret ?_ | with_reducible refine sx_blockret ?_)
    refine yret (.tuple #[.agg #[.int .i64 1, .bool g, .slice none 0 0, .int .i64 0], .bool g]) (res2 Tryd.results59 (rvr b4 hT56) rvt) ?_
    exact givesVb_none hv rfl ((bthru (((bthru (bthru ((bthru (bthru (bthru hbV1 hbV2) hbV3) hbV4).trans (hOV5.below (by omega))) hbV6) hbV7).trans (hOV8.below (by omega))).trans (hOV9.below (by omega))) hbV10).trans (hOV11.below (by omega)))
  · by_cases h0 : m = 0
    · have hv : f.vl g ⟨2, m, pw⟩ = ⟨1, g, 0, 0⟩ := by unfold Fm.vl Dc.c; simp [h0]
      have hT3 : SxOne Tryd.prog 3 := sxOne_of (by kernel_rfl) (by kernel_rfl)
      have hT4 : SxOne Tryd.prog 4 := sxOne_of (by kernel_rfl) (by kernel_rfl)
      have hT56 : SxAgg Tryd.prog 56 4 := sxAgg_of (by kernel_rfl) (by kernel_rfl)
      have hT116 : SxAgg Tryd.prog 116 12 := sxAgg_of (by kernel_rfl) (by kernel_rfl)
      have hT137 : SxAgg Tryd.prog 137 3 := sxAgg_of (by kernel_rfl) (by kernel_rfl)
      refine calls_of_wp Tryd.func59 rfl ?_
      refine sx_frame (a' := ⟨((.agg #[.int .i64 ((f.size : Nat) : Int), .int .i64 ((f.E : Nat) : Int), .int .i64 ((f.F : Nat) : Int), .int .i64 f.g.rad, .int .i64 f.g.digs, .int .i64 f.g.lo, .int .i64 f.g.hi, .bool f.g.grad, .bool f.hid, .bool f.inf, .bool f.res, .func (.func (ordF f)) #[] #[]]) :: (.string s) :: us 56 []).toArray, []⟩) (by kernel_rfl) ?_
      refine ye ?_
      refine yw 0 rfl 2 #[.int .i64 ((f.size : Nat) : Int), .int .i64 ((f.E : Nat) : Int), .int .i64 ((f.F : Nat) : Int), .int .i64 f.g.rad, .int .i64 f.g.digs, .int .i64 f.g.lo, .int .i64 f.g.hi, .bool f.g.grad, .bool f.hid, .bool f.inf, .bool f.res, .func (.func (ordF f)) #[] #[]] 116 (fun V1 hbV1 hzV1 b2 => ?_)
      refine yw 0 rfl 4 #[.int .i64 0, .bool false, .slice none 0 0, .int .i64 0] 56 (fun V2 hbV2 hzV2 b4 => ?_)
      refine yzt 1 ?_
      refine ye ?_
      replace b2 := (b2.past hbV2)
      refine yla 0 rfl 11 b2 hT116 0 ?_
      refine yc 1 rfl 13 ((HS V2).out) (fun Gx hGx => ?_)
      rintro eV3 V3 ⟨p13, c13, rfl, o13, hbV3⟩
      have hzV3 := hbV3.size
      refine ⟨_, rfl, hGx _ _ ?_⟩
      clear hGx Gx
      refine yw 0 rfl 6 #[.bool false, .int .i64 0, .slice none 0 0] 137 (fun V4 hbV4 hzV4 b6 => ?_)
      have boV5 := b6
      refine ysw 0 rfl b6 hT137 #[.bool g, .int .i64 ((e : Nat) : Int), .slice p13 (dig B32 x).length c13] ?_
      clear b6
      intro V5 hOV5 b6
      have hzV5 := hOV5.size
      refine yzt 0 ?_
      refine ye ?_
      replace b2 := (b2.past ((bthru hbV3 hbV4).trans (hOV5.below (by omega))))
      refine yla 0 rfl 15 b2 hT116 0 ?_
      refine yla 0 rfl 16 b6 hT137 0 ?_
      replace o13 := (o13.past (hbV4.trans (hOV5.below (by omega))))
      refine yc 0 rfl 17 ((HV p13 c13 _ V5 o13 (by omega)).out) (fun Gx hGx => ?_)
      rintro eV6 V6 ⟨p17, c17, rfl, o17, hbV6⟩
      have hzV6 := hbV6.size
      refine ⟨_, rfl, hGx _ _ ?_⟩
      clear hGx Gx
      refine yzt 7 ?_
      refine ye ?_
      refine yw 2 rfl 10 #[.int .i64 0, .bool false, .slice none 0 0, .int .i64 0] 56 (fun V7 hbV7 hzV7 b10 => ?_)
      have boV8 := b10
      refine ysw 0 rfl b10 hT56 #[.int .i64 2, .bool false, .slice none 0 0, .int .i64 0] ?_
      clear b10
      intro V8 hOV8 b10
      have hzV8 := hOV8.size
      refine yzt 0 ?_
      refine wp_seq ?_
      refine ye ?_
      refine yb 5 rfl 28 ((((dig B32 m).length : Nat) : Int) == 0) (true) (beq_iff_eq.2 (by omega)) ?_
      refine yzt 1 ?_
      refine yT ?_
      refine sx_region ?_
      have boV9 := b10
      refine ys1 1 rfl b10 hT3 0 (.int .i64 1) #[.int .i64 1, .bool false, .slice none 0 0, .int .i64 0] ?_
      clear b10
      intro V9 hOV9 b10
      have hzV9 := hOV9.size
      refine yz 0 ?_
      refine sx_then ?_
      refine wp_seq ?_
      refine ye ?_
      refine yl 1 rfl 32 b10 hT3 0 ?_
      refine yzt 0 ?_
      refine wp_block ?_
      refine yq ?_
      refine yF ?_
      refine wp_seq ?_
      refine yq ?_
      refine yT ?_
      refine wp_skip ?_
      refine sx_then ?_
      refine yT ?_
      refine sx_region ?_
      replace b6 := (b6.past (((bthru hbV6 hbV7).trans (hOV8.below (by omega))).trans (hOV9.below (by omega))))
      refine yl 1 rfl 53 b6 hT4 0 ?_
      have boV10 := b10
      refine ys1 1 rfl b10 hT4 1 (.bool g) #[.int .i64 1, .bool g, .slice none 0 0, .int .i64 0] ?_
      clear b10
      intro V10 hOV10 b10
      have hzV10 := hOV10.size
      refine yz 0 ?_
      refine sx_inblock ?_
      refine sx_then ?_
      refine wp_seq ?_
      replace b6 := (b6.only hOV10 (by omega))
      obtain ⟨V11, hVV11, hbV11, hzV11⟩ := drew_of V10
      replace b10 := (b10.past hbV11)
      replace b6 := (b6.past hbV11)
      refine yd2 hVV11 ⟨b10, b6⟩ ?_
      clear hVV11
      refine ytla 0 rfl 55 (fun _ h => h.1) hT56 0 ⟨b10, b6⟩ ?_
      refine yt 3 [1] rfl ⟨b10, b6⟩ ?_
      refine ytl 2 rfl 57 (fun _ h => h.2) hT4 0 ⟨b10, b6⟩ ?_
      refine sxr [3] ?_
      refine rd1 (fun Kx hKx => ?_)
      replace b4 := (b4.past (bthru ((((bthru (bthru ((bthru hbV3 hbV4).trans (hOV5.below (by omega))) hbV6) hbV7).trans (hOV8.below (by omega))).trans (hOV9.below (by omega))).trans (hOV10.below (by omega))) hbV11))
      refine ssk none b4 hT56 0 #[.int .i64 1, .bool g, .slice none 0 0, .int .i64 0] #[.int .i64 1, .bool g, .slice none 0 0, .int .i64 0] ?_
      have boV12 := b4
      clear b4
      intro V12 hOV12 b4
      have hzV12 := hOV12.size
      replace b10 := (b10.only hOV12 (by omega))
      replace b6 := (b6.only hOV12 (by omega))
      refine hKx.out _ _ ⟨b10, b6⟩ ?_
      clear hKx Kx
      refine yt 0 [4] rfl ⟨b10, b6⟩ ?_
      refine sx_done (by kernel_rfl) ?_
      refine sx_then ?_
      refine wp_ret ?_
      repeat (first | with_reducible refine sx_thenret ?_ | with_reducible refine sx_blockret ?_)
      refine yret (.tuple #[.agg #[.int .i64 1, .bool g, .slice none 0 0, .int .i64 0], .bool g]) (res2 Tryd.results59 (rvr b4 hT56) rvt) ?_
      exact givesVb_none hv rfl ((bthru ((((bthru (bthru ((bthru (bthru (bthru hbV1 hbV2) hbV3) hbV4).trans (hOV5.below (by omega))) hbV6) hbV7).trans (hOV8.below (by omega))).trans (hOV9.below (by omega))).trans (hOV10.below (by omega))) hbV11).trans (hOV12.below (by omega)))
    · have hv : f.vl g ⟨2, m, pw⟩ = ⟨2, g, m / 2 ^ (tz m / wid f.g * wid f.g), pw + (tz m / wid f.g : Nat)⟩ := by unfold Fm.vl Dc.c; simp [h0]
      have HB := fun p c base W h1 hT => Lib.hid (cbare_any p c m pw f.g base W h1 (by omega) (by omega) hrd hT)
      generalize m / 2 ^ (tz m / wid f.g * wid f.g) = mm at *
      generalize pw + ((tz m / wid f.g : Nat) : Int) = pp at *
      have hT3 : SxOne Tryd.prog 3 := sxOne_of (by kernel_rfl) (by kernel_rfl)
      have hT4 : SxOne Tryd.prog 4 := sxOne_of (by kernel_rfl) (by kernel_rfl)
      have hT23 : SxOne Tryd.prog 23 := sxOne_of (by kernel_rfl) (by kernel_rfl)
      have hT56 : SxAgg Tryd.prog 56 4 := sxAgg_of (by kernel_rfl) (by kernel_rfl)
      have hT116 : SxAgg Tryd.prog 116 12 := sxAgg_of (by kernel_rfl) (by kernel_rfl)
      have hT137 : SxAgg Tryd.prog 137 3 := sxAgg_of (by kernel_rfl) (by kernel_rfl)
      refine calls_of_wp Tryd.func59 rfl ?_
      refine sx_frame (a' := ⟨((.agg #[.int .i64 ((f.size : Nat) : Int), .int .i64 ((f.E : Nat) : Int), .int .i64 ((f.F : Nat) : Int), .int .i64 f.g.rad, .int .i64 f.g.digs, .int .i64 f.g.lo, .int .i64 f.g.hi, .bool f.g.grad, .bool f.hid, .bool f.inf, .bool f.res, .func (.func (ordF f)) #[] #[]]) :: (.string s) :: us 56 []).toArray, []⟩) (by kernel_rfl) ?_
      refine ye ?_
      refine yw 0 rfl 2 #[.int .i64 ((f.size : Nat) : Int), .int .i64 ((f.E : Nat) : Int), .int .i64 ((f.F : Nat) : Int), .int .i64 f.g.rad, .int .i64 f.g.digs, .int .i64 f.g.lo, .int .i64 f.g.hi, .bool f.g.grad, .bool f.hid, .bool f.inf, .bool f.res, .func (.func (ordF f)) #[] #[]] 116 (fun V1 hbV1 hzV1 b2 => ?_)
      refine yw 0 rfl 4 #[.int .i64 0, .bool false, .slice none 0 0, .int .i64 0] 56 (fun V2 hbV2 hzV2 b4 => ?_)
      refine yzt 1 ?_
      refine ye ?_
      replace b2 := (b2.past hbV2)
      refine yla 0 rfl 11 b2 hT116 0 ?_
      refine yc 1 rfl 13 ((HS V2).out) (fun Gx hGx => ?_)
      rintro eV3 V3 ⟨p13, c13, rfl, o13, hbV3⟩
      have hzV3 := hbV3.size
      refine ⟨_, rfl, hGx _ _ ?_⟩
      clear hGx Gx
      refine yw 0 rfl 6 #[.bool false, .int .i64 0, .slice none 0 0] 137 (fun V4 hbV4 hzV4 b6 => ?_)
      have boV5 := b6
      refine ysw 0 rfl b6 hT137 #[.bool g, .int .i64 ((e : Nat) : Int), .slice p13 (dig B32 x).length c13] ?_
      clear b6
      intro V5 hOV5 b6
      have hzV5 := hOV5.size
      refine yzt 0 ?_
      refine ye ?_
      replace b2 := (b2.past ((bthru hbV3 hbV4).trans (hOV5.below (by omega))))
      refine yla 0 rfl 15 b2 hT116 0 ?_
      refine yla 0 rfl 16 b6 hT137 0 ?_
      replace o13 := (o13.past (hbV4.trans (hOV5.below (by omega))))
      refine yc 0 rfl 17 ((HV p13 c13 _ V5 o13 (by omega)).out) (fun Gx hGx => ?_)
      rintro eV6 V6 ⟨p17, c17, rfl, o17, hbV6⟩
      have hzV6 := hbV6.size
      refine ⟨_, rfl, hGx _ _ ?_⟩
      clear hGx Gx
      refine yzt 7 ?_
      refine ye ?_
      refine yw 2 rfl 10 #[.int .i64 0, .bool false, .slice none 0 0, .int .i64 0] 56 (fun V7 hbV7 hzV7 b10 => ?_)
      have boV8 := b10
      refine ysw 0 rfl b10 hT56 #[.int .i64 2, .bool false, .slice none 0 0, .int .i64 0] ?_
      clear b10
      intro V8 hOV8 b10
      have hzV8 := hOV8.size
      refine yzt 0 ?_
      refine wp_seq ?_
      refine ye ?_
      refine yb 5 rfl 28 ((((dig B32 m).length : Nat) : Int) == 0) (false) (beq_eq_false_iff_ne.2 (by omega)) ?_
      refine yzt 1 ?_
      refine yF ?_
      refine wp_skip ?_
      refine sx_then ?_
      refine wp_seq ?_
      refine ye ?_
      refine yl 1 rfl 32 b10 hT3 0 ?_
      refine yzt 0 ?_
      refine wp_block ?_
      refine yq ?_
      refine yT ?_
      refine ye ?_
      replace b6 := (b6.past ((bthru hbV6 hbV7).trans (hOV8.below (by omega))))
      refine yl 1 rfl 36 b6 hT4 0 ?_
      have boV9 := b10
      refine ys1 1 rfl b10 hT4 1 (.bool g) #[.int .i64 2, .bool g, .slice none 0 0, .int .i64 0] ?_
      clear b10
      intro V9 hOV9 b10
      have hzV9 := hOV9.size
      refine yzt 0 ?_
      refine sx_region ?_
      replace b2 := (b2.past (((bthru hbV6 hbV7).trans (hOV8.below (by omega))).trans (hOV9.below (by omega))))
      refine yl 4 rfl 43 b2 hT3 3 ?_
      replace o17 := (o17.past ((hbV7.trans (hOV8.below (by omega))).trans (hOV9.below (by omega))))
      replace hT := (hT.past (((bthru (bthru ((bthru (bthru (bthru hbV1 hbV2) hbV3) hbV4).trans (hOV5.below (by omega))) hbV6) hbV7).trans (hOV8.below (by omega))).trans (hOV9.below (by omega))))
      refine yc 0 rfl 44 ((HB p17 c17 _ V9 o17 hT).out) (fun Gx hGx => ?_)
      rintro eV10 V10 ⟨q44, d44, rfl, o44, hbV10⟩
      have hzV10 := hbV10.size
      refine ⟨_, rfl, hGx _ _ ?_⟩
      clear hGx Gx
      replace b10 := (b10.past hbV10)
      have boV11 := b10
      refine ys1 4 rfl b10 hT23 2 (.slice q44 (dig B32 mm).length d44) #[.int .i64 2, .bool g, .slice q44 (dig B32 mm).length d44, .int .i64 0] ?_
      clear b10
      intro V11 hOV11 b10
      have hzV11 := hOV11.size
      have boV12 := b10
      refine ys1 1 rfl b10 hT3 3 (.int .i64 pp) #[.int .i64 2, .bool g, .slice q44 (dig B32 mm).length d44, .int .i64 pp] ?_
      clear b10
      intro V12 hOV12 b10
      have hzV12 := hOV12.size
      refine yz 0 ?_
      refine sx_inblock ?_
      refine sx_then ?_
      refine wp_seq ?_
      replace b6 := ((((b6.only hOV9 (by omega)).past hbV10).only hOV11 (by omega)).only hOV12 (by omega))
      obtain ⟨V13, hVV13, hbV13, hzV13⟩ := drew_of V12
      replace b10 := (b10.past hbV13)
      replace b6 := (b6.past hbV13)
      refine yd2 hVV13 ⟨b10, b6⟩ ?_
      clear hVV13
      refine ytla 0 rfl 55 (fun _ h => h.1) hT56 0 ⟨b10, b6⟩ ?_
      refine yt 3 [1] rfl ⟨b10, b6⟩ ?_
      refine ytl 2 rfl 57 (fun _ h => h.2) hT4 0 ⟨b10, b6⟩ ?_
      refine sxr [3] ?_
      refine rd1 (fun Kx hKx => ?_)
      replace b4 := (b4.past (bthru (((bthru (((bthru (bthru ((bthru hbV3 hbV4).trans (hOV5.below (by omega))) hbV6) hbV7).trans (hOV8.below (by omega))).trans (hOV9.below (by omega))) hbV10).trans (hOV11.below (by omega))).trans (hOV12.below (by omega))) hbV13))
      refine ssk none b4 hT56 0 #[.int .i64 2, .bool g, .slice q44 (dig B32 mm).length d44, .int .i64 pp] #[.int .i64 2, .bool g, .slice q44 (dig B32 mm).length d44, .int .i64 pp] ?_
      have boV14 := b4
      clear b4
      intro V14 hOV14 b4
      have hzV14 := hOV14.size
      replace b10 := (b10.only hOV14 (by omega))
      replace b6 := (b6.only hOV14 (by omega))
      refine hKx.out _ _ ⟨b10, b6⟩ ?_
      clear hKx Kx
      refine yt 0 [4] rfl ⟨b10, b6⟩ ?_
      refine sx_done (by kernel_rfl) ?_
      refine sx_then ?_
      refine wp_ret ?_
      repeat (first | with_reducible refine sx_thenret ?_ | with_reducible refine sx_blockret ?_)
      refine yret (.tuple #[.agg #[.int .i64 2, .bool g, .slice q44 (dig B32 mm).length d44, .int .i64 pp], .bool g]) (res2 Tryd.results59 (rvr b4 hT56) rvt) ?_
      replace o44 := ((((o44.put boV11 hOV11 (by kernel_rfl)).put boV12 hOV12 (by kernel_rfl)).past hbV13).put boV14 hOV14 (by kernel_rfl))
      exact givesVb_of hv rfl o44 (by omega) ((bthru (((bthru (((bthru (bthru ((bthru (bthru (bthru hbV1 hbV2) hbV3) hbV4).trans (hOV5.below (by omega))) hbV6) hbV7).trans (hOV8.below (by omega))).trans (hOV9.below (by omega))) hbV10).trans (hOV11.below (by omega))).trans (hOV12.below (by omega))) hbV13).trans (hOV14.below (by omega)))
  · have hv : f.vl g ⟨3, m, pw⟩ = ⟨3, g, 0, 0⟩ := by unfold Fm.vl Dc.c; simp
    have hT3 : SxOne Tryd.prog 3 := sxOne_of (by kernel_rfl) (by kernel_rfl)
    have hT4 : SxOne Tryd.prog 4 := sxOne_of (by kernel_rfl) (by kernel_rfl)
    have hT56 : SxAgg Tryd.prog 56 4 := sxAgg_of (by kernel_rfl) (by kernel_rfl)
    have hT116 : SxAgg Tryd.prog 116 12 := sxAgg_of (by kernel_rfl) (by kernel_rfl)
    have hT137 : SxAgg Tryd.prog 137 3 := sxAgg_of (by kernel_rfl) (by kernel_rfl)
    refine calls_of_wp Tryd.func59 rfl ?_
    refine sx_frame (a' := ⟨((.agg #[.int .i64 ((f.size : Nat) : Int), .int .i64 ((f.E : Nat) : Int), .int .i64 ((f.F : Nat) : Int), .int .i64 f.g.rad, .int .i64 f.g.digs, .int .i64 f.g.lo, .int .i64 f.g.hi, .bool f.g.grad, .bool f.hid, .bool f.inf, .bool f.res, .func (.func (ordF f)) #[] #[]]) :: (.string s) :: us 56 []).toArray, []⟩) (by kernel_rfl) ?_
    refine ye ?_
    refine yw 0 rfl 2 #[.int .i64 ((f.size : Nat) : Int), .int .i64 ((f.E : Nat) : Int), .int .i64 ((f.F : Nat) : Int), .int .i64 f.g.rad, .int .i64 f.g.digs, .int .i64 f.g.lo, .int .i64 f.g.hi, .bool f.g.grad, .bool f.hid, .bool f.inf, .bool f.res, .func (.func (ordF f)) #[] #[]] 116 (fun V1 hbV1 hzV1 b2 => ?_)
    refine yw 0 rfl 4 #[.int .i64 0, .bool false, .slice none 0 0, .int .i64 0] 56 (fun V2 hbV2 hzV2 b4 => ?_)
    refine yzt 1 ?_
    refine ye ?_
    replace b2 := (b2.past hbV2)
    refine yla 0 rfl 11 b2 hT116 0 ?_
    refine yc 1 rfl 13 ((HS V2).out) (fun Gx hGx => ?_)
    rintro eV3 V3 ⟨p13, c13, rfl, o13, hbV3⟩
    have hzV3 := hbV3.size
    refine ⟨_, rfl, hGx _ _ ?_⟩
    clear hGx Gx
    refine yw 0 rfl 6 #[.bool false, .int .i64 0, .slice none 0 0] 137 (fun V4 hbV4 hzV4 b6 => ?_)
    have boV5 := b6
    refine ysw 0 rfl b6 hT137 #[.bool g, .int .i64 ((e : Nat) : Int), .slice p13 (dig B32 x).length c13] ?_
    clear b6
    intro V5 hOV5 b6
    have hzV5 := hOV5.size
    refine yzt 0 ?_
    refine ye ?_
    replace b2 := (b2.past ((bthru hbV3 hbV4).trans (hOV5.below (by omega))))
    refine yla 0 rfl 15 b2 hT116 0 ?_
    refine yla 0 rfl 16 b6 hT137 0 ?_
    replace o13 := (o13.past (hbV4.trans (hOV5.below (by omega))))
    refine yc 0 rfl 17 ((HV p13 c13 _ V5 o13 (by omega)).out) (fun Gx hGx => ?_)
    rintro eV6 V6 ⟨p17, c17, rfl, o17, hbV6⟩
    have hzV6 := hbV6.size
    refine ⟨_, rfl, hGx _ _ ?_⟩
    clear hGx Gx
    refine yzt 7 ?_
    refine ye ?_
    refine yw 2 rfl 10 #[.int .i64 0, .bool false, .slice none 0 0, .int .i64 0] 56 (fun V7 hbV7 hzV7 b10 => ?_)
    have boV8 := b10
    refine ysw 0 rfl b10 hT56 #[.int .i64 3, .bool false, .slice none 0 0, .int .i64 0] ?_
    clear b10
    intro V8 hOV8 b10
    have hzV8 := hOV8.size
    refine yzt 0 ?_
    refine wp_seq ?_
    refine yq ?_
    refine yF ?_
    refine wp_skip ?_
    refine sx_then ?_
    refine wp_seq ?_
    refine ye ?_
    refine yl 1 rfl 32 b10 hT3 0 ?_
    refine yzt 0 ?_
    refine wp_block ?_
    refine yq ?_
    refine yF ?_
    refine wp_seq ?_
    refine yq ?_
    refine yF ?_
    refine yr ?_
    refine sx_then ?_
    refine yT ?_
    refine sx_region ?_
    replace b6 := (b6.past ((bthru hbV6 hbV7).trans (hOV8.below (by omega))))
    refine yl 1 rfl 53 b6 hT4 0 ?_
    have boV9 := b10
    refine ys1 1 rfl b10 hT4 1 (.bool g) #[.int .i64 3, .bool g, .slice none 0 0, .int .i64 0] ?_
    clear b10
    intro V9 hOV9 b10
    have hzV9 := hOV9.size
    refine yz 0 ?_
    refine sx_inblock ?_
    refine sx_then ?_
    refine wp_seq ?_
    replace b6 := (b6.only hOV9 (by omega))
    obtain ⟨V10, hVV10, hbV10, hzV10⟩ := drew_of V9
    replace b10 := (b10.past hbV10)
    replace b6 := (b6.past hbV10)
    refine yd2 hVV10 ⟨b10, b6⟩ ?_
    clear hVV10
    refine ytla 0 rfl 55 (fun _ h => h.1) hT56 0 ⟨b10, b6⟩ ?_
    refine yt 3 [1] rfl ⟨b10, b6⟩ ?_
    refine ytl 2 rfl 57 (fun _ h => h.2) hT4 0 ⟨b10, b6⟩ ?_
    refine sxr [3] ?_
    refine rd1 (fun Kx hKx => ?_)
    replace b4 := (b4.past (bthru (((bthru (bthru ((bthru hbV3 hbV4).trans (hOV5.below (by omega))) hbV6) hbV7).trans (hOV8.below (by omega))).trans (hOV9.below (by omega))) hbV10))
    refine ssk none b4 hT56 0 #[.int .i64 3, .bool g, .slice none 0 0, .int .i64 0] #[.int .i64 3, .bool g, .slice none 0 0, .int .i64 0] ?_
    have boV11 := b4
    clear b4
    intro V11 hOV11 b4
    have hzV11 := hOV11.size
    replace b10 := (b10.only hOV11 (by omega))
    replace b6 := (b6.only hOV11 (by omega))
    refine hKx.out _ _ ⟨b10, b6⟩ ?_
    clear hKx Kx
    refine yt 0 [4] rfl ⟨b10, b6⟩ ?_
    refine sx_done (by kernel_rfl) ?_
    refine sx_then ?_
    refine wp_ret ?_
    repeat (first | with_reducible refine sx_thenret ?_ | with_reducible refine sx_blockret ?_)
    refine yret (.tuple #[.agg #[.int .i64 3, .bool g, .slice none 0 0, .int .i64 0], .bool g]) (res2 Tryd.results59 (rvr b4 hT56) rvt) ?_
    exact givesVb_none hv rfl ((bthru (((bthru (bthru ((bthru (bthru (bthru hbV1 hbV2) hbV3) hbV4).trans (hOV5.below (by omega))) hbV6) hbV7).trans (hOV8.below (by omega))).trans (hOV9.below (by omega))) hbV10).trans (hOV11.below (by omega)))
  · have hv : f.vl g ⟨4, m, pw⟩ = ⟨4, false, 0, 0⟩ := by unfold Fm.vl Dc.c; simp
    have hT3 : SxOne Tryd.prog 3 := sxOne_of (by kernel_rfl) (by kernel_rfl)
    have hT4 : SxOne Tryd.prog 4 := sxOne_of (by kernel_rfl) (by kernel_rfl)
    have hT56 : SxAgg Tryd.prog 56 4 := sxAgg_of (by kernel_rfl) (by kernel_rfl)
    have hT116 : SxAgg Tryd.prog 116 12 := sxAgg_of (by kernel_rfl) (by kernel_rfl)
    have hT137 : SxAgg Tryd.prog 137 3 := sxAgg_of (by kernel_rfl) (by kernel_rfl)
    refine calls_of_wp Tryd.func59 rfl ?_
    refine sx_frame (a' := ⟨((.agg #[.int .i64 ((f.size : Nat) : Int), .int .i64 ((f.E : Nat) : Int), .int .i64 ((f.F : Nat) : Int), .int .i64 f.g.rad, .int .i64 f.g.digs, .int .i64 f.g.lo, .int .i64 f.g.hi, .bool f.g.grad, .bool f.hid, .bool f.inf, .bool f.res, .func (.func (ordF f)) #[] #[]]) :: (.string s) :: us 56 []).toArray, []⟩) (by kernel_rfl) ?_
    refine ye ?_
    refine yw 0 rfl 2 #[.int .i64 ((f.size : Nat) : Int), .int .i64 ((f.E : Nat) : Int), .int .i64 ((f.F : Nat) : Int), .int .i64 f.g.rad, .int .i64 f.g.digs, .int .i64 f.g.lo, .int .i64 f.g.hi, .bool f.g.grad, .bool f.hid, .bool f.inf, .bool f.res, .func (.func (ordF f)) #[] #[]] 116 (fun V1 hbV1 hzV1 b2 => ?_)
    refine yw 0 rfl 4 #[.int .i64 0, .bool false, .slice none 0 0, .int .i64 0] 56 (fun V2 hbV2 hzV2 b4 => ?_)
    refine yzt 1 ?_
    refine ye ?_
    replace b2 := (b2.past hbV2)
    refine yla 0 rfl 11 b2 hT116 0 ?_
    refine yc 1 rfl 13 ((HS V2).out) (fun Gx hGx => ?_)
    rintro eV3 V3 ⟨p13, c13, rfl, o13, hbV3⟩
    have hzV3 := hbV3.size
    refine ⟨_, rfl, hGx _ _ ?_⟩
    clear hGx Gx
    refine yw 0 rfl 6 #[.bool false, .int .i64 0, .slice none 0 0] 137 (fun V4 hbV4 hzV4 b6 => ?_)
    have boV5 := b6
    refine ysw 0 rfl b6 hT137 #[.bool g, .int .i64 ((e : Nat) : Int), .slice p13 (dig B32 x).length c13] ?_
    clear b6
    intro V5 hOV5 b6
    have hzV5 := hOV5.size
    refine yzt 0 ?_
    refine ye ?_
    replace b2 := (b2.past ((bthru hbV3 hbV4).trans (hOV5.below (by omega))))
    refine yla 0 rfl 15 b2 hT116 0 ?_
    refine yla 0 rfl 16 b6 hT137 0 ?_
    replace o13 := (o13.past (hbV4.trans (hOV5.below (by omega))))
    refine yc 0 rfl 17 ((HV p13 c13 _ V5 o13 (by omega)).out) (fun Gx hGx => ?_)
    rintro eV6 V6 ⟨p17, c17, rfl, o17, hbV6⟩
    have hzV6 := hbV6.size
    refine ⟨_, rfl, hGx _ _ ?_⟩
    clear hGx Gx
    refine yzt 7 ?_
    refine ye ?_
    refine yw 2 rfl 10 #[.int .i64 0, .bool false, .slice none 0 0, .int .i64 0] 56 (fun V7 hbV7 hzV7 b10 => ?_)
    have boV8 := b10
    refine ysw 0 rfl b10 hT56 #[.int .i64 4, .bool false, .slice none 0 0, .int .i64 0] ?_
    clear b10
    intro V8 hOV8 b10
    have hzV8 := hOV8.size
    refine yzt 0 ?_
    refine wp_seq ?_
    refine yq ?_
    refine yF ?_
    refine wp_skip ?_
    refine sx_then ?_
    refine wp_seq ?_
    refine ye ?_
    refine yl 1 rfl 32 b10 hT3 0 ?_
    refine yzt 0 ?_
    refine wp_block ?_
    refine yq ?_
    refine yF ?_
    refine wp_seq ?_
    refine yq ?_
    refine yF ?_
    refine yr ?_
    refine sx_then ?_
    refine yF ?_
    refine wp_skip ?_
    refine sx_inblock ?_
    refine sx_then ?_
    refine wp_seq ?_
    replace b6 := (b6.past ((bthru hbV6 hbV7).trans (hOV8.below (by omega))))
    obtain ⟨V9, hVV9, hbV9, hzV9⟩ := drew_of V8
    replace b10 := (b10.past hbV9)
    replace b6 := (b6.past hbV9)
    refine yd2 hVV9 ⟨b10, b6⟩ ?_
    clear hVV9
    refine ytla 0 rfl 55 (fun _ h => h.1) hT56 0 ⟨b10, b6⟩ ?_
    refine yt 3 [1] rfl ⟨b10, b6⟩ ?_
    refine ytl 2 rfl 57 (fun _ h => h.2) hT4 0 ⟨b10, b6⟩ ?_
    refine sxr [3] ?_
    refine rd1 (fun Kx hKx => ?_)
    replace b4 := (b4.past (bthru ((bthru (bthru ((bthru hbV3 hbV4).trans (hOV5.below (by omega))) hbV6) hbV7).trans (hOV8.below (by omega))) hbV9))
    refine ssk none b4 hT56 0 #[.int .i64 4, .bool false, .slice none 0 0, .int .i64 0] #[.int .i64 4, .bool false, .slice none 0 0, .int .i64 0] ?_
    have boV10 := b4
    clear b4
    intro V10 hOV10 b4
    have hzV10 := hOV10.size
    replace b10 := (b10.only hOV10 (by omega))
    replace b6 := (b6.only hOV10 (by omega))
    refine hKx.out _ _ ⟨b10, b6⟩ ?_
    clear hKx Kx
    refine yt 0 [4] rfl ⟨b10, b6⟩ ?_
    refine sx_done (by kernel_rfl) ?_
    refine sx_then ?_
    refine wp_ret ?_
    repeat (first | with_reducible refine sx_thenret ?_ | with_reducible refine sx_blockret ?_)
    refine yret (.tuple #[.agg #[.int .i64 4, .bool false, .slice none 0 0, .int .i64 0], .bool g]) (res2 Tryd.results59 (rvr b4 hT56) rvt) ?_
    exact givesVb_none hv rfl ((bthru ((bthru (bthru ((bthru (bthru (bthru hbV1 hbV2) hbV3) hbV4).trans (hOV5.below (by omega))) hbV6) hbV7).trans (hOV8.below (by omega))) hbV9).trans (hOV10.below (by omega)))
  · have hv : f.vl g ⟨5, m, pw⟩ = ⟨5, false, 0, 0⟩ := by unfold Fm.vl Dc.c; simp
    have hT3 : SxOne Tryd.prog 3 := sxOne_of (by kernel_rfl) (by kernel_rfl)
    have hT4 : SxOne Tryd.prog 4 := sxOne_of (by kernel_rfl) (by kernel_rfl)
    have hT56 : SxAgg Tryd.prog 56 4 := sxAgg_of (by kernel_rfl) (by kernel_rfl)
    have hT116 : SxAgg Tryd.prog 116 12 := sxAgg_of (by kernel_rfl) (by kernel_rfl)
    have hT137 : SxAgg Tryd.prog 137 3 := sxAgg_of (by kernel_rfl) (by kernel_rfl)
    refine calls_of_wp Tryd.func59 rfl ?_
    refine sx_frame (a' := ⟨((.agg #[.int .i64 ((f.size : Nat) : Int), .int .i64 ((f.E : Nat) : Int), .int .i64 ((f.F : Nat) : Int), .int .i64 f.g.rad, .int .i64 f.g.digs, .int .i64 f.g.lo, .int .i64 f.g.hi, .bool f.g.grad, .bool f.hid, .bool f.inf, .bool f.res, .func (.func (ordF f)) #[] #[]]) :: (.string s) :: us 56 []).toArray, []⟩) (by kernel_rfl) ?_
    refine ye ?_
    refine yw 0 rfl 2 #[.int .i64 ((f.size : Nat) : Int), .int .i64 ((f.E : Nat) : Int), .int .i64 ((f.F : Nat) : Int), .int .i64 f.g.rad, .int .i64 f.g.digs, .int .i64 f.g.lo, .int .i64 f.g.hi, .bool f.g.grad, .bool f.hid, .bool f.inf, .bool f.res, .func (.func (ordF f)) #[] #[]] 116 (fun V1 hbV1 hzV1 b2 => ?_)
    refine yw 0 rfl 4 #[.int .i64 0, .bool false, .slice none 0 0, .int .i64 0] 56 (fun V2 hbV2 hzV2 b4 => ?_)
    refine yzt 1 ?_
    refine ye ?_
    replace b2 := (b2.past hbV2)
    refine yla 0 rfl 11 b2 hT116 0 ?_
    refine yc 1 rfl 13 ((HS V2).out) (fun Gx hGx => ?_)
    rintro eV3 V3 ⟨p13, c13, rfl, o13, hbV3⟩
    have hzV3 := hbV3.size
    refine ⟨_, rfl, hGx _ _ ?_⟩
    clear hGx Gx
    refine yw 0 rfl 6 #[.bool false, .int .i64 0, .slice none 0 0] 137 (fun V4 hbV4 hzV4 b6 => ?_)
    have boV5 := b6
    refine ysw 0 rfl b6 hT137 #[.bool g, .int .i64 ((e : Nat) : Int), .slice p13 (dig B32 x).length c13] ?_
    clear b6
    intro V5 hOV5 b6
    have hzV5 := hOV5.size
    refine yzt 0 ?_
    refine ye ?_
    replace b2 := (b2.past ((bthru hbV3 hbV4).trans (hOV5.below (by omega))))
    refine yla 0 rfl 15 b2 hT116 0 ?_
    refine yla 0 rfl 16 b6 hT137 0 ?_
    replace o13 := (o13.past (hbV4.trans (hOV5.below (by omega))))
    refine yc 0 rfl 17 ((HV p13 c13 _ V5 o13 (by omega)).out) (fun Gx hGx => ?_)
    rintro eV6 V6 ⟨p17, c17, rfl, o17, hbV6⟩
    have hzV6 := hbV6.size
    refine ⟨_, rfl, hGx _ _ ?_⟩
    clear hGx Gx
    refine yzt 7 ?_
    refine ye ?_
    refine yw 2 rfl 10 #[.int .i64 0, .bool false, .slice none 0 0, .int .i64 0] 56 (fun V7 hbV7 hzV7 b10 => ?_)
    have boV8 := b10
    refine ysw 0 rfl b10 hT56 #[.int .i64 5, .bool false, .slice none 0 0, .int .i64 0] ?_
    clear b10
    intro V8 hOV8 b10
    have hzV8 := hOV8.size
    refine yzt 0 ?_
    refine wp_seq ?_
    refine yq ?_
    refine yF ?_
    refine wp_skip ?_
    refine sx_then ?_
    refine wp_seq ?_
    refine ye ?_
    refine yl 1 rfl 32 b10 hT3 0 ?_
    refine yzt 0 ?_
    refine wp_block ?_
    refine yq ?_
    refine yF ?_
    refine wp_seq ?_
    refine yq ?_
    refine yF ?_
    refine yr ?_
    refine sx_then ?_
    refine yF ?_
    refine wp_skip ?_
    refine sx_inblock ?_
    refine sx_then ?_
    refine wp_seq ?_
    replace b6 := (b6.past ((bthru hbV6 hbV7).trans (hOV8.below (by omega))))
    obtain ⟨V9, hVV9, hbV9, hzV9⟩ := drew_of V8
    replace b10 := (b10.past hbV9)
    replace b6 := (b6.past hbV9)
    refine yd2 hVV9 ⟨b10, b6⟩ ?_
    clear hVV9
    refine ytla 0 rfl 55 (fun _ h => h.1) hT56 0 ⟨b10, b6⟩ ?_
    refine yt 3 [1] rfl ⟨b10, b6⟩ ?_
    refine ytl 2 rfl 57 (fun _ h => h.2) hT4 0 ⟨b10, b6⟩ ?_
    refine sxr [3] ?_
    refine rd1 (fun Kx hKx => ?_)
    replace b4 := (b4.past (bthru ((bthru (bthru ((bthru hbV3 hbV4).trans (hOV5.below (by omega))) hbV6) hbV7).trans (hOV8.below (by omega))) hbV9))
    refine ssk none b4 hT56 0 #[.int .i64 5, .bool false, .slice none 0 0, .int .i64 0] #[.int .i64 5, .bool false, .slice none 0 0, .int .i64 0] ?_
    have boV10 := b4
    clear b4
    intro V10 hOV10 b4
    have hzV10 := hOV10.size
    replace b10 := (b10.only hOV10 (by omega))
    replace b6 := (b6.only hOV10 (by omega))
    refine hKx.out _ _ ⟨b10, b6⟩ ?_
    clear hKx Kx
    refine yt 0 [4] rfl ⟨b10, b6⟩ ?_
    refine sx_done (by kernel_rfl) ?_
    refine sx_then ?_
    refine wp_ret ?_
    repeat (first | with_reducible refine sx_thenret ?_ | with_reducible refine sx_blockret ?_)
    refine yret (.tuple #[.agg #[.int .i64 5, .bool false, .slice none 0 0, .int .i64 0], .bool g]) (res2 Tryd.results59 (rvr b4 hT56) rvt) ?_
    exact givesVb_none hv rfl ((bthru ((bthru (bthru ((bthru (bthru (bthru hbV1 hbV2) hbV3) hbV4).trans (hOV5.below (by omega))) hbV6) hbV7).trans (hOV8.below (by omega))) hbV9).trans (hOV10.below (by omega)))

end Go.Proofs.YtcipdimogodndaaDoor

namespace Go.Proofs.YtcipdimogodndaaDoor
open Go.RowKit Go.Slip

def errPat (n : Int) (s : ByteArray) : Int := if IsFm n then (if s.size = (fmt n).size then 0 else 1) else 6

theorem open_ok (n : Int) (s : ByteArray) (w : World) (hn : IsFm n) (hs : s.size = (fmt n).size) :
    Calls Tryd.prog 58 #[.int .i64 n, .string s] w fun en w' => en = .returned (.tuple #[.agg #[.int .i64 (((fmt n).size : Nat) : Int), .int .i64 (((fmt n).E : Nat) : Int), .int .i64 (((fmt n).F : Nat) : Int), .int .i64 (fmt n).g.rad, .int .i64 (fmt n).g.digs, .int .i64 (fmt n).g.lo, .int .i64 (fmt n).g.hi, .bool (fmt n).g.grad, .bool (fmt n).hid, .bool (fmt n).inf, .bool (fmt n).res, .func (.func (ordF (fmt n))) #[] #[]], .int .i64 0]) ∧ Below w.heap.size w w' := by
  have HF := fun W => Lib.hid (forms_any n hn W)
  generalize fmt n = f at *
  have hT3 : SxOne Tryd.prog 3 := sxOne_of (by kernel_rfl) (by kernel_rfl)
  have hT116 : SxAgg Tryd.prog 116 12 := sxAgg_of (by kernel_rfl) (by kernel_rfl)
  refine calls_of_wp Tryd.func58 rfl ?_
  refine sx_frame (a' := ⟨((.int .i64 n) :: (.string s) :: us 22 []).toArray, []⟩) (by kernel_rfl) ?_
  refine ye ?_
  refine yw 0 rfl 4 #[.int .i64 0, .int .i64 0, .int .i64 0, .int .i64 0, .int .i64 0, .int .i64 0, .int .i64 0, .bool false, .bool false, .bool false, .bool false, .nilFunc] 116 (fun V1 hbV1 hzV1 b4 => ?_)
  refine yzt 1 ?_
  refine ye ?_
  refine yc 1 rfl 10 ((HF V1).out) (fun Gx hGx => ?_)
  rintro eV2 V2 ⟨rfl, hbV2⟩
  have hzV2 := hbV2.size
  refine ⟨_, rfl, hGx _ _ ?_⟩
  clear hGx Gx
  refine yw 3 rfl 6 #[.int .i64 0, .int .i64 0, .int .i64 0, .int .i64 0, .int .i64 0, .int .i64 0, .int .i64 0, .bool false, .bool false, .bool false, .bool false, .nilFunc] 116 (fun V3 hbV3 hzV3 b6 => ?_)
  have boV4 := b6
  refine ysw 0 rfl b6 hT116 #[.int .i64 ((f.size : Nat) : Int), .int .i64 ((f.E : Nat) : Int), .int .i64 ((f.F : Nat) : Int), .int .i64 f.g.rad, .int .i64 f.g.digs, .int .i64 f.g.lo, .int .i64 f.g.hi, .bool f.g.grad, .bool f.hid, .bool f.inf, .bool f.res, .func (.func (ordF f)) #[] #[]] ?_
  clear b6
  intro V4 hOV4 b6
  have hzV4 := hOV4.size
  refine yzt 1 ?_
  refine wp_seq ?_
  refine ye ?_
  refine yl 6 rfl 19 b6 hT3 0 ?_
  refine yb 0 rfl 20 (((s.size : Nat) : Int) != ((f.size : Nat) : Int)) (false) (by simp [hs]) ?_
  refine yzt 1 ?_
  refine yF ?_
  refine wp_skip ?_
  refine sx_then ?_
  refine ye ?_
  refine yla 0 rfl 22 b6 hT116 0 ?_
  replace b4 := (b4.past ((bthru hbV2 hbV3).trans (hOV4.below (by omega))))
  have boV5 := b4
  refine ysw 1 rfl b4 hT116 #[.int .i64 ((f.size : Nat) : Int), .int .i64 ((f.E : Nat) : Int), .int .i64 ((f.F : Nat) : Int), .int .i64 f.g.rad, .int .i64 f.g.digs, .int .i64 f.g.lo, .int .i64 f.g.hi, .bool f.g.grad, .bool f.hid, .bool f.inf, .bool f.res, .func (.func (ordF f)) #[] #[]] ?_
  clear b4
  intro V5 hOV5 b4
  have hzV5 := hOV5.size
  refine yzt 1 ?_
  refine wp_ret ?_
  repeat (first | with_reducible refine sx_thenret ?_ | with_reducible refine sx_blockret ?_)
  refine yret (.tuple #[.agg #[.int .i64 ((f.size : Nat) : Int), .int .i64 ((f.E : Nat) : Int), .int .i64 ((f.F : Nat) : Int), .int .i64 f.g.rad, .int .i64 f.g.digs, .int .i64 f.g.lo, .int .i64 f.g.hi, .bool f.g.grad, .bool f.hid, .bool f.inf, .bool f.res, .func (.func (ordF f)) #[] #[]], .int .i64 0]) (res2 Tryd.results58 (rvr b4 hT116) rvt) ?_
  exact ⟨rfl, (((bthru (bthru hbV1 hbV2) hbV3).trans (hOV4.below (by omega))).trans (hOV5.below (by omega)))⟩
theorem open_one (n : Int) (s : ByteArray) (w : World) (hn : IsFm n) (hs : s.size ≠ (fmt n).size) :
    Calls Tryd.prog 58 #[.int .i64 n, .string s] w fun en w' => en = .returned (.tuple #[.agg #[.int .i64 (((fmt n).size : Nat) : Int), .int .i64 (((fmt n).E : Nat) : Int), .int .i64 (((fmt n).F : Nat) : Int), .int .i64 (fmt n).g.rad, .int .i64 (fmt n).g.digs, .int .i64 (fmt n).g.lo, .int .i64 (fmt n).g.hi, .bool (fmt n).g.grad, .bool (fmt n).hid, .bool (fmt n).inf, .bool (fmt n).res, .func (.func (ordF (fmt n))) #[] #[]], .int .i64 1]) ∧ Below w.heap.size w w' := by
  have HF := fun W => Lib.hid (forms_any n hn W)
  generalize fmt n = f at *
  have hT3 : SxOne Tryd.prog 3 := sxOne_of (by kernel_rfl) (by kernel_rfl)
  have hT116 : SxAgg Tryd.prog 116 12 := sxAgg_of (by kernel_rfl) (by kernel_rfl)
  refine calls_of_wp Tryd.func58 rfl ?_
  refine sx_frame (a' := ⟨((.int .i64 n) :: (.string s) :: us 22 []).toArray, []⟩) (by kernel_rfl) ?_
  refine ye ?_
  refine yw 0 rfl 4 #[.int .i64 0, .int .i64 0, .int .i64 0, .int .i64 0, .int .i64 0, .int .i64 0, .int .i64 0, .bool false, .bool false, .bool false, .bool false, .nilFunc] 116 (fun V1 hbV1 hzV1 b4 => ?_)
  refine yzt 1 ?_
  refine ye ?_
  refine yc 1 rfl 10 ((HF V1).out) (fun Gx hGx => ?_)
  rintro eV2 V2 ⟨rfl, hbV2⟩
  have hzV2 := hbV2.size
  refine ⟨_, rfl, hGx _ _ ?_⟩
  clear hGx Gx
  refine yw 3 rfl 6 #[.int .i64 0, .int .i64 0, .int .i64 0, .int .i64 0, .int .i64 0, .int .i64 0, .int .i64 0, .bool false, .bool false, .bool false, .bool false, .nilFunc] 116 (fun V3 hbV3 hzV3 b6 => ?_)
  have boV4 := b6
  refine ysw 0 rfl b6 hT116 #[.int .i64 ((f.size : Nat) : Int), .int .i64 ((f.E : Nat) : Int), .int .i64 ((f.F : Nat) : Int), .int .i64 f.g.rad, .int .i64 f.g.digs, .int .i64 f.g.lo, .int .i64 f.g.hi, .bool f.g.grad, .bool f.hid, .bool f.inf, .bool f.res, .func (.func (ordF f)) #[] #[]] ?_
  clear b6
  intro V4 hOV4 b6
  have hzV4 := hOV4.size
  refine yzt 1 ?_
  refine wp_seq ?_
  refine ye ?_
  refine yl 6 rfl 19 b6 hT3 0 ?_
  refine yb 0 rfl 20 (((s.size : Nat) : Int) != ((f.size : Nat) : Int)) (true) (bne_iff_ne.2 (fun h => hs (by omega))) ?_
  refine yzt 1 ?_
  refine yT ?_
  refine yr ?_
  refine sx_then ?_
  refine ye ?_
  refine yla 0 rfl 22 b6 hT116 0 ?_
  replace b4 := (b4.past ((bthru hbV2 hbV3).trans (hOV4.below (by omega))))
  have boV5 := b4
  refine ysw 1 rfl b4 hT116 #[.int .i64 ((f.size : Nat) : Int), .int .i64 ((f.E : Nat) : Int), .int .i64 ((f.F : Nat) : Int), .int .i64 f.g.rad, .int .i64 f.g.digs, .int .i64 f.g.lo, .int .i64 f.g.hi, .bool f.g.grad, .bool f.hid, .bool f.inf, .bool f.res, .func (.func (ordF f)) #[] #[]] ?_
  clear b4
  intro V5 hOV5 b4
  have hzV5 := hOV5.size
  refine yzt 1 ?_
  refine wp_ret ?_
  repeat (first | with_reducible refine sx_thenret ?_ | with_reducible refine sx_blockret ?_)
  refine yret (.tuple #[.agg #[.int .i64 ((f.size : Nat) : Int), .int .i64 ((f.E : Nat) : Int), .int .i64 ((f.F : Nat) : Int), .int .i64 f.g.rad, .int .i64 f.g.digs, .int .i64 f.g.lo, .int .i64 f.g.hi, .bool f.g.grad, .bool f.hid, .bool f.inf, .bool f.res, .func (.func (ordF f)) #[] #[]], .int .i64 1]) (res2 Tryd.results58 (rvr b4 hT116) rvt) ?_
  exact ⟨rfl, (((bthru (bthru hbV1 hbV2) hbV3).trans (hOV4.below (by omega))).trans (hOV5.below (by omega)))⟩
theorem open_six (n : Int) (s : ByteArray) (w : World) (hn : ¬ IsFm n) :
    Calls Tryd.prog 58 #[.int .i64 n, .string s] w fun en w' => en = .returned (.tuple #[.agg #[.int .i64 0, .int .i64 0, .int .i64 0, .int .i64 0, .int .i64 0, .int .i64 0, .int .i64 0, .bool false, .bool false, .bool false, .bool false, .nilFunc], .int .i64 6]) ∧ Below w.heap.size w w' := by
  have HF := fun W => Lib.hid (forms_not n hn W)
  have hT116 : SxAgg Tryd.prog 116 12 := sxAgg_of (by kernel_rfl) (by kernel_rfl)
  refine calls_of_wp Tryd.func58 rfl ?_
  refine sx_frame (a' := ⟨((.int .i64 n) :: (.string s) :: us 22 []).toArray, []⟩) (by kernel_rfl) ?_
  refine ye ?_
  refine yw 0 rfl 4 #[.int .i64 0, .int .i64 0, .int .i64 0, .int .i64 0, .int .i64 0, .int .i64 0, .int .i64 0, .bool false, .bool false, .bool false, .bool false, .nilFunc] 116 (fun V1 hbV1 hzV1 b4 => ?_)
  refine yzt 1 ?_
  refine ye ?_
  refine yc 1 rfl 10 ((HF V1).out) (fun Gx hGx => ?_)
  rintro eV2 V2 ⟨rfl, hbV2⟩
  have hzV2 := hbV2.size
  refine ⟨_, rfl, hGx _ _ ?_⟩
  clear hGx Gx
  refine yw 3 rfl 6 #[.int .i64 0, .int .i64 0, .int .i64 0, .int .i64 0, .int .i64 0, .int .i64 0, .int .i64 0, .bool false, .bool false, .bool false, .bool false, .nilFunc] 116 (fun V3 hbV3 hzV3 b6 => ?_)
  have boV4 := b6
  refine ysw 0 rfl b6 hT116 #[.int .i64 0, .int .i64 0, .int .i64 0, .int .i64 0, .int .i64 0, .int .i64 0, .int .i64 0, .bool false, .bool false, .bool false, .bool false, .nilFunc] ?_
  clear b6
  intro V4 hOV4 b6
  have hzV4 := hOV4.size
  refine yzt 1 ?_
  refine wp_seq ?_
  refine yq ?_
  refine yF ?_
  refine wp_skip ?_
  refine sx_then ?_
  refine ye ?_
  refine yla 0 rfl 22 b6 hT116 0 ?_
  replace b4 := (b4.past ((bthru hbV2 hbV3).trans (hOV4.below (by omega))))
  have boV5 := b4
  refine ysw 1 rfl b4 hT116 #[.int .i64 0, .int .i64 0, .int .i64 0, .int .i64 0, .int .i64 0, .int .i64 0, .int .i64 0, .bool false, .bool false, .bool false, .bool false, .nilFunc] ?_
  clear b4
  intro V5 hOV5 b4
  have hzV5 := hOV5.size
  refine yzt 1 ?_
  refine wp_ret ?_
  repeat (first | with_reducible refine sx_thenret ?_ | with_reducible refine sx_blockret ?_)
  refine yret (.tuple #[.agg #[.int .i64 0, .int .i64 0, .int .i64 0, .int .i64 0, .int .i64 0, .int .i64 0, .int .i64 0, .bool false, .bool false, .bool false, .bool false, .nilFunc], .int .i64 6]) (res2 Tryd.results58 (rvr b4 hT116) rvt) ?_
  exact ⟨rfl, (((bthru (bthru hbV1 hbV2) hbV3).trans (hOV4.below (by omega))).trans (hOV5.below (by omega)))⟩

def GivesVe (w : World) (v : Vl) (er : Int) (en : Ending) (w' : World) : Prop :=
  ∃ p c, en = .returned (.tuple #[.agg #[.int .i64 ((v.cls : Nat) : Int), .bool v.neg, .slice p (dig B32 v.d).length c, .int .i64 v.pow], .int .i64 er]) ∧ Own w' w.heap.size .u32 91 p c (dig B32 v.d) ∧ Below w.heap.size w w'
def zeroVl : Vl := ⟨0, false, 0, 0⟩
def decP (n : Int) (s : ByteArray) : Vl := if errPat n s = 0 then (fmt n).valN (numOfS (fmt n) s) else zeroVl
theorem errPat_zero {n : Int} {s : ByteArray} : errPat n s = 0 ↔ IsFm n ∧ s.size = (fmt n).size := by
  unfold errPat
  by_cases h1 : IsFm n
  · rw [if_pos h1]
    by_cases h2 : s.size = (fmt n).size
    · rw [if_pos h2]; simp [h1, h2]
    · rw [if_neg h2]; simp [h2]
  · rw [if_neg h1]; simp [h1]
theorem givesVe_err {w w' : World} {er : Int} {en : Ending} (h : en = .returned (.tuple #[.agg #[.int .i64 0, .bool false, .slice none 0 0, .int .i64 0], .int .i64 er])) (hb : Below w.heap.size w w') : GivesVe w zeroVl er en w' := by
  refine ⟨none, 0, ?_, ?_, hb⟩
  · rw [h]; show _ = Ending.returned (.tuple #[.agg #[_, _, .slice none (dig B32 0).length 0, _], _]); rw [dig_zero]; rfl
  · show Own _ _ _ _ _ _ (dig B32 0); rw [dig_zero]; exact Own.nil _ _ _ _

theorem Decode_any (n : Int) (s : ByteArray) (w : World) (hT : TabW w) :
    Calls Tryd.prog 23 #[.int .i64 n, .string s] w (GivesVe w (decP n s) (errPat n s)) := by
  by_cases hn : IsFm n
  · by_cases hs : s.size = (fmt n).size
    · have h0 : errPat n s = 0 := errPat_zero.2 ⟨hn, hs⟩
      have hd : decP n s = (fmt n).valN (numOfS (fmt n) s) := by unfold decP; rw [if_pos h0]
      rw [hd, h0]
      have HF := fun W => Lib.hid (open_ok n s W hn hs)
      have HD := fun W h => Lib.hid (decode_any (fmt n) s W (good_fm hn) hs h)
      generalize (fmt n).valN (numOfS (fmt n) s) = v at *
      generalize (fmt n).neg (numOfS (fmt n) s) = g at *
      generalize fmt n = f at *
      have hT56 : SxAgg Tryd.prog 56 4 := sxAgg_of (by kernel_rfl) (by kernel_rfl)
      have hT116 : SxAgg Tryd.prog 116 12 := sxAgg_of (by kernel_rfl) (by kernel_rfl)
      refine calls_of_wp Tryd.func23 rfl ?_
      refine sx_frame (a' := ⟨((.int .i64 n) :: (.string s) :: us 25 []).toArray, []⟩) (by kernel_rfl) ?_
      refine ye ?_
      refine yw 0 rfl 4 #[.int .i64 0, .bool false, .slice none 0 0, .int .i64 0] 56 (fun V1 hbV1 hzV1 b4 => ?_)
      refine yzt 1 ?_
      refine ye ?_
      refine yc 2 rfl 13 ((HF V1).out) (fun Gx hGx => ?_)
      rintro eV2 V2 ⟨rfl, hbV2⟩
      have hzV2 := hbV2.size
      refine ⟨_, rfl, hGx _ _ ?_⟩
      clear hGx Gx
      refine yw 3 rfl 6 #[.int .i64 0, .int .i64 0, .int .i64 0, .int .i64 0, .int .i64 0, .int .i64 0, .int .i64 0, .bool false, .bool false, .bool false, .bool false, .nilFunc] 116 (fun V3 hbV3 hzV3 b6 => ?_)
      have boV4 := b6
      refine ysw 0 rfl b6 hT116 #[.int .i64 ((f.size : Nat) : Int), .int .i64 ((f.E : Nat) : Int), .int .i64 ((f.F : Nat) : Int), .int .i64 f.g.rad, .int .i64 f.g.digs, .int .i64 f.g.lo, .int .i64 f.g.hi, .bool f.g.grad, .bool f.hid, .bool f.inf, .bool f.res, .func (.func (ordF f)) #[] #[]] ?_
      clear b6
      intro V4 hOV4 b6
      have hzV4 := hOV4.size
      refine yzt 1 ?_
      refine wp_seq ?_
      refine yq ?_
      refine yF ?_
      refine wp_skip ?_
      refine sx_then ?_
      refine ye ?_
      refine yla 0 rfl 21 b6 hT116 0 ?_
      replace hT := (hT.past ((bthru (bthru hbV1 hbV2) hbV3).trans (hOV4.below (by omega))))
      refine yc 1 rfl 23 ((HD V4 hT).out) (fun Gx hGx => ?_)
      rintro eV5 V5 ⟨p23, c23, rfl, o23, hbV5⟩
      have hzV5 := hbV5.size
      refine ⟨_, rfl, hGx _ _ ?_⟩
      clear hGx Gx
      refine yw 3 rfl 8 #[.int .i64 0, .bool false, .slice none 0 0, .int .i64 0] 56 (fun V6 hbV6 hzV6 b8 => ?_)
      have boV7 := b8
      refine ysw 0 rfl b8 hT56 #[.int .i64 ((v.cls : Nat) : Int), .bool v.neg, .slice p23 (dig B32 v.d).length c23, .int .i64 v.pow] ?_
      clear b8
      intro V7 hOV7 b8
      have hzV7 := hOV7.size
      refine yzt 1 ?_
      refine ye ?_
      refine yla 0 rfl 26 b8 hT56 0 ?_
      replace b4 := (b4.past ((bthru (bthru ((bthru hbV2 hbV3).trans (hOV4.below (by omega))) hbV5) hbV6).trans (hOV7.below (by omega))))
      have boV8 := b4
      refine ysw 0 rfl b4 hT56 #[.int .i64 ((v.cls : Nat) : Int), .bool v.neg, .slice p23 (dig B32 v.d).length c23, .int .i64 v.pow] ?_
      clear b4
      intro V8 hOV8 b4
      have hzV8 := hOV8.size
      refine yzt 1 ?_
      refine wp_ret ?_
      repeat (first | with_reducible refine sx_thenret ?_ | with_reducible refine sx_blockret ?_)
      refine yret (.tuple #[.agg #[.int .i64 ((v.cls : Nat) : Int), .bool v.neg, .slice p23 (dig B32 v.d).length c23, .int .i64 v.pow], .int .i64 0]) (res2 Tryd.results23 (rvr b4 hT56) rvt) ?_
      replace o23 := ((o23.past (hbV6.trans (hOV7.below (by omega)))).put boV8 hOV8 (by kernel_rfl))
      exact ⟨p23, c23, rfl, o23.mono (by omega), (((bthru (bthru ((bthru (bthru hbV1 hbV2) hbV3).trans (hOV4.below (by omega))) hbV5) hbV6).trans (hOV7.below (by omega))).trans (hOV8.below (by omega)))⟩
    · have h0 : errPat n s = 1 := by unfold errPat; rw [if_pos hn, if_neg hs]
      have hd : decP n s = zeroVl := by unfold decP; rw [if_neg (by omega)]
      rw [hd, h0]
      have HF := fun W => Lib.hid (open_one n s W hn hs)
      generalize fmt n = f at *
      have hT56 : SxAgg Tryd.prog 56 4 := sxAgg_of (by kernel_rfl) (by kernel_rfl)
      have hT116 : SxAgg Tryd.prog 116 12 := sxAgg_of (by kernel_rfl) (by kernel_rfl)
      refine calls_of_wp Tryd.func23 rfl ?_
      refine sx_frame (a' := ⟨((.int .i64 n) :: (.string s) :: us 25 []).toArray, []⟩) (by kernel_rfl) ?_
      refine ye ?_
      refine yw 0 rfl 4 #[.int .i64 0, .bool false, .slice none 0 0, .int .i64 0] 56 (fun V1 hbV1 hzV1 b4 => ?_)
      refine yzt 1 ?_
      refine ye ?_
      refine yc 2 rfl 13 ((HF V1).out) (fun Gx hGx => ?_)
      rintro eV2 V2 ⟨rfl, hbV2⟩
      have hzV2 := hbV2.size
      refine ⟨_, rfl, hGx _ _ ?_⟩
      clear hGx Gx
      refine yw 3 rfl 6 #[.int .i64 0, .int .i64 0, .int .i64 0, .int .i64 0, .int .i64 0, .int .i64 0, .int .i64 0, .bool false, .bool false, .bool false, .bool false, .nilFunc] 116 (fun V3 hbV3 hzV3 b6 => ?_)
      have boV4 := b6
      refine ysw 0 rfl b6 hT116 #[.int .i64 ((f.size : Nat) : Int), .int .i64 ((f.E : Nat) : Int), .int .i64 ((f.F : Nat) : Int), .int .i64 f.g.rad, .int .i64 f.g.digs, .int .i64 f.g.lo, .int .i64 f.g.hi, .bool f.g.grad, .bool f.hid, .bool f.inf, .bool f.res, .func (.func (ordF f)) #[] #[]] ?_
      clear b6
      intro V4 hOV4 b6
      have hzV4 := hOV4.size
      refine yzt 1 ?_
      refine wp_seq ?_
      refine yq ?_
      refine yT ?_
      refine ye ?_
      replace b4 := (b4.past ((bthru hbV2 hbV3).trans (hOV4.below (by omega))))
      have boV5 := b4
      refine ysw 2 rfl b4 hT56 #[.int .i64 0, .bool false, .slice none 0 0, .int .i64 0] ?_
      clear b4
      intro V5 hOV5 b4
      have hzV5 := hOV5.size
      refine yzt 1 ?_
      refine wp_ret ?_
      repeat (first | with_reducible refine sx_thenret ?_ | with_reducible refine sx_blockret ?_)
      refine yret (.tuple #[.agg #[.int .i64 0, .bool false, .slice none 0 0, .int .i64 0], .int .i64 1]) (res2 Tryd.results23 (rvr b4 hT56) rvt) ?_
      exact givesVe_err rfl (((bthru (bthru hbV1 hbV2) hbV3).trans (hOV4.below (by omega))).trans (hOV5.below (by omega)))
  · have h0 : errPat n s = 6 := by unfold errPat; rw [if_neg hn]
    have hd : decP n s = zeroVl := by unfold decP; rw [if_neg (by omega)]
    rw [hd, h0]
    have HF := fun W => Lib.hid (open_six n s W hn)
    have hT56 : SxAgg Tryd.prog 56 4 := sxAgg_of (by kernel_rfl) (by kernel_rfl)
    have hT116 : SxAgg Tryd.prog 116 12 := sxAgg_of (by kernel_rfl) (by kernel_rfl)
    refine calls_of_wp Tryd.func23 rfl ?_
    refine sx_frame (a' := ⟨((.int .i64 n) :: (.string s) :: us 25 []).toArray, []⟩) (by kernel_rfl) ?_
    refine ye ?_
    refine yw 0 rfl 4 #[.int .i64 0, .bool false, .slice none 0 0, .int .i64 0] 56 (fun V1 hbV1 hzV1 b4 => ?_)
    refine yzt 1 ?_
    refine ye ?_
    refine yc 2 rfl 13 ((HF V1).out) (fun Gx hGx => ?_)
    rintro eV2 V2 ⟨rfl, hbV2⟩
    have hzV2 := hbV2.size
    refine ⟨_, rfl, hGx _ _ ?_⟩
    clear hGx Gx
    refine yw 3 rfl 6 #[.int .i64 0, .int .i64 0, .int .i64 0, .int .i64 0, .int .i64 0, .int .i64 0, .int .i64 0, .bool false, .bool false, .bool false, .bool false, .nilFunc] 116 (fun V3 hbV3 hzV3 b6 => ?_)
    have boV4 := b6
    refine ysw 0 rfl b6 hT116 #[.int .i64 0, .int .i64 0, .int .i64 0, .int .i64 0, .int .i64 0, .int .i64 0, .int .i64 0, .bool false, .bool false, .bool false, .bool false, .nilFunc] ?_
    clear b6
    intro V4 hOV4 b6
    have hzV4 := hOV4.size
    refine yzt 1 ?_
    refine wp_seq ?_
    refine yq ?_
    refine yT ?_
    refine ye ?_
    replace b4 := (b4.past ((bthru hbV2 hbV3).trans (hOV4.below (by omega))))
    have boV5 := b4
    refine ysw 2 rfl b4 hT56 #[.int .i64 0, .bool false, .slice none 0 0, .int .i64 0] ?_
    clear b4
    intro V5 hOV5 b4
    have hzV5 := hOV5.size
    refine yzt 1 ?_
    refine wp_ret ?_
    repeat (first | with_reducible refine sx_thenret ?_ | with_reducible refine sx_blockret ?_)
    refine yret (.tuple #[.agg #[.int .i64 0, .bool false, .slice none 0 0, .int .i64 0], .int .i64 6]) (res2 Tryd.results23 (rvr b4 hT56) rvt) ?_
    exact givesVe_err rfl (((bthru (bthru hbV1 hbV2) hbV3).trans (hOV4.below (by omega))).trans (hOV5.below (by omega)))

theorem Class_any (n : Int) (s : ByteArray) (w : World) (hT : TabW w) :
    Calls Tryd.prog 35 #[.int .i64 n, .string s] w fun en w' => en = .returned (.tuple #[.int .i64 (((decP n s).cls : Nat) : Int), .bool (if errPat n s = 0 then (fmt n).neg (numOfS (fmt n) s) else false), .int .i64 (errPat n s)]) ∧ Below w.heap.size w w' := by
  by_cases hn : IsFm n
  · by_cases hs : s.size = (fmt n).size
    · have h0 : errPat n s = 0 := errPat_zero.2 ⟨hn, hs⟩
      have hd : decP n s = (fmt n).valN (numOfS (fmt n) s) := by unfold decP; rw [if_pos h0]
      rw [hd, h0, if_pos rfl]
      have HF := fun W => Lib.hid (open_ok n s W hn hs)
      have HD := fun W h => Lib.hid (decode_any (fmt n) s W (good_fm hn) hs h)
      generalize (fmt n).valN (numOfS (fmt n) s) = v at *
      generalize (fmt n).neg (numOfS (fmt n) s) = g at *
      generalize fmt n = f at *
      have hT3 : SxOne Tryd.prog 3 := sxOne_of (by kernel_rfl) (by kernel_rfl)
      have hT56 : SxAgg Tryd.prog 56 4 := sxAgg_of (by kernel_rfl) (by kernel_rfl)
      have hT116 : SxAgg Tryd.prog 116 12 := sxAgg_of (by kernel_rfl) (by kernel_rfl)
      refine calls_of_wp Tryd.func35 rfl ?_
      refine sx_frame (a' := ⟨((.int .i64 n) :: (.string s) :: us 27 []).toArray, []⟩) (by kernel_rfl) ?_
      refine yq ?_
      refine ye ?_
      refine yc 2 rfl 14 ((HF w).out) (fun Gx hGx => ?_)
      rintro eV1 V1 ⟨rfl, hbV1⟩
      have hzV1 := hbV1.size
      refine ⟨_, rfl, hGx _ _ ?_⟩
      clear hGx Gx
      refine yw 3 rfl 7 #[.int .i64 0, .int .i64 0, .int .i64 0, .int .i64 0, .int .i64 0, .int .i64 0, .int .i64 0, .bool false, .bool false, .bool false, .bool false, .nilFunc] 116 (fun V2 hbV2 hzV2 b7 => ?_)
      have boV3 := b7
      refine ysw 0 rfl b7 hT116 #[.int .i64 ((f.size : Nat) : Int), .int .i64 ((f.E : Nat) : Int), .int .i64 ((f.F : Nat) : Int), .int .i64 f.g.rad, .int .i64 f.g.digs, .int .i64 f.g.lo, .int .i64 f.g.hi, .bool f.g.grad, .bool f.hid, .bool f.inf, .bool f.res, .func (.func (ordF f)) #[] #[]] ?_
      clear b7
      intro V3 hOV3 b7
      have hzV3 := hOV3.size
      refine yzt 1 ?_
      refine wp_seq ?_
      refine yq ?_
      refine yF ?_
      refine wp_skip ?_
      refine sx_then ?_
      refine ye ?_
      refine yla 0 rfl 21 b7 hT116 0 ?_
      replace hT := (hT.past ((bthru hbV1 hbV2).trans (hOV3.below (by omega))))
      refine yc 1 rfl 23 ((HD V3 hT).out) (fun Gx hGx => ?_)
      rintro eV4 V4 ⟨p23, c23, rfl, o23, hbV4⟩
      have hzV4 := hbV4.size
      refine ⟨_, rfl, hGx _ _ ?_⟩
      clear hGx Gx
      refine yw 3 rfl 9 #[.int .i64 0, .bool false, .slice none 0 0, .int .i64 0] 56 (fun V5 hbV5 hzV5 b9 => ?_)
      have boV6 := b9
      refine ysw 0 rfl b9 hT56 #[.int .i64 ((v.cls : Nat) : Int), .bool v.neg, .slice p23 (dig B32 v.d).length c23, .int .i64 v.pow] ?_
      clear b9
      intro V6 hOV6 b9
      have hzV6 := hOV6.size
      refine yzt 1 ?_
      refine ye ?_
      refine yl 1 rfl 27 b9 hT3 0 ?_
      refine yzt 4 ?_
      refine wp_ret ?_
      repeat (first | with_reducible refine sx_thenret ?_ | with_reducible refine sx_blockret ?_)
      refine yret (.tuple #[.int .i64 ((v.cls : Nat) : Int), .bool g, .int .i64 0]) (res3 Tryd.results35 rvt rvt rvt) ?_
      exact ⟨rfl, ((bthru (bthru ((bthru hbV1 hbV2).trans (hOV3.below (by omega))) hbV4) hbV5).trans (hOV6.below (by omega)))⟩
    · have h0 : errPat n s = 1 := by unfold errPat; rw [if_pos hn, if_neg hs]
      have hd : decP n s = zeroVl := by unfold decP; rw [if_neg (by omega)]
      rw [hd, h0, if_neg (by omega)]
      have HF := fun W => Lib.hid (open_one n s W hn hs)
      generalize fmt n = f at *
      have hT116 : SxAgg Tryd.prog 116 12 := sxAgg_of (by kernel_rfl) (by kernel_rfl)
      refine calls_of_wp Tryd.func35 rfl ?_
      refine sx_frame (a' := ⟨((.int .i64 n) :: (.string s) :: us 27 []).toArray, []⟩) (by kernel_rfl) ?_
      refine yq ?_
      refine ye ?_
      refine yc 2 rfl 14 ((HF w).out) (fun Gx hGx => ?_)
      rintro eV1 V1 ⟨rfl, hbV1⟩
      have hzV1 := hbV1.size
      refine ⟨_, rfl, hGx _ _ ?_⟩
      clear hGx Gx
      refine yw 3 rfl 7 #[.int .i64 0, .int .i64 0, .int .i64 0, .int .i64 0, .int .i64 0, .int .i64 0, .int .i64 0, .bool false, .bool false, .bool false, .bool false, .nilFunc] 116 (fun V2 hbV2 hzV2 b7 => ?_)
      have boV3 := b7
      refine ysw 0 rfl b7 hT116 #[.int .i64 ((f.size : Nat) : Int), .int .i64 ((f.E : Nat) : Int), .int .i64 ((f.F : Nat) : Int), .int .i64 f.g.rad, .int .i64 f.g.digs, .int .i64 f.g.lo, .int .i64 f.g.hi, .bool f.g.grad, .bool f.hid, .bool f.inf, .bool f.res, .func (.func (ordF f)) #[] #[]] ?_
      clear b7
      intro V3 hOV3 b7
      have hzV3 := hOV3.size
      refine yzt 1 ?_
      refine wp_seq ?_
      refine yq ?_
      refine yT ?_
      refine yq ?_
      refine wp_ret ?_
      repeat (first | with_reducible refine sx_thenret ?_ | with_reducible refine sx_blockret ?_)
      refine yret (.tuple #[.int .i64 0, .bool false, .int .i64 1]) (res3 Tryd.results35 rvt rvt rvt) ?_
      exact ⟨rfl, ((bthru hbV1 hbV2).trans (hOV3.below (by omega)))⟩
  · have h0 : errPat n s = 6 := by unfold errPat; rw [if_neg hn]
    have hd : decP n s = zeroVl := by unfold decP; rw [if_neg (by omega)]
    rw [hd, h0, if_neg (by omega)]
    have HF := fun W => Lib.hid (open_six n s W hn)
    have hT116 : SxAgg Tryd.prog 116 12 := sxAgg_of (by kernel_rfl) (by kernel_rfl)
    refine calls_of_wp Tryd.func35 rfl ?_
    refine sx_frame (a' := ⟨((.int .i64 n) :: (.string s) :: us 27 []).toArray, []⟩) (by kernel_rfl) ?_
    refine yq ?_
    refine ye ?_
    refine yc 2 rfl 14 ((HF w).out) (fun Gx hGx => ?_)
    rintro eV1 V1 ⟨rfl, hbV1⟩
    have hzV1 := hbV1.size
    refine ⟨_, rfl, hGx _ _ ?_⟩
    clear hGx Gx
    refine yw 3 rfl 7 #[.int .i64 0, .int .i64 0, .int .i64 0, .int .i64 0, .int .i64 0, .int .i64 0, .int .i64 0, .bool false, .bool false, .bool false, .bool false, .nilFunc] 116 (fun V2 hbV2 hzV2 b7 => ?_)
    have boV3 := b7
    refine ysw 0 rfl b7 hT116 #[.int .i64 0, .int .i64 0, .int .i64 0, .int .i64 0, .int .i64 0, .int .i64 0, .int .i64 0, .bool false, .bool false, .bool false, .bool false, .nilFunc] ?_
    clear b7
    intro V3 hOV3 b7
    have hzV3 := hOV3.size
    refine yzt 1 ?_
    refine wp_seq ?_
    refine yq ?_
    refine yT ?_
    refine yq ?_
    refine wp_ret ?_
    repeat (first | with_reducible refine sx_thenret ?_ | with_reducible refine sx_blockret ?_)
    refine yret (.tuple #[.int .i64 0, .bool false, .int .i64 6]) (res3 Tryd.results35 rvt rvt rvt) ?_
    exact ⟨rfl, ((bthru hbV1 hbV2).trans (hOV3.below (by omega)))⟩

theorem fmt_not {n : Int} (h : ¬ IsFm n) : fmt n = ⟨0, 0, 0, ⟨0, 0, 0, 0, false⟩, 0, false⟩ := by
  unfold IsFm at h
  unfold fmt
  rw [if_neg (by omega), if_neg (by omega), if_neg (by omega), if_neg (by omega), if_neg (by omega), if_neg (by omega), if_neg (by omega), if_neg (by omega)]
end Go.Proofs.YtcipdimogodndaaDoor
