/- The law CodecBack: the row.
   A value of chapter 5 that came in, as a row hands it to the walks. -/
import Derived.Lib.Strings
import Derived.Lib.Slices
import Derived.Lib.Small
import Derived.Lib.Walk
import Derived.Lib.BitFns
import Derived.Deep.LoopGhost
import Derived.Deep.RegionHeld3
import Derived.ChangeMaps5
import Derived.Lib.SmallJoins
import Derived.Test.YtcipdimogodndaaDoorZt1
import Derived.Test.YtcipdimogodndaaDoorZt2
import Derived.Test.YtcipdimogodndaaDoorZt3
import Derived.Test.YtcipdimogodndaaDoorZt4
import Derived.Test.YtcipdimogodndaaDoorZt5
namespace Go.Proofs.YtcipdimogodndaaDoor
open Go.RowKit Go.Slip

theorem exec_sne {P : Program} {a : Act} {w : World} {x y : Operand} {dst : Option Tmp} {t t2 tt : TypeId} {pos : String} {af : Array Edge} {g : Option (Nat × Bool)} {s : ByteArray} (hx : a.eval x = .string s) (hy : a.eval y = .string s) :
    (execOp a.eval ⟨dst, .binOp .neq t x y tt, t2, pos, af, g⟩).run P w = .ok (.value (.bool false)) w := by
  unfold execOp
  simp only [hx, hy]
  simp [go_sem, eqGuard]

def dinV (v : Vl) (p : Option Addr) (c : Nat) : Din := ⟨v.neg, p, c, dig B32 v.d, v.pow⟩
theorem inD_own {v : Vl} {p : Option Addr} {c base : Nat} {w : World} (h : Own w base .u32 91 p c (dig B32 v.d)) (hl : (dig B32 v.d).length ≤ 1000) : InD w (dinV v p c) :=
  ⟨h.rd, h.le_cap, by show (dig B32 v.d).length ≤ _; omega, dig_lt B32_two _⟩
theorem back_one {n cls : Int} {a : Din} {w0 : World} (ha : InD w0 a) (h : errEncN n cls a = 0) : ∃ v : Vl, (∀ W, TabW W → Hid (Calls Tryd.prog 23 #[.int .i64 n, .string (encOut (fmt n) cls a)] W (GivesVe W v 0))) ∧
    (∀ W p c base, Own W base .u32 91 p c (dig B32 v.d) → TabW W → Hid (Calls Tryd.prog 29 #[.int .i64 n, .agg #[.int .i64 ((v.cls : Nat) : Int), .bool v.neg, .slice p (dig B32 v.d).length c, .int .i64 v.pow]] W fun en w' => en = .returned (.tuple #[.string (encOut (fmt n) cls a), .int .i64 0]) ∧ Below W.heap.size W w')) ∧
    (encOut (fmt n) cls a).size = (fmt n).size ∧ ((v.cls : Nat) : Int) = cls ∧ v.neg = a.g ∧ errFm n = 0 := by
  have hn : IsFm n := by
    unfold errEncN at h
    split at h
    · assumption
    · omega
  have h1 : errEnc (fmt n) cls a = 0 := by unfold errEncN at h; rwa [if_pos hn] at h
  have D := encD_of hn ha h1
  have hc := errEnc_cls h1
  have hcl : ((((fmt n).toV (encV (fmt n) cls a)).cls : Nat) : Int) = cls := by show (((encV (fmt n) cls a).cls : Nat) : Int) = _; rw [encV_is hc.1]; show ((cls.toNat : Nat) : Int) = cls; omega
  have hg : ((fmt n).toV (encV (fmt n) cls a)).neg = a.g := by show (encV (fmt n) cls a).neg = _; rw [encV_is hc.1]
  refine ⟨(fmt n).toV (encV (fmt n) cls a), fun W hT => ?_, fun W p c base ho hT => ?_, (errPat_zero.1 D.pat).2, hcl, hg, by unfold errFm; rw [if_pos hn]⟩
  · have := Decode_any n (encOut (fmt n) cls a) W hT
    rw [D.dec, D.pat] at this
    exact Lib.hid this
  · have hA := enc_again hn ha h1 (b := dinV ((fmt n).toV (encV (fmt n) cls a)) p c) ⟨rfl, rfl, rfl⟩
    have := Encode_any n (((fmt n).toV (encV (fmt n) cls a)).cls : Nat) (dinV ((fmt n).toV (encV (fmt n) cls a)) p c) W (inD_own ho D.len) hT
    rw [hcl] at this
    unfold errEncN GivesS at this
    rw [if_pos hn, hA.1, hA.2, if_pos rfl] at this
    rw [hcl]
    exact Lib.hid this

theorem back_two (n : Int) (s : ByteArray) : ∃ (v : Vl) (er2 er3 : Int) (t : ByteArray), (∀ W, TabW W → Hid (Calls Tryd.prog 23 #[.int .i64 n, .string s] W (GivesVe W v er2))) ∧
    (∀ W p c base, Own W base .u32 91 p c (dig B32 v.d) → TabW W → Hid (Calls Tryd.prog 29 #[.int .i64 n, .agg #[.int .i64 ((v.cls : Nat) : Int), .bool v.neg, .slice p (dig B32 v.d).length c, .int .i64 v.pow]] W fun en w' => en = .returned (.tuple #[.string t, .int .i64 er3]) ∧ Below W.heap.size W w')) ∧
    (er2 = 0 → er3 = 0 → ∀ W0 p c base, Own W0 base .u32 91 p c (dig B32 v.d) → ∀ W, TabW W → Hid (Calls Tryd.prog 23 #[.int .i64 n, .string t] W (GivesVe W v 0))) ∧ (dig B32 v.d).length ≤ 1000 := by
  have hl : (dig B32 (decP n s).d).length ≤ 1000 := by
    unfold decP
    by_cases h0 : errPat n s = 0
    · rw [if_pos h0]; exact (decF_of (good_fm (errPat_zero.1 h0).1) s).vlen
    · rw [if_neg h0]; show (dig B32 0).length ≤ _; rw [dig_zero]; decide
  refine ⟨decP n s, errPat n s, errEncN n ((decP n s).cls : Nat) (dinV (decP n s) none 0), if errEncN n ((decP n s).cls : Nat) (dinV (decP n s) none 0) = 0 then encOut (fmt n) ((decP n s).cls : Nat) (dinV (decP n s) none 0) else strOf [], fun W hT => Lib.hid (Decode_any n s W hT), fun W p c base ho hT => ?_, fun h2 h3 W0 p c base ho W hT => ?_, hl⟩
  · exact Lib.hid (Encode_any n ((decP n s).cls : Nat) (dinV (decP n s) p c) W (inD_own ho hl) hT)
  · rw [if_pos h3]
    have hn := (errPat_zero.1 h2).1
    have h1 : errEnc (fmt n) ((decP n s).cls : Nat) (dinV (decP n s) none 0) = 0 := by unfold errEncN at h3; rwa [if_pos hn] at h3
    have hA := dec_again h2 (inD_own ho hl) ⟨rfl, rfl, rfl⟩ (b := dinV (decP n s) p c) h1
    have := Decode_any n (encOut (fmt n) ((decP n s).cls : Nat) (dinV (decP n s) none 0)) W hT
    have hA1 : errPat n (encOut (fmt n) ((decP n s).cls : Nat) (dinV (decP n s) none 0)) = 0 := hA.1
    have hA2 : decP n (encOut (fmt n) ((decP n s).cls : Nat) (dinV (decP n s) none 0)) = decP n s := hA.2
    rw [hA1, hA2] at this
    exact Lib.hid this

set_option maxHeartbeats 4000000 in
set_option maxRecDepth 100000 in
theorem codecBack_row (n cls : Int) (a : Din) (s : ByteArray) (w : World) (ha : InD w a) (hT : TabW w) : Calls Tryd.prog 6 #[.int .i64 n, .agg #[.int .i64 cls, .bool a.g, .slice a.p a.xs.length a.c, .int .i64 a.e], .string s] w fun en w' => en = .returned (.bool true) ∧ Below w.heap.size w w' := by
  have HE := fun W h1 h2 => Lib.hid (Encode_any n cls a W h1 h2)
  have HA := back_one (n := n) (cls := cls) ha
  have HS := fun W => Lib.hid (Size_any n W)
  obtain ⟨v2, er2, er3, t3, HD2, HE2, HD3, hl2⟩ := back_two n s
  unfold GivesS at HE
  obtain ⟨t1, ht1⟩ : ∃ t, (if errEncN n cls a = 0 then encOut (fmt n) cls a else strOf []) = t := ⟨_, rfl⟩
  have ht : errEncN n cls a = 0 → encOut (fmt n) cls a = t1 := fun h => by rw [← ht1, if_pos h]
  rw [ht1] at HE
  generalize encOut (fmt n) cls a = t0 at *
  generalize errEncN n cls a = er1 at *
  generalize fmt n = f at *
  clear ht1
  have hT0 := hT.2
  have hT3 : SxOne Tryd.prog 3 := sxOne_of (by kernel_rfl) (by kernel_rfl)
  have hT4 : SxOne Tryd.prog 4 := sxOne_of (by kernel_rfl) (by kernel_rfl)
  have hT56 : SxAgg Tryd.prog 56 4 := sxAgg_of (by kernel_rfl) (by kernel_rfl)
  refine calls_of_wp Tryd.func6 rfl ?_
  refine sx_frame (a' := ⟨((.int .i64 n) :: (.agg #[.int .i64 cls, .bool a.g, .slice a.p a.xs.length a.c, .int .i64 a.e]) :: (.string s) :: us 114 []).toArray, []⟩) (by kernel_rfl) ?_
  refine ye ?_
  refine yw 0 rfl 4 #[.int .i64 cls, .bool a.g, .slice a.p a.xs.length a.c, .int .i64 a.e] 56 (fun V1 hbV1 hzV1 b4 => ?_)
  refine yzt 1 ?_
  refine wp_seq ?_
  refine ye ?_
  replace hT := (hT.past hbV1)
  refine yc 0 rfl 19 (codecBegun_any V1 hT) (fun Gx hGx => ?_)
  rintro eV2 V2 ⟨rfl, hbV2⟩
  have hzV2 := hbV2.size
  refine ⟨_, rfl, hGx _ _ ?_⟩
  clear hGx Gx
  refine yzt 1 ?_
  refine yF ?_
  refine wp_skip ?_
  refine sx_then ?_
  refine wp_seq ?_
  refine ye ?_
  replace b4 := (b4.past hbV2)
  refine yla 1 rfl 23 b4 hT56 0 ?_
  replace ha := (ha.past (bthru hbV1 hbV2))
  replace hT := (hT.past hbV2)
  refine yc 0 rfl 24 ((HE V2 ha hT).out) (fun Gx hGx => ?_)
  rintro eV3 V3 ⟨rfl, hbV3⟩
  have hzV3 := hbV3.size
  refine ⟨_, rfl, hGx _ _ ?_⟩
  clear hGx Gx
  refine yzt 5 ?_
  refine ye ?_
  rcases Bool.eq_false_or_eq_true (er1 == 0) with f28 | f28
  · skip
    refine yb 1 rfl 28 (er1 == 0) (true) (f28) ?_
    refine yzt 0 ?_
    refine yT ?_
    obtain ⟨v1, HD1, HE1, hsz, hcl, hng, hfm⟩ := HA (beq_iff_eq.1 f28)
    have htt := ht (beq_iff_eq.1 f28)
    rw [htt] at HD1 HE1 hsz
    refine ye ?_
    replace hT := (hT.past hbV3)
    refine yc 2 rfl 32 ((HD1 V3 hT).out) (fun Gx hGx => ?_)
    rintro eV4 V4 ⟨p32, c32, rfl, o32, hbV4⟩
    have hzV4 := hbV4.size
    refine ⟨_, rfl, hGx _ _ ?_⟩
    clear hGx Gx
    refine yw 3 rfl 9 #[.int .i64 0, .bool false, .slice none 0 0, .int .i64 0] 56 (fun V5 hbV5 hzV5 b9 => ?_)
    have boV6 := b9
    refine ysw 0 rfl b9 hT56 #[.int .i64 ((v1.cls : Nat) : Int), .bool v1.neg, .slice p32 (dig B32 v1.d).length c32, .int .i64 v1.pow] ?_
    clear b9
    intro V6 hOV6 b9
    have hzV6 := hOV6.size
    refine yzt 1 ?_
    refine ye ?_
    refine yla 1 rfl 37 b9 hT56 0 ?_
    replace o32 := (o32.past (hbV5.trans (hOV6.below (by omega))))
    replace hT := (hT.past ((bthru hbV4 hbV5).trans (hOV6.below (by omega))))
    refine yc 0 rfl 38 ((HE1 V6 p32 c32 _ o32 hT).out) (fun Gx hGx => ?_)
    rintro eV7 V7 ⟨rfl, hbV7⟩
    have hzV7 := hbV7.size
    refine ⟨_, rfl, hGx _ _ ?_⟩
    clear hGx Gx
    refine yzt 5 ?_
    refine ye ?_
    refine yc 1 rfl 43 ((HS V7).out) (fun Gx hGx => ?_)
    rintro eV8 V8 ⟨rfl, hbV8⟩
    have hzV8 := hbV8.size
    refine ⟨_, rfl, hGx _ _ ?_⟩
    clear hGx Gx
    refine yzt 5 ?_
    refine ye ?_
    refine yb 8 rfl 54 ((errFm n) != 0) (false) (bne_eq_false_iff_eq.2 hfm) ?_
    refine yv 4 rfl 59 (.bool false) ?_ (exec_sne (s := t1) (by kernel_rfl) (by kernel_rfl))
    refine yb 5 rfl 65 (((t1.size : Nat) : Int) != ((f.size : Nat) : Int)) (false) (bne_eq_false_iff_eq.2 (by omega)) ?_
    replace b9 := (b9.past (bthru hbV7 hbV8))
    refine yl 3 rfl 69 b9 hT3 0 ?_
    replace b4 := (b4.past (bthru (bthru ((bthru (bthru hbV3 hbV4) hbV5).trans (hOV6.below (by omega))) hbV7) hbV8))
    refine yl 1 rfl 71 b4 hT3 0 ?_
    refine yb 0 rfl 72 (((v1.cls : Nat) : Int) != cls) (false) (bne_eq_false_iff_eq.2 hcl) ?_
    refine yl 3 rfl 76 b9 hT4 1 ?_
    refine yl 1 rfl 78 b4 hT4 1 ?_
    refine yb 0 rfl 79 (v1.neg != a.g) (false) ((by rw [hng]; simp)) ?_
    refine yzt 6 ?_
    refine yF ?_
    refine wp_skip ?_
    refine sx_then ?_
    refine ye ?_
    replace hT := (hT.past (bthru hbV7 hbV8))
    refine yc 2 rfl 89 ((HD2 V8 hT).out) (fun Gx hGx => ?_)
    rintro eV9 V9 ⟨p89, c89, rfl, o89, hbV9⟩
    have hzV9 := hbV9.size
    refine ⟨_, rfl, hGx _ _ ?_⟩
    clear hGx Gx
    replace b4 := (b4.past hbV9)
    have boV10 := b4
    refine ysw 3 rfl b4 hT56 #[.int .i64 ((v2.cls : Nat) : Int), .bool v2.neg, .slice p89 (dig B32 v2.d).length c89, .int .i64 v2.pow] ?_
    clear b4
    intro V10 hOV10 b4
    have hzV10 := hOV10.size
    refine yzt 1 ?_
    refine ye ?_
    refine yla 1 rfl 94 b4 hT56 0 ?_
    replace o89 := (o89.put boV10 hOV10 (by kernel_rfl))
    replace hT := ((hT.past hbV9).below (hOV10.below (Nat.le_refl _)) (by omega))
    refine yc 0 rfl 95 ((HE2 V10 p89 c89 _ o89 hT).out) (fun Gx hGx => ?_)
    rintro eV11 V11 ⟨rfl, hbV11⟩
    have hzV11 := hbV11.size
    refine ⟨_, rfl, hGx _ _ ?_⟩
    clear hGx Gx
    refine yzt 5 ?_
    refine wp_seq ?_
    refine ye ?_
    rcases Bool.eq_false_or_eq_true (er2 != 0) with f99 | f99
    · skip
      refine yb 1 rfl 99 (er2 != 0) (true) (f99) ?_
      refine yzt 4 ?_
      refine yT ?_
      refine yq ?_
      refine wp_ret ?_
      repeat (first | with_reducible refine sx_thenret ?_ | with_reducible refine sx_blockret ?_)
      refine yret (.bool true) (res1 Tryd.results6 rvt) ?_
      exact ⟨rfl, (bthru ((bthru (bthru (bthru ((bthru (bthru (bthru (bthru hbV1 hbV2) hbV3) hbV4) hbV5).trans (hOV6.below (by omega))) hbV7) hbV8) hbV9).trans (hOV10.below (by omega))) hbV11)⟩
    refine yb 1 rfl 99 (er2 != 0) (false) (f99) ?_
    rcases Bool.eq_false_or_eq_true (er3 != 0) with f102 | f102
    · skip
      refine yb 2 rfl 102 (er3 != 0) (true) (f102) ?_
      refine yzt 1 ?_
      refine yT ?_
      refine yq ?_
      refine wp_ret ?_
      repeat (first | with_reducible refine sx_thenret ?_ | with_reducible refine sx_blockret ?_)
      refine yret (.bool true) (res1 Tryd.results6 rvt) ?_
      exact ⟨rfl, (bthru ((bthru (bthru (bthru ((bthru (bthru (bthru (bthru hbV1 hbV2) hbV3) hbV4) hbV5).trans (hOV6.below (by omega))) hbV7) hbV8) hbV9).trans (hOV10.below (by omega))) hbV11)⟩
    refine yb 2 rfl 102 (er3 != 0) (false) (f102) ?_
    refine yzt 1 ?_
    refine yF ?_
    refine wp_skip ?_
    refine sx_then ?_
    refine ye ?_
    replace o89 := (o89.past hbV11)
    replace hT := (hT.past hbV11)
    refine yc 2 rfl 107 ((HD3 (bne_eq_false_iff_eq.1 f99) (bne_eq_false_iff_eq.1 f102) V11 p89 c89 _ o89 V11 hT).out) (fun Gx hGx => ?_)
    rintro eV12 V12 ⟨p107, c107, rfl, o107, hbV12⟩
    have hzV12 := hbV12.size
    refine ⟨_, rfl, hGx _ _ ?_⟩
    clear hGx Gx
    refine yw 3 rfl 18 #[.int .i64 0, .bool false, .slice none 0 0, .int .i64 0] 56 (fun V13 hbV13 hzV13 b18 => ?_)
    have boV14 := b18
    refine ysw 0 rfl b18 hT56 #[.int .i64 ((v2.cls : Nat) : Int), .bool v2.neg, .slice p107 (dig B32 v2.d).length c107, .int .i64 v2.pow] ?_
    clear b18
    intro V14 hOV14 b18
    have hzV14 := hOV14.size
    refine yzt 1 ?_
    refine ye ?_
    replace b4 := (b4.past ((bthru (bthru hbV11 hbV12) hbV13).trans (hOV14.below (by omega))))
    refine yla 3 rfl 113 b4 hT56 0 ?_
    refine yla 0 rfl 114 b18 hT56 0 ?_
    replace o89 := (o89.past ((bthru hbV12 hbV13).trans (hOV14.below (by omega))))
    replace o107 := (o107.past (hbV13.trans (hOV14.below (by omega))))
    refine yc 0 rfl 115 (refSameValue_any v2 p89 p107 c89 c107 _ _ V14 o89 o107 (by omega)) (fun Gx hGx => ?_)
    rintro eV15 V15 ⟨rfl, hbV15⟩
    have hzV15 := hbV15.size
    refine ⟨_, rfl, hGx _ _ ?_⟩
    clear hGx Gx
    refine yzt 2 ?_
    refine wp_ret ?_
    repeat (first | with_reducible refine sx_thenret ?_ | with_reducible refine sx_blockret ?_)
    refine yret (.bool true) (res1 Tryd.results6 rvt) ?_
    exact ⟨rfl, (bthru ((bthru (bthru (bthru ((bthru (bthru (bthru ((bthru (bthru (bthru (bthru hbV1 hbV2) hbV3) hbV4) hbV5).trans (hOV6.below (by omega))) hbV7) hbV8) hbV9).trans (hOV10.below (by omega))) hbV11) hbV12) hbV13).trans (hOV14.below (by omega))) hbV15)⟩
  refine yb 1 rfl 28 (er1 == 0) (false) (f28) ?_
  refine yzt 0 ?_
  refine yF ?_
  refine wp_skip ?_
  refine sx_then ?_
  refine ye ?_
  replace hT := (hT.past hbV3)
  refine yc 2 rfl 89 ((HD2 V3 hT).out) (fun Gx hGx => ?_)
  rintro eV4 V4 ⟨p89, c89, rfl, o89, hbV4⟩
  have hzV4 := hbV4.size
  refine ⟨_, rfl, hGx _ _ ?_⟩
  clear hGx Gx
  replace b4 := (b4.past (bthru hbV3 hbV4))
  have boV5 := b4
  refine ysw 3 rfl b4 hT56 #[.int .i64 ((v2.cls : Nat) : Int), .bool v2.neg, .slice p89 (dig B32 v2.d).length c89, .int .i64 v2.pow] ?_
  clear b4
  intro V5 hOV5 b4
  have hzV5 := hOV5.size
  refine yzt 1 ?_
  refine ye ?_
  refine yla 1 rfl 94 b4 hT56 0 ?_
  replace o89 := (o89.put boV5 hOV5 (by kernel_rfl))
  replace hT := ((hT.past hbV4).below (hOV5.below (Nat.le_refl _)) (by omega))
  refine yc 0 rfl 95 ((HE2 V5 p89 c89 _ o89 hT).out) (fun Gx hGx => ?_)
  rintro eV6 V6 ⟨rfl, hbV6⟩
  have hzV6 := hbV6.size
  refine ⟨_, rfl, hGx _ _ ?_⟩
  clear hGx Gx
  refine yzt 5 ?_
  refine wp_seq ?_
  refine ye ?_
  rcases Bool.eq_false_or_eq_true (er2 != 0) with f99 | f99
  · skip
    refine yb 1 rfl 99 (er2 != 0) (true) (f99) ?_
    refine yzt 4 ?_
    refine yT ?_
    refine yq ?_
    refine wp_ret ?_
    repeat (first | with_reducible refine sx_thenret ?_ | with_reducible refine sx_blockret ?_)
    refine yret (.bool true) (res1 Tryd.results6 rvt) ?_
    exact ⟨rfl, (bthru ((bthru (bthru (bthru hbV1 hbV2) hbV3) hbV4).trans (hOV5.below (by omega))) hbV6)⟩
  refine yb 1 rfl 99 (er2 != 0) (false) (f99) ?_
  rcases Bool.eq_false_or_eq_true (er3 != 0) with f102 | f102
  · skip
    refine yb 2 rfl 102 (er3 != 0) (true) (f102) ?_
    refine yzt 1 ?_
    refine yT ?_
    refine yq ?_
    refine wp_ret ?_
    repeat (first | with_reducible refine sx_thenret ?_ | with_reducible refine sx_blockret ?_)
    refine yret (.bool true) (res1 Tryd.results6 rvt) ?_
    exact ⟨rfl, (bthru ((bthru (bthru (bthru hbV1 hbV2) hbV3) hbV4).trans (hOV5.below (by omega))) hbV6)⟩
  refine yb 2 rfl 102 (er3 != 0) (false) (f102) ?_
  refine yzt 1 ?_
  refine yF ?_
  refine wp_skip ?_
  refine sx_then ?_
  refine ye ?_
  replace o89 := (o89.past hbV6)
  replace hT := (hT.past hbV6)
  refine yc 2 rfl 107 ((HD3 (bne_eq_false_iff_eq.1 f99) (bne_eq_false_iff_eq.1 f102) V6 p89 c89 _ o89 V6 hT).out) (fun Gx hGx => ?_)
  rintro eV7 V7 ⟨p107, c107, rfl, o107, hbV7⟩
  have hzV7 := hbV7.size
  refine ⟨_, rfl, hGx _ _ ?_⟩
  clear hGx Gx
  refine yw 3 rfl 18 #[.int .i64 0, .bool false, .slice none 0 0, .int .i64 0] 56 (fun V8 hbV8 hzV8 b18 => ?_)
  have boV9 := b18
  refine ysw 0 rfl b18 hT56 #[.int .i64 ((v2.cls : Nat) : Int), .bool v2.neg, .slice p107 (dig B32 v2.d).length c107, .int .i64 v2.pow] ?_
  clear b18
  intro V9 hOV9 b18
  have hzV9 := hOV9.size
  refine yzt 1 ?_
  refine ye ?_
  replace b4 := (b4.past ((bthru (bthru hbV6 hbV7) hbV8).trans (hOV9.below (by omega))))
  refine yla 3 rfl 113 b4 hT56 0 ?_
  refine yla 0 rfl 114 b18 hT56 0 ?_
  replace o89 := (o89.past ((bthru hbV7 hbV8).trans (hOV9.below (by omega))))
  replace o107 := (o107.past (hbV8.trans (hOV9.below (by omega))))
  refine yc 0 rfl 115 (refSameValue_any v2 p89 p107 c89 c107 _ _ V9 o89 o107 (by omega)) (fun Gx hGx => ?_)
  rintro eV10 V10 ⟨rfl, hbV10⟩
  have hzV10 := hbV10.size
  refine ⟨_, rfl, hGx _ _ ?_⟩
  clear hGx Gx
  refine yzt 2 ?_
  refine wp_ret ?_
  repeat (first | with_reducible refine sx_thenret ?_ | with_reducible refine sx_blockret ?_)
  refine yret (.bool true) (res1 Tryd.results6 rvt) ?_
  exact ⟨rfl, (bthru ((bthru (bthru (bthru ((bthru (bthru (bthru hbV1 hbV2) hbV3) hbV4).trans (hOV5.below (by omega))) hbV6) hbV7) hbV8).trans (hOV9.below (by omega))) hbV10)⟩
end Go.Proofs.YtcipdimogodndaaDoor

namespace Go.Proofs.YtcipdimogodndaaDoor
open Go.ChangeShapes Go.WideShapes Go.ChangeAt Go.WideMaps Go.WideElems Go.RowKit Go.Slip

set_option maxRecDepth 100000 in
theorem open_value {H : Type} {enc : TypeId × Value → H} {W : World} {base : Nat} {v : Value} {d : DataW H} {p : List MemPlace} (hv : Value.okWide Tryd.prog W .any base 56 v)
    (h : DataW.Trod enc Tryd.prog W 0 (fun _ => true) true 56 v d p) :
    ∃ (cls : Int) (a : Din), v = .agg #[.int .i64 cls, .bool a.g, .slice a.p a.xs.length a.c, .int .i64 a.e] ∧ InD W a := by
  obtain ⟨v0, v1, v2, v3, y0, y1, y2, y3, n, rfl, hd, _, h0, h1, h2, h3⟩ := Joins.open_agg4 Tryd.underlying56 (by kernel_rfl) (by kernel_rfl) hv h
  obtain ⟨c, e0, _, _⟩ := DataW.trod_int Tryd.underlying3 h0
  obtain ⟨g, e1, _⟩ := DataW.trod_bool Tryd.underlying4 h1
  obtain ⟨e, e3, _, we⟩ := DataW.trod_int Tryd.underlying3 h3
  simp only [List.cons.injEq, and_true] at e0 e1 e3
  subst e0 e1 e3
  rcases open_ints Tryd.underlying23 Tryd.underlying91 (by kernel_rfl) h2 with ⟨hcs, _⟩ | ⟨x, l, cc, zs, hcs, _, hl, hm, hz, _, hcell, hwz⟩
  · simp only [List.cons.injEq, and_true] at hcs
    subst hcs
    exact ⟨c, ⟨g, none, 0, [], e⟩, rfl, ⟨Rd.nil _ _ _, by simp, by simp, by simp⟩⟩
  · simp only [List.cons.injEq, and_true] at hcs
    subst hcs
    have hz1 : zs.length = cc := by simpa using hz
    obtain ⟨xs, hr1, hr2, hr3⟩ := rd_of_cells (len := l) (by omega) hcell hwz
    subst hr2
    refine ⟨c, ⟨g, some x, cc, xs, e⟩, rfl, ⟨hr1, hl, ?_, hr3⟩⟩
    unfold maxLen at hm
    simp only
    omega

end Go.Proofs.YtcipdimogodndaaDoor
