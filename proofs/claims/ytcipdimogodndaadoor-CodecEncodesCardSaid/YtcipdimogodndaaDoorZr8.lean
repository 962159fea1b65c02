/- The law CodecEncodes.
   The law CodecEncodes: the row. -/
import Derived.Test.YtcipdimogodndaaDoorZr1
import Derived.Test.YtcipdimogodndaaDoorZr2
import Derived.Test.YtcipdimogodndaaDoorZr3
import Derived.Test.YtcipdimogodndaaDoorZr4
import Derived.Test.YtcipdimogodndaaDoorZr5
import Derived.Test.YtcipdimogodndaaDoorZr6
import Derived.Test.YtcipdimogodndaaDoorZr7
namespace Go.Proofs.YtcipdimogodndaaDoor
open Go.RowKit Go.Slip

def encV (f : Fm) (cls : Int) (a : Din) : Vr := if cls = 2 then ⟨2, a.g, numD f a⟩ else ⟨cls.toNat, a.g, ⟨false, 0, 0⟩⟩
def vr0 : Vr := ⟨0, false, ⟨false, 0, 0⟩⟩
def GivesEb (w : World) (v : Vr) (er : Int) (en : Ending) (w' : World) : Prop :=
  ∃ p c, en = .returned (.tuple #[.agg #[.int .i64 ((v.cls : Nat) : Int), .bool v.neg, .bool v.x.neg, .slice p (dig B16 v.x.m).length c, .int .i64 v.x.e], .int .i64 er]) ∧ Rf w' w.heap.size p c (dig B16 v.x.m) ∧ Below w.heap.size w w'
theorem givesEb_zero {w w' : World} {v : Vr} {k : Nat} {n : Bool} {kz er r : Int} {en : Ending} (hv : v = ⟨k, n, ⟨false, 0, 0⟩⟩) (hk : kz = k) (hr : er = r) (h : en = .returned (.tuple #[.agg #[.int .i64 kz, .bool n, .bool false, .slice none 0 0, .int .i64 0], .int .i64 r])) (hb : Below w.heap.size w w') : GivesEb w v er en w' := by
  subst hv hk hr
  refine ⟨none, 0, ?_, ?_, hb⟩
  · rw [h, dig_zero]; rfl
  · rw [dig_zero]; exact rf_nil _ _ _
theorem givesEb_of {w w' : World} {v u : Vr} {er : Int} {p : Option Addr} {c base : Nat} {en : Ending} (hv : v = u) (hr : er = 0) (h : en = .returned (.tuple #[.agg #[.int .i64 ((u.cls : Nat) : Int), .bool u.neg, .bool u.x.neg, .slice p (dig B16 u.x.m).length c, .int .i64 u.x.e], .int .i64 0])) (ho : Rf w' base p c (dig B16 u.x.m)) (hB : w.heap.size ≤ base) (hb : Below w.heap.size w w') : GivesEb w v er en w' := by
  subst hv hr
  exact ⟨p, c, h, ho.mono hB, hb⟩
theorem rof (p : Option Addr) (n c : Nat) (xs : List Nat) (w : World) (hr : Rd w .u32 p xs) (hn : n = xs.length) (hx : ∀ x ∈ xs, x < B32) (hl : xs.length ≤ 1000000000) :
    Calls Tryd.prog 49 #[.slice p n c] w (GRf w (dig B16 (val B32 xs))) := (refOf_any p n c xs w hr hn hx hl).mono fun _ _ => GivesR.grf

set_option maxHeartbeats 4000000 in
set_option maxRecDepth 100000 in
theorem encodable_any (n : Int) (cls : Int) (a : Din) (w : World) (ha : InD w a) :
    Calls Tryd.prog 30 #[.int .i64 n, .agg #[.int .i64 cls, .bool a.g, .slice a.p a.xs.length a.c, .int .i64 a.e]] w (GivesEb w (if errEncN n cls a = 0 then encV (fmt n) cls a else vr0) (errEncN n cls a)) := by
  unfold errEncN
  by_cases hn : IsFm n
  · rw [if_pos hn]
    have G := good_fm hn
    have HF := fun W => Lib.hid (refFormat_ok n hn W)
    generalize fmt n = f at *
    have hinf : f.inf = false ↔ f.fam ≠ 1 := by unfold Fm.inf; simp
    have hres : f.res = false ↔ f.fam ≠ 3 := by unfold Fm.res; simp
    have hlen := ha.len
    have hlt := ha.lt
    have rd := ha.rd
    have hbd := fun h h2 => numD_bd (f := f) ha h h2
    have hx1 : errNat a.xs = 0 → (dig B16 (val B32 a.xs)).length ≤ 2400 ∧ a.xs.length ≤ 1200 := fun h => by
      obtain ⟨h1, h2⟩ := errNat_ok ha.lt h
      have h3 := B16_len32 (val B32 a.xs)
      rw [← h1] at h3
      have h4 : a.xs.length ≤ 1200 := by rw [h1]; rw [← h1]; omega
      omega
    have hdm := B16_len32 (numD f a).m
    have wp := wid_pos f.g
    have hmu := fun h => mul_bd (wd := wid f.g) (k := a.e) (B := 20000) wp.2 h
    obtain ⟨d, hd⟩ : ∃ d, numD f a = d := ⟨_, rfl⟩
    have hd2 : bare ⟨a.g, val B32 a.xs, ((wid f.g : Nat) : Int) * a.e⟩ = d := hd
    have hvd : cls = 2 → encV f cls a = ⟨2, a.g, d⟩ := fun h => by unfold encV; rw [if_pos h, hd]
    have hvz : cls ≠ 2 → encV f cls a = ⟨cls.toNat, a.g, ⟨false, 0, 0⟩⟩ := fun h => by unfold encV; rw [if_neg h]
    rw [hd] at hbd hdm
    clear ha
    have hT3 : SxOne Tryd.prog 3 := sxOne_of (by kernel_rfl) (by kernel_rfl)
    have hT4 : SxOne Tryd.prog 4 := sxOne_of (by kernel_rfl) (by kernel_rfl)
    have hT23 : SxOne Tryd.prog 23 := sxOne_of (by kernel_rfl) (by kernel_rfl)
    have hT29 : SxAgg Tryd.prog 29 5 := sxAgg_of (by kernel_rfl) (by kernel_rfl)
    have hT34 : SxAgg Tryd.prog 34 3 := sxAgg_of (by kernel_rfl) (by kernel_rfl)
    have hT61 : SxAgg Tryd.prog 61 5 := sxAgg_of (by kernel_rfl) (by kernel_rfl)
    have hT79 : SxAgg Tryd.prog 79 9 := sxAgg_of (by kernel_rfl) (by kernel_rfl)
    refine calls_of_wp Tryd.func30 rfl ?_
    refine sx_frame (a' := ⟨((.int .i64 n) :: (.agg #[.int .i64 cls, .bool a.g, .slice a.p a.xs.length a.c, .int .i64 a.e]) :: us 129 []).toArray, []⟩) (by kernel_rfl) ?_
    refine ye ?_
    refine yw 0 rfl 3 #[.int .i64 cls, .bool a.g, .slice a.p a.xs.length a.c, .int .i64 a.e] 56 (fun V1 hbV1 hzV1 b3 => ?_)
    refine yw 0 rfl 4 #[.int .i64 0, .bool false, .bool false, .slice none 0 0, .int .i64 0] 61 (fun V2 hbV2 hzV2 b4 => ?_)
    refine yzt 1 ?_
    refine ye ?_
    refine yc 1 rfl 12 ((HF V2).out) (fun Gx hGx => ?_)
    rintro eV3 V3 ⟨rfl, hbV3⟩
    have hzV3 := hbV3.size
    refine ⟨_, rfl, hGx _ _ ?_⟩
    clear hGx Gx
    refine yw 3 rfl 6 #[.int .i64 0, .int .i64 0, .int .i64 0, .int .i64 0, .int .i64 0, .int .i64 0, .int .i64 0, .bool false, .int .i64 0] 79 (fun V4 hbV4 hzV4 b6 => ?_)
    have boV5 := b6
    refine ysw 0 rfl b6 hT79 #[.int .i64 ((f.size : Nat) : Int), .int .i64 ((f.E : Nat) : Int), .int .i64 ((f.F : Nat) : Int), .int .i64 f.g.rad, .int .i64 f.g.digs, .int .i64 f.g.lo, .int .i64 f.g.hi, .bool f.g.grad, .int .i64 ((f.fam : Nat) : Int)] ?_
    clear b6
    intro V5 hOV5 b6
    have hzV5 := hOV5.size
    refine yzt 1 ?_
    refine wp_seq ?_
    refine ye ?_
    replace b3 := (b3.past ((bthru (bthru hbV2 hbV3) hbV4).trans (hOV5.below (by omega))))
    refine yl 4 rfl 19 b3 hT3 0 ?_
    rcases Bool.eq_false_or_eq_true (decide (cls < 1)) with f20 | f20
    · skip
      refine yb 0 rfl 20 (decide (cls < 1)) (true) (f20) ?_
      refine yzt 6 ?_
      refine yT ?_
      have hE : errEnc f cls a = 6 := by unfold errEnc; rw [if_pos (by first | (have := of_decide_eq_true f20; omega) | (have := of_decide_eq_true f25; omega))]
      have hN : (6 : Int) ≠ 0 := by decide
      refine ye ?_
      replace b4 := (b4.past ((bthru hbV3 hbV4).trans (hOV5.below (by omega))))
      have boV6 := b4
      refine ysw 1 rfl b4 hT61 #[.int .i64 0, .bool false, .bool false, .slice none 0 0, .int .i64 0] ?_
      clear b4
      intro V6 hOV6 b4
      have hzV6 := hOV6.size
      refine yzt 1 ?_
      refine wp_ret ?_
      repeat (first | with_reducible refine sx_thenret ?_ | with_reducible refine sx_blockret ?_)
      refine yret (.tuple #[.agg #[.int .i64 0, .bool false, .bool false, .slice none 0 0, .int .i64 0], .int .i64 6]) (res2 Tryd.results30 (rvr b4 hT61) rvt) ?_
      exact givesEb_zero (k := 0) (n := false) (by rw [hE, if_neg hN]; rfl) rfl hE rfl (((bthru (bthru (bthru hbV1 hbV2) hbV3) hbV4).trans (hOV5.below (by omega))).trans (hOV6.below (by omega)))
    refine yb 0 rfl 20 (decide (cls < 1)) (false) (f20) ?_
    refine yl 3 rfl 24 b3 hT3 0 ?_
    rcases Bool.eq_false_or_eq_true (decide (cls > 5)) with f25 | f25
    · skip
      refine yb 0 rfl 25 (decide (cls > 5)) (true) (f25) ?_
      refine yzt 1 ?_
      refine yT ?_
      have hE : errEnc f cls a = 6 := by unfold errEnc; rw [if_pos (by first | (have := of_decide_eq_true f20; omega) | (have := of_decide_eq_true f25; omega))]
      have hN : (6 : Int) ≠ 0 := by decide
      refine ye ?_
      replace b4 := (b4.past ((bthru hbV3 hbV4).trans (hOV5.below (by omega))))
      have boV6 := b4
      refine ysw 1 rfl b4 hT61 #[.int .i64 0, .bool false, .bool false, .slice none 0 0, .int .i64 0] ?_
      clear b4
      intro V6 hOV6 b4
      have hzV6 := hOV6.size
      refine yzt 1 ?_
      refine wp_ret ?_
      repeat (first | with_reducible refine sx_thenret ?_ | with_reducible refine sx_blockret ?_)
      refine yret (.tuple #[.agg #[.int .i64 0, .bool false, .bool false, .slice none 0 0, .int .i64 0], .int .i64 6]) (res2 Tryd.results30 (rvr b4 hT61) rvt) ?_
      exact givesEb_zero (k := 0) (n := false) (by rw [hE, if_neg hN]; rfl) rfl hE rfl (((bthru (bthru (bthru hbV1 hbV2) hbV3) hbV4).trans (hOV5.below (by omega))).trans (hOV6.below (by omega)))
    refine yb 0 rfl 25 (decide (cls > 5)) (false) (f25) ?_
    refine yzt 1 ?_
    refine yF ?_
    refine wp_skip ?_
    refine sx_then ?_
    refine wp_seq ?_
    have c1 : ¬ (cls < 1 ∨ 5 < cls) := by have := of_decide_eq_false f20; have := of_decide_eq_false f25; omega
    refine ye ?_
    refine yl 1 rfl 29 b3 hT23 2 ?_
    replace rd := (rd.past ((bthru (bthru (bthru hbV1 hbV2) hbV3) hbV4).trans (hOV5.below (by omega))))
    refine yc 0 rfl 30 (stay (refCheckNat_any a.p _ a.c a.xs V5 rd rfl hlen)) (fun Gx hGx => ?_)
    rintro eV6 V6 ⟨rfl, hbV6⟩
    have hzV6 := hbV6.size
    refine ⟨_, rfl, hGx _ _ ?_⟩
    clear hGx Gx
    refine yzt 1 ?_
    refine ye ?_
    rcases Bool.eq_false_or_eq_true ((errNat a.xs) != 0) with f32 | f32
    · skip
      refine yb 1 rfl 32 ((errNat a.xs) != 0) (true) (f32) ?_
      refine yzt 0 ?_
      refine yT ?_
      have hN : errNat a.xs ≠ 0 := bne_iff_ne.1 f32
      have hE : errEnc f cls a = errNat a.xs := by unfold errEnc; rw [if_neg c1, if_pos hN]
      refine ye ?_
      replace b4 := (b4.past (bthru ((bthru hbV3 hbV4).trans (hOV5.below (by omega))) hbV6))
      have boV7 := b4
      refine ysw 2 rfl b4 hT61 #[.int .i64 0, .bool false, .bool false, .slice none 0 0, .int .i64 0] ?_
      clear b4
      intro V7 hOV7 b4
      have hzV7 := hOV7.size
      refine yzt 1 ?_
      refine wp_ret ?_
      repeat (first | with_reducible refine sx_thenret ?_ | with_reducible refine sx_blockret ?_)
      refine yret (.tuple #[.agg #[.int .i64 0, .bool false, .bool false, .slice none 0 0, .int .i64 0], .int .i64 (errNat a.xs)]) (res2 Tryd.results30 (rvr b4 hT61) rvt) ?_
      exact givesEb_zero (k := 0) (n := false) (by rw [hE, if_neg hN]; rfl) rfl hE rfl ((bthru ((bthru (bthru (bthru hbV1 hbV2) hbV3) hbV4).trans (hOV5.below (by omega))) hbV6).trans (hOV7.below (by omega)))
    refine yb 1 rfl 32 ((errNat a.xs) != 0) (false) (f32) ?_
    refine yzt 0 ?_
    refine yF ?_
    refine wp_skip ?_
    refine sx_then ?_
    refine wp_seq ?_
    have c2 : errNat a.xs = 0 := by simpa using f32
    refine ye ?_
    replace b6 := (b6.past hbV6)
    refine yl 1 rfl 36 b6 hT3 8 ?_
    rcases Bool.eq_false_or_eq_true (((f.fam : Nat) : Int) != 1) with f37 | f37
    · skip
      refine yb 0 rfl 37 (((f.fam : Nat) : Int) != 1) (true) (f37) ?_
      replace b3 := (b3.past hbV6)
      refine yl 2 rfl 40 b3 hT3 0 ?_
      rcases Bool.eq_false_or_eq_true (cls == 3) with f41 | f41
      · skip
        refine yb 0 rfl 41 (cls == 3) (true) (f41) ?_
        refine yzt 16 ?_
        refine yT ?_
        have hE : errEnc f cls a = 5 := by (try have q37 := bne_iff_ne.1 f37); (try have q37 := bne_eq_false_iff_eq.1 f37); (try have q41 := beq_iff_eq.1 f41); (try have q41 := beq_eq_false_iff_ne.1 f41); (try have q45 := beq_iff_eq.1 f45); (try have q45 := beq_eq_false_iff_ne.1 f45); (try have q51 := bne_iff_ne.1 f51); (try have q51 := bne_eq_false_iff_eq.1 f51); (try have q55 := beq_iff_eq.1 f55); (try have q55 := beq_eq_false_iff_ne.1 f55); unfold errEnc; rw [if_neg c1, if_neg (by omega), if_pos (by rw [hinf, hres]; omega)]
        have hN : (5 : Int) ≠ 0 := by decide
        refine ye ?_
        replace b4 := (b4.past (bthru ((bthru hbV3 hbV4).trans (hOV5.below (by omega))) hbV6))
        have boV7 := b4
        refine ysw 1 rfl b4 hT61 #[.int .i64 0, .bool false, .bool false, .slice none 0 0, .int .i64 0] ?_
        clear b4
        intro V7 hOV7 b4
        have hzV7 := hOV7.size
        refine yzt 1 ?_
        refine wp_ret ?_
        repeat (first | with_reducible refine sx_thenret ?_ | with_reducible refine sx_blockret ?_)
        refine yret (.tuple #[.agg #[.int .i64 0, .bool false, .bool false, .slice none 0 0, .int .i64 0], .int .i64 5]) (res2 Tryd.results30 (rvr b4 hT61) rvt) ?_
        exact givesEb_zero (k := 0) (n := false) (by rw [hE, if_neg hN]; rfl) rfl hE rfl ((bthru ((bthru (bthru (bthru hbV1 hbV2) hbV3) hbV4).trans (hOV5.below (by omega))) hbV6).trans (hOV7.below (by omega)))
      refine yb 0 rfl 41 (cls == 3) (false) (f41) ?_
      refine yl 2 rfl 44 b3 hT3 0 ?_
      rcases Bool.eq_false_or_eq_true (cls == 4) with f45 | f45
      · skip
        refine yb 0 rfl 45 (cls == 4) (true) (f45) ?_
        refine yzt 12 ?_
        refine yT ?_
        have hE : errEnc f cls a = 5 := by (try have q37 := bne_iff_ne.1 f37); (try have q37 := bne_eq_false_iff_eq.1 f37); (try have q41 := beq_iff_eq.1 f41); (try have q41 := beq_eq_false_iff_ne.1 f41); (try have q45 := beq_iff_eq.1 f45); (try have q45 := beq_eq_false_iff_ne.1 f45); (try have q51 := bne_iff_ne.1 f51); (try have q51 := bne_eq_false_iff_eq.1 f51); (try have q55 := beq_iff_eq.1 f55); (try have q55 := beq_eq_false_iff_ne.1 f55); unfold errEnc; rw [if_neg c1, if_neg (by omega), if_pos (by rw [hinf, hres]; omega)]
        have hN : (5 : Int) ≠ 0 := by decide
        refine ye ?_
        replace b4 := (b4.past (bthru ((bthru hbV3 hbV4).trans (hOV5.below (by omega))) hbV6))
        have boV7 := b4
        refine ysw 1 rfl b4 hT61 #[.int .i64 0, .bool false, .bool false, .slice none 0 0, .int .i64 0] ?_
        clear b4
        intro V7 hOV7 b4
        have hzV7 := hOV7.size
        refine yzt 1 ?_
        refine wp_ret ?_
        repeat (first | with_reducible refine sx_thenret ?_ | with_reducible refine sx_blockret ?_)
        refine yret (.tuple #[.agg #[.int .i64 0, .bool false, .bool false, .slice none 0 0, .int .i64 0], .int .i64 5]) (res2 Tryd.results30 (rvr b4 hT61) rvt) ?_
        exact givesEb_zero (k := 0) (n := false) (by rw [hE, if_neg hN]; rfl) rfl hE rfl ((bthru ((bthru (bthru (bthru hbV1 hbV2) hbV3) hbV4).trans (hOV5.below (by omega))) hbV6).trans (hOV7.below (by omega)))
      refine yb 0 rfl 45 (cls == 4) (false) (f45) ?_
      refine yl 4 rfl 50 b6 hT3 8 ?_
      rcases Bool.eq_false_or_eq_true (((f.fam : Nat) : Int) != 3) with f51 | f51
      · skip
        refine yb 0 rfl 51 (((f.fam : Nat) : Int) != 3) (true) (f51) ?_
        refine yl 2 rfl 54 b3 hT3 0 ?_
        rcases Bool.eq_false_or_eq_true (cls == 5) with f55 | f55
        · skip
          refine yb 0 rfl 55 (cls == 5) (true) (f55) ?_
          refine yzt 2 ?_
          refine yT ?_
          have hE : errEnc f cls a = 5 := by (try have q37 := bne_iff_ne.1 f37); (try have q37 := bne_eq_false_iff_eq.1 f37); (try have q41 := beq_iff_eq.1 f41); (try have q41 := beq_eq_false_iff_ne.1 f41); (try have q45 := beq_iff_eq.1 f45); (try have q45 := beq_eq_false_iff_ne.1 f45); (try have q51 := bne_iff_ne.1 f51); (try have q51 := bne_eq_false_iff_eq.1 f51); (try have q55 := beq_iff_eq.1 f55); (try have q55 := beq_eq_false_iff_ne.1 f55); unfold errEnc; rw [if_neg c1, if_neg (by omega), if_pos (by rw [hinf, hres]; omega)]
          have hN : (5 : Int) ≠ 0 := by decide
          refine ye ?_
          replace b4 := (b4.past (bthru ((bthru hbV3 hbV4).trans (hOV5.below (by omega))) hbV6))
          have boV7 := b4
          refine ysw 1 rfl b4 hT61 #[.int .i64 0, .bool false, .bool false, .slice none 0 0, .int .i64 0] ?_
          clear b4
          intro V7 hOV7 b4
          have hzV7 := hOV7.size
          refine yzt 1 ?_
          refine wp_ret ?_
          repeat (first | with_reducible refine sx_thenret ?_ | with_reducible refine sx_blockret ?_)
          refine yret (.tuple #[.agg #[.int .i64 0, .bool false, .bool false, .slice none 0 0, .int .i64 0], .int .i64 5]) (res2 Tryd.results30 (rvr b4 hT61) rvt) ?_
          exact givesEb_zero (k := 0) (n := false) (by rw [hE, if_neg hN]; rfl) rfl hE rfl ((bthru ((bthru (bthru (bthru hbV1 hbV2) hbV3) hbV4).trans (hOV5.below (by omega))) hbV6).trans (hOV7.below (by omega)))
        refine yb 0 rfl 55 (cls == 5) (false) (f55) ?_
        refine yzt 2 ?_
        refine yF ?_
        refine wp_skip ?_
        refine sx_then ?_
        refine wp_seq ?_
        have c3 : ¬ (((cls = 3 ∨ cls = 4) ∧ f.inf = false) ∨ (cls = 5 ∧ f.res = false)) := by (try have q37 := bne_iff_ne.1 f37); (try have q37 := bne_eq_false_iff_eq.1 f37); (try have q41 := beq_iff_eq.1 f41); (try have q41 := beq_eq_false_iff_ne.1 f41); (try have q45 := beq_iff_eq.1 f45); (try have q45 := beq_eq_false_iff_ne.1 f45); (try have q51 := bne_iff_ne.1 f51); (try have q51 := bne_eq_false_iff_eq.1 f51); (try have q55 := beq_iff_eq.1 f55); (try have q55 := beq_eq_false_iff_ne.1 f55); rw [hinf, hres]; omega
        refine ye ?_
        refine yl 1 rfl 60 b3 hT3 0 ?_
        rcases Bool.eq_false_or_eq_true (cls != 2) with f61 | f61
        · skip
          refine yb 0 rfl 61 (cls != 2) (true) (f61) ?_
          refine yzt 0 ?_
          refine yT ?_
          refine wp_seq ?_
          have c6 : cls ≠ 2 := bne_iff_ne.1 f61
          refine ye ?_
          refine yl 1 rfl 63 b3 hT23 2 ?_
          rcases Bool.eq_false_or_eq_true (decide (((a.xs.length : Nat) : Int) > 0)) with f65 | f65
          · skip
            refine yb 1 rfl 65 (decide (((a.xs.length : Nat) : Int) > 0)) (true) (f65) ?_
            refine yzt 19 ?_
            refine yT ?_
            have hE : errEnc f cls a = 4 := by unfold errEnc; rw [if_neg c1, if_neg (by omega), if_neg c3, if_neg c6, if_pos (by first | (have := of_decide_eq_true f65; omega) | exact .inr (.inl (bne_iff_ne.1 f69)) | exact .inr (.inr ⟨f73, .inl (of_decide_eq_true f77)⟩) | exact .inr (.inr ⟨f73, .inr (by cases hr : f.res with | true => rfl | false => exact absurd (by have := beq_iff_eq.1 f81; omega) (hres.1 hr))⟩))]
            have hN : (4 : Int) ≠ 0 := by decide
            refine ye ?_
            replace b4 := (b4.past (bthru ((bthru hbV3 hbV4).trans (hOV5.below (by omega))) hbV6))
            have boV7 := b4
            refine ysw 1 rfl b4 hT61 #[.int .i64 0, .bool false, .bool false, .slice none 0 0, .int .i64 0] ?_
            clear b4
            intro V7 hOV7 b4
            have hzV7 := hOV7.size
            refine yzt 1 ?_
            refine wp_ret ?_
            repeat (first | with_reducible refine sx_thenret ?_ | with_reducible refine sx_blockret ?_)
            refine yret (.tuple #[.agg #[.int .i64 0, .bool false, .bool false, .slice none 0 0, .int .i64 0], .int .i64 4]) (res2 Tryd.results30 (rvr b4 hT61) rvt) ?_
            exact givesEb_zero (k := 0) (n := false) (by rw [hE, if_neg hN]; rfl) rfl hE rfl ((bthru ((bthru (bthru (bthru hbV1 hbV2) hbV3) hbV4).trans (hOV5.below (by omega))) hbV6).trans (hOV7.below (by omega)))
          refine yb 1 rfl 65 (decide (((a.xs.length : Nat) : Int) > 0)) (false) (f65) ?_
          refine yl 2 rfl 68 b3 hT3 3 ?_
          rcases Bool.eq_false_or_eq_true (a.e != 0) with f69 | f69
          · skip
            refine yb 0 rfl 69 (a.e != 0) (true) (f69) ?_
            refine yzt 15 ?_
            refine yT ?_
            have hE : errEnc f cls a = 4 := by unfold errEnc; rw [if_neg c1, if_neg (by omega), if_neg c3, if_neg c6, if_pos (by first | (have := of_decide_eq_true f65; omega) | exact .inr (.inl (bne_iff_ne.1 f69)) | exact .inr (.inr ⟨f73, .inl (of_decide_eq_true f77)⟩) | exact .inr (.inr ⟨f73, .inr (by cases hr : f.res with | true => rfl | false => exact absurd (by have := beq_iff_eq.1 f81; omega) (hres.1 hr))⟩))]
            have hN : (4 : Int) ≠ 0 := by decide
            refine ye ?_
            replace b4 := (b4.past (bthru ((bthru hbV3 hbV4).trans (hOV5.below (by omega))) hbV6))
            have boV7 := b4
            refine ysw 1 rfl b4 hT61 #[.int .i64 0, .bool false, .bool false, .slice none 0 0, .int .i64 0] ?_
            clear b4
            intro V7 hOV7 b4
            have hzV7 := hOV7.size
            refine yzt 1 ?_
            refine wp_ret ?_
            repeat (first | with_reducible refine sx_thenret ?_ | with_reducible refine sx_blockret ?_)
            refine yret (.tuple #[.agg #[.int .i64 0, .bool false, .bool false, .slice none 0 0, .int .i64 0], .int .i64 4]) (res2 Tryd.results30 (rvr b4 hT61) rvt) ?_
            exact givesEb_zero (k := 0) (n := false) (by rw [hE, if_neg hN]; rfl) rfl hE rfl ((bthru ((bthru (bthru (bthru hbV1 hbV2) hbV3) hbV4).trans (hOV5.below (by omega))) hbV6).trans (hOV7.below (by omega)))
          refine yb 0 rfl 69 (a.e != 0) (false) (f69) ?_
          rcases Bool.eq_false_or_eq_true (a.g) with f73 | f73
          · skip
            refine ylb 3 rfl 73 b3 hT4 1 (a.g) true (f73) ?_
            refine yl 2 rfl 76 b3 hT3 0 ?_
            rcases Bool.eq_false_or_eq_true (decide (cls ≥ 4)) with f77 | f77
            · skip
              refine yb 0 rfl 77 (decide (cls ≥ 4)) (true) (f77) ?_
              refine yzt 7 ?_
              refine yT ?_
              have hE : errEnc f cls a = 4 := by unfold errEnc; rw [if_neg c1, if_neg (by omega), if_neg c3, if_neg c6, if_pos (by first | (have := of_decide_eq_true f65; omega) | exact .inr (.inl (bne_iff_ne.1 f69)) | exact .inr (.inr ⟨f73, .inl (of_decide_eq_true f77)⟩) | exact .inr (.inr ⟨f73, .inr (by cases hr : f.res with | true => rfl | false => exact absurd (by have := beq_iff_eq.1 f81; omega) (hres.1 hr))⟩))]
              have hN : (4 : Int) ≠ 0 := by decide
              refine ye ?_
              replace b4 := (b4.past (bthru ((bthru hbV3 hbV4).trans (hOV5.below (by omega))) hbV6))
              have boV7 := b4
              refine ysw 1 rfl b4 hT61 #[.int .i64 0, .bool false, .bool false, .slice none 0 0, .int .i64 0] ?_
              clear b4
              intro V7 hOV7 b4
              have hzV7 := hOV7.size
              refine yzt 1 ?_
              refine wp_ret ?_
              repeat (first | with_reducible refine sx_thenret ?_ | with_reducible refine sx_blockret ?_)
              refine yret (.tuple #[.agg #[.int .i64 0, .bool false, .bool false, .slice none 0 0, .int .i64 0], .int .i64 4]) (res2 Tryd.results30 (rvr b4 hT61) rvt) ?_
              exact givesEb_zero (k := 0) (n := false) (by rw [hE, if_neg hN]; rfl) rfl hE rfl ((bthru ((bthru (bthru (bthru hbV1 hbV2) hbV3) hbV4).trans (hOV5.below (by omega))) hbV6).trans (hOV7.below (by omega)))
            refine yb 0 rfl 77 (decide (cls ≥ 4)) (false) (f77) ?_
            refine yl 2 rfl 80 b6 hT3 8 ?_
            rcases Bool.eq_false_or_eq_true (((f.fam : Nat) : Int) == 3) with f81 | f81
            · skip
              refine yb 0 rfl 81 (((f.fam : Nat) : Int) == 3) (true) (f81) ?_
              refine yzt 3 ?_
              refine yT ?_
              have hE : errEnc f cls a = 4 := by unfold errEnc; rw [if_neg c1, if_neg (by omega), if_neg c3, if_neg c6, if_pos (by first | (have := of_decide_eq_true f65; omega) | exact .inr (.inl (bne_iff_ne.1 f69)) | exact .inr (.inr ⟨f73, .inl (of_decide_eq_true f77)⟩) | exact .inr (.inr ⟨f73, .inr (by cases hr : f.res with | true => rfl | false => exact absurd (by have := beq_iff_eq.1 f81; omega) (hres.1 hr))⟩))]
              have hN : (4 : Int) ≠ 0 := by decide
              refine ye ?_
              replace b4 := (b4.past (bthru ((bthru hbV3 hbV4).trans (hOV5.below (by omega))) hbV6))
              have boV7 := b4
              refine ysw 1 rfl b4 hT61 #[.int .i64 0, .bool false, .bool false, .slice none 0 0, .int .i64 0] ?_
              clear b4
              intro V7 hOV7 b4
              have hzV7 := hOV7.size
              refine yzt 1 ?_
              refine wp_ret ?_
              repeat (first | with_reducible refine sx_thenret ?_ | with_reducible refine sx_blockret ?_)
              refine yret (.tuple #[.agg #[.int .i64 0, .bool false, .bool false, .slice none 0 0, .int .i64 0], .int .i64 4]) (res2 Tryd.results30 (rvr b4 hT61) rvt) ?_
              exact givesEb_zero (k := 0) (n := false) (by rw [hE, if_neg hN]; rfl) rfl hE rfl ((bthru ((bthru (bthru (bthru hbV1 hbV2) hbV3) hbV4).trans (hOV5.below (by omega))) hbV6).trans (hOV7.below (by omega)))
            refine yb 0 rfl 81 (((f.fam : Nat) : Int) == 3) (false) (f81) ?_
            refine yzt 3 ?_
            refine yF ?_
            refine wp_skip ?_
            refine sx_then ?_
            have hE : errEnc f cls a = 0 := by unfold errEnc; rw [if_neg c1, if_neg (by omega), if_neg c3, if_neg c6, if_neg (fun h => by rcases h with h | h | ⟨h, k⟩ <;> first | (have := of_decide_eq_false f65; omega) | (have := bne_eq_false_iff_eq.1 f69; omega) | (rw [f73] at h; cases h; done) | (rcases k with k | k <;> first | (have := of_decide_eq_false f77; omega) | (rw [hres.2 (by have := beq_eq_false_iff_ne.1 f81; omega)] at k; cases k; done)))]
            refine ye ?_
            refine yl 1 rfl 87 b3 hT3 0 ?_
            refine yl 1 rfl 89 b3 hT4 1 ?_
            replace b4 := (b4.past (bthru ((bthru hbV3 hbV4).trans (hOV5.below (by omega))) hbV6))
            have boV7 := b4
            refine ysw 1 rfl b4 hT61 #[.int .i64 cls, .bool a.g, .bool false, .slice none 0 0, .int .i64 0] ?_
            clear b4
            intro V7 hOV7 b4
            have hzV7 := hOV7.size
            refine yzt 1 ?_
            refine wp_ret ?_
            repeat (first | with_reducible refine sx_thenret ?_ | with_reducible refine sx_blockret ?_)
            refine yret (.tuple #[.agg #[.int .i64 cls, .bool a.g, .bool false, .slice none 0 0, .int .i64 0], .int .i64 0]) (res2 Tryd.results30 (rvr b4 hT61) rvt) ?_
            exact givesEb_zero (by rw [if_pos hE]; exact hvz c6) (by omega) hE rfl ((bthru ((bthru (bthru (bthru hbV1 hbV2) hbV3) hbV4).trans (hOV5.below (by omega))) hbV6).trans (hOV7.below (by omega)))
          refine ylb 3 rfl 73 b3 hT4 1 (a.g) false (f73) ?_
          refine yzt 11 ?_
          refine yF ?_
          refine wp_skip ?_
          refine sx_then ?_
          have hE : errEnc f cls a = 0 := by unfold errEnc; rw [if_neg c1, if_neg (by omega), if_neg c3, if_neg c6, if_neg (fun h => by rcases h with h | h | ⟨h, k⟩ <;> first | (have := of_decide_eq_false f65; omega) | (have := bne_eq_false_iff_eq.1 f69; omega) | (rw [f73] at h; cases h; done) | (rcases k with k | k <;> first | (have := of_decide_eq_false f77; omega) | (rw [hres.2 (by have := beq_eq_false_iff_ne.1 f81; omega)] at k; cases k; done)))]
          refine ye ?_
          refine yl 1 rfl 87 b3 hT3 0 ?_
          refine yl 1 rfl 89 b3 hT4 1 ?_
          replace b4 := (b4.past (bthru ((bthru hbV3 hbV4).trans (hOV5.below (by omega))) hbV6))
          have boV7 := b4
          refine ysw 1 rfl b4 hT61 #[.int .i64 cls, .bool a.g, .bool false, .slice none 0 0, .int .i64 0] ?_
          clear b4
          intro V7 hOV7 b4
          have hzV7 := hOV7.size
          refine yzt 1 ?_
          refine wp_ret ?_
          repeat (first | with_reducible refine sx_thenret ?_ | with_reducible refine sx_blockret ?_)
          refine yret (.tuple #[.agg #[.int .i64 cls, .bool a.g, .bool false, .slice none 0 0, .int .i64 0], .int .i64 0]) (res2 Tryd.results30 (rvr b4 hT61) rvt) ?_
          exact givesEb_zero (by rw [if_pos hE]; exact hvz c6) (by omega) hE rfl ((bthru ((bthru (bthru (bthru hbV1 hbV2) hbV3) hbV4).trans (hOV5.below (by omega))) hbV6).trans (hOV7.below (by omega)))
        refine yb 0 rfl 61 (cls != 2) (false) (f61) ?_
        refine yzt 0 ?_
        refine yF ?_
        refine wp_skip ?_
        refine sx_then ?_
        refine wp_seq ?_
        have c6 : cls = 2 := by simpa using f61
        refine ye ?_
        refine yl 1 rfl 92 b3 hT3 3 ?_
        rcases Bool.eq_false_or_eq_true (decide (a.e < (-20000))) with f93 | f93
        · skip
          refine yb 0 rfl 93 (decide (a.e < (-20000))) (true) (f93) ?_
          refine yzt 5 ?_
          refine yT ?_
          have hE : errEnc f cls a = 3 := by unfold errEnc; rw [if_neg c1, if_neg (by omega), if_neg c3, if_pos c6, if_pos (by first | (have := of_decide_eq_true f93; omega) | (have := of_decide_eq_true f97; omega))]
          have hN : (3 : Int) ≠ 0 := by decide
          refine ye ?_
          replace b4 := (b4.past (bthru ((bthru hbV3 hbV4).trans (hOV5.below (by omega))) hbV6))
          have boV7 := b4
          refine ysw 1 rfl b4 hT61 #[.int .i64 0, .bool false, .bool false, .slice none 0 0, .int .i64 0] ?_
          clear b4
          intro V7 hOV7 b4
          have hzV7 := hOV7.size
          refine yzt 1 ?_
          refine wp_ret ?_
          repeat (first | with_reducible refine sx_thenret ?_ | with_reducible refine sx_blockret ?_)
          refine yret (.tuple #[.agg #[.int .i64 0, .bool false, .bool false, .slice none 0 0, .int .i64 0], .int .i64 3]) (res2 Tryd.results30 (rvr b4 hT61) rvt) ?_
          exact givesEb_zero (k := 0) (n := false) (by rw [hE, if_neg hN]; rfl) rfl hE rfl ((bthru ((bthru (bthru (bthru hbV1 hbV2) hbV3) hbV4).trans (hOV5.below (by omega))) hbV6).trans (hOV7.below (by omega)))
        refine yb 0 rfl 93 (decide (a.e < (-20000))) (false) (f93) ?_
        refine yl 2 rfl 96 b3 hT3 3 ?_
        rcases Bool.eq_false_or_eq_true (decide (a.e > 20000)) with f97 | f97
        · skip
          refine yb 0 rfl 97 (decide (a.e > 20000)) (true) (f97) ?_
          refine yzt 1 ?_
          refine yT ?_
          have hE : errEnc f cls a = 3 := by unfold errEnc; rw [if_neg c1, if_neg (by omega), if_neg c3, if_pos c6, if_pos (by first | (have := of_decide_eq_true f93; omega) | (have := of_decide_eq_true f97; omega))]
          have hN : (3 : Int) ≠ 0 := by decide
          refine ye ?_
          replace b4 := (b4.past (bthru ((bthru hbV3 hbV4).trans (hOV5.below (by omega))) hbV6))
          have boV7 := b4
          refine ysw 1 rfl b4 hT61 #[.int .i64 0, .bool false, .bool false, .slice none 0 0, .int .i64 0] ?_
          clear b4
          intro V7 hOV7 b4
          have hzV7 := hOV7.size
          refine yzt 1 ?_
          refine wp_ret ?_
          repeat (first | with_reducible refine sx_thenret ?_ | with_reducible refine sx_blockret ?_)
          refine yret (.tuple #[.agg #[.int .i64 0, .bool false, .bool false, .slice none 0 0, .int .i64 0], .int .i64 3]) (res2 Tryd.results30 (rvr b4 hT61) rvt) ?_
          exact givesEb_zero (k := 0) (n := false) (by rw [hE, if_neg hN]; rfl) rfl hE rfl ((bthru ((bthru (bthru (bthru hbV1 hbV2) hbV3) hbV4).trans (hOV5.below (by omega))) hbV6).trans (hOV7.below (by omega)))
        refine yb 0 rfl 97 (decide (a.e > 20000)) (false) (f97) ?_
        refine yzt 1 ?_
        refine yF ?_
        refine wp_skip ?_
        refine sx_then ?_
        refine wp_seq ?_
        have c4 : -20000 ≤ a.e ∧ a.e ≤ 20000 := by have := of_decide_eq_false f93; have := of_decide_eq_false f97; omega
        have hb1 := hbd c2 c4
        have hb2 := hmu c4
        have hb3 := hx1 c2
        refine sx_cutg (R := fun a' w' => ∃ (kb9 : Nat) (p104 : Option Addr) (c104 : Nat) (p112 : Option Addr) (c112 : Nat), a' = ⟨((.int .i64 n) :: (.agg #[.int .i64 cls, .bool a.g, .slice a.p a.xs.length a.c, .int .i64 a.e]) :: undef :: (.pointer (some ⟨w.heap.size, 0, none⟩)) :: (.pointer (some ⟨V1.heap.size, 0, none⟩)) :: (.int .i64 0) :: (.pointer (some ⟨V3.heap.size, 0, none⟩)) :: (.bool true) :: (.int .i64 (errNat a.xs)) :: (.pointer (some ⟨kb9, 0, none⟩)) :: (.tuple #[.agg #[.int .i64 ((f.size : Nat) : Int), .int .i64 ((f.E : Nat) : Int), .int .i64 ((f.F : Nat) : Int), .int .i64 f.g.rad, .int .i64 f.g.digs, .int .i64 f.g.lo, .int .i64 f.g.hi, .bool f.g.grad, .int .i64 ((f.fam : Nat) : Int)], .bool true]) :: (.int .i64 n) :: (.tuple #[.agg #[.int .i64 ((f.size : Nat) : Int), .int .i64 ((f.E : Nat) : Int), .int .i64 ((f.F : Nat) : Int), .int .i64 f.g.rad, .int .i64 f.g.digs, .int .i64 f.g.lo, .int .i64 f.g.hi, .bool f.g.grad, .int .i64 ((f.fam : Nat) : Int)], .bool true]) :: (.agg #[.int .i64 ((f.size : Nat) : Int), .int .i64 ((f.E : Nat) : Int), .int .i64 ((f.F : Nat) : Int), .int .i64 f.g.rad, .int .i64 f.g.digs, .int .i64 f.g.lo, .int .i64 f.g.hi, .bool f.g.grad, .int .i64 ((f.fam : Nat) : Int)]) :: (.bool true) :: (.bool true) :: (.bool false) :: (.bool false) :: (.pointer (some ⟨w.heap.size, 0, none⟩)) :: (.int .i64 cls) :: (.bool false) :: (.bool false) :: (.bool false) :: (.pointer (some ⟨w.heap.size, 0, none⟩)) :: (.int .i64 cls) :: (.bool false) :: (.bool false) :: undef :: (.pointer (some ⟨w.heap.size, 2, none⟩)) :: (.slice a.p a.xs.length a.c) :: (.int .i64 (errNat a.xs)) :: (.int .i64 (errNat a.xs)) :: (.bool false) :: us 2 ((.pointer (some ⟨V3.heap.size, 8, none⟩)) :: (.int .i64 ((f.fam : Nat) : Int)) :: (.bool true) :: (.bool true) :: (.pointer (some ⟨w.heap.size, 0, none⟩)) :: (.int .i64 cls) :: (.bool false) :: (.bool false) :: (.pointer (some ⟨w.heap.size, 0, none⟩)) :: (.int .i64 cls) :: (.bool false) :: (.bool false) :: (.bool false) :: (.bool false) :: (.pointer (some ⟨V3.heap.size, 8, none⟩)) :: (.int .i64 ((f.fam : Nat) : Int)) :: (.bool true) :: (.bool true) :: (.pointer (some ⟨w.heap.size, 0, none⟩)) :: (.int .i64 cls) :: (.bool false) :: (.bool false) :: (.bool false) :: undef :: (.pointer (some ⟨w.heap.size, 0, none⟩)) :: (.int .i64 cls) :: (.bool false) :: us 29 ((.pointer (some ⟨w.heap.size, 3, none⟩)) :: (.int .i64 a.e) :: (.bool false) :: (.bool false) :: (.pointer (some ⟨w.heap.size, 3, none⟩)) :: (.int .i64 a.e) :: (.bool false) :: (.bool false) :: undef :: (.pointer (some ⟨w.heap.size, 1, none⟩)) :: (.bool a.g) :: (.pointer (some ⟨w.heap.size, 2, none⟩)) :: (.slice a.p a.xs.length a.c) :: (.slice p104 (dig B16 (val B32 a.xs)).length c104) :: (.pointer (some ⟨V3.heap.size, 3, none⟩)) :: (.agg #[.int .i64 f.g.rad, .int .i64 f.g.digs, .int .i64 f.g.lo, .int .i64 f.g.hi, .bool f.g.grad]) :: (.int .i64 ((wid f.g : Nat) : Int)) :: (.pointer (some ⟨w.heap.size, 3, none⟩)) :: (.int .i64 a.e) :: (.int .i64 (((wid f.g : Nat) : Int) * a.e)) :: (.agg #[.bool a.g, .slice p104 (dig B16 (val B32 a.xs)).length c104, .int .i64 (((wid f.g : Nat) : Int) * a.e)]) :: (.agg #[.bool d.neg, .slice p112 (dig B16 d.m).length c112, .int .i64 d.e]) :: us 18 []))).toArray, []⟩ ∧ Bt w' kb9 34 #[.bool d.neg, .slice p112 (dig B16 d.m).length c112, .int .i64 d.e] ∧ Rf w' V6.heap.size p104 c104 (dig B16 (val B32 a.xs)) ∧ Rf w' V6.heap.size p112 c112 (dig B16 d.m) ∧ Below V6.heap.size V6 w' ∧ V6.heap.size ≤ kb9) ?_ (fun Gx hGx => ?_)
        · skip
          obtain ⟨V7, hVV7, hbV7, hzV7⟩ := drew_of V6
          replace b3 := (b3.past hbV7)
          replace b6 := (b6.past hbV7)
          refine yd2 hVV7 ⟨b3, b6⟩ ?_
          clear hVV7
          refine yt 14 [0] rfl ⟨b3, b6⟩ ?_
          refine ytl 1 rfl 101 (fun _ h => h.1) hT4 1 ⟨b3, b6⟩ ?_
          refine yt 12 [2] rfl ⟨b3, b6⟩ ?_
          refine ytl 3 rfl 103 (fun _ h => h.1) hT23 2 ⟨b3, b6⟩ ?_
          refine yt 10 [5] rfl ⟨b3, b6⟩ ?_
          refine ytla 6 rfl 106 (fun _ h => h.2) hT29 3 ⟨b3, b6⟩ ?_
          refine yt 8 [8] rfl ⟨b3, b6⟩ ?_
          refine ytl 9 rfl 109 (fun _ h => h.1) hT3 3 ⟨b3, b6⟩ ?_
          refine sxr [4, 13] ?_
          refine rd2 (fun Kx hKx => ?_) ?_
          · skip
            replace rd := (rd.past (bthru hbV6 hbV7))
            refine yck 104 (rof a.p _ a.c a.xs V7 rd rfl hlt (by omega)) ?_
            rintro eV8 V8 ⟨p104, c104, rfl, o104, hbV8⟩
            have hzV8 := hbV8.size
            have lo104 := fun h => o104.lt h
            refine ⟨_, rfl, ?_⟩
            replace b3 := (b3.past hbV8)
            replace b6 := (b6.past hbV8)
            refine hKx.out _ _ ⟨b3, b6⟩ ?_
            clear hKx Kx
            refine sxr [7, 13] ?_
            refine rd2 (fun Kx hKx => ?_) ?_
            · skip
              refine yck 107 (refWidth_any f.g V8) ?_
              rintro eV9 V9 ⟨rfl, hbV9⟩
              have hzV9 := hbV9.size
              refine ⟨_, rfl, ?_⟩
              replace b3 := (b3.past hbV9)
              replace b6 := (b6.past hbV9)
              refine hKx.out _ _ ⟨b3, b6⟩ ?_
              clear hKx Kx
              refine tk 10 110 (.int .i64 (((wid f.g : Nat) : Int) * a.e)) ⟨b3, b6⟩ ?_ (hy := fun w' _ => ((show _ = Result.ok (Next.value (.int .i64 (IntKind.wrap .i64 (((wid f.g : Nat) : Int) * a.e)))) _ by kernel_rfl).trans (congrArg (fun z => Result.ok (Next.value (.int .i64 z)) _) ((IntWalk.i64_in _ (by omega))))))
              refine yt 3 [11] rfl ⟨b3, b6⟩ ?_
              refine sxr [12, 13] ?_
              refine rd2 (fun Kx hKx => ?_) ?_
              · skip
                replace o104 := (o104.past hbV9)
                refine yck 112 (rbared a.g p104 _ c104 (((wid f.g : Nat) : Int) * a.e) (val B32 a.xs) d V9 o104.rd rfl (by omega) (by omega) hd2) ?_
                rintro eV10 V10 ⟨p112, c112, rfl, o112, hbV10⟩
                have hzV10 := hbV10.size
                have lo112 := fun h => o112.lt h
                refine ⟨_, rfl, ?_⟩
                replace b3 := (b3.past hbV10)
                replace b6 := (b6.past hbV10)
                refine hKx.out _ _ ⟨b3, b6⟩ ?_
                clear hKx Kx
                refine sxr [13] ?_
                refine rd1 (fun Kx hKx => ?_)
                refine snk 9 #[.bool false, .slice none 0 0, .int .i64 0] 34 (fun V11 hbV11 hzV11 b9 => ?_)
                replace b3 := (b3.past hbV11)
                replace b6 := (b6.past hbV11)
                refine hKx.out _ _ ⟨b3, b6⟩ ?_
                clear hKx Kx
                refine sxr [14] ?_
                refine rd1 (fun Kx hKx => ?_)
                refine ssk none b9 hT34 0 #[.bool d.neg, .slice p112 (dig B16 d.m).length c112, .int .i64 d.e] #[.bool d.neg, .slice p112 (dig B16 d.m).length c112, .int .i64 d.e] ?_
                have boV12 := b9
                clear b9
                intro V12 hOV12 b9
                have hzV12 := hOV12.size
                replace b3 := (b3.only hOV12 (by omega))
                replace b6 := (b6.only hOV12 (by omega))
                refine hKx.out _ _ ⟨b3, b6⟩ ?_
                clear hKx Kx
                refine sx_done (by kernel_rfl) ?_
                replace o104 := (o104.past ((bthru hbV10 hbV11).trans (hOV12.below (by omega))))
                replace o112 := (o112.past (hbV11.trans (hOV12.below (by omega))))
                exact ⟨rfl, V10.heap.size, p104, c104, p112, c112, by kernel_rfl, b9, (o104.mono (by omega)), (o112.mono (by omega)), ((bthru (bthru (bthru (bthru hbV7 hbV8) hbV9) hbV10) hbV11).trans (hOV12.below (by omega))), by omega⟩
              refine rd1 (fun Kx hKx => ?_)
              refine snk 9 #[.bool false, .slice none 0 0, .int .i64 0] 34 (fun V10 hbV10 hzV10 b9 => ?_)
              replace b3 := (b3.past hbV10)
              replace b6 := (b6.past hbV10)
              refine hKx.out _ _ ⟨b3, b6⟩ ?_
              clear hKx Kx
              refine sxr [12] ?_
              refine rd1 (fun Kx hKx => ?_)
              replace o104 := (o104.past (bthru hbV9 hbV10))
              refine yck 112 (rbared a.g p104 _ c104 (((wid f.g : Nat) : Int) * a.e) (val B32 a.xs) d V10 o104.rd rfl (by omega) (by omega) hd2) ?_
              rintro eV11 V11 ⟨p112, c112, rfl, o112, hbV11⟩
              have hzV11 := hbV11.size
              have lo112 := fun h => o112.lt h
              refine ⟨_, rfl, ?_⟩
              replace b3 := (b3.past hbV11)
              replace b6 := (b6.past hbV11)
              refine hKx.out _ _ ⟨b3, b6⟩ ?_
              clear hKx Kx
              refine sxr [14] ?_
              refine rd1 (fun Kx hKx => ?_)
              replace b9 := (b9.past hbV11)
              refine ssk none b9 hT34 0 #[.bool d.neg, .slice p112 (dig B16 d.m).length c112, .int .i64 d.e] #[.bool d.neg, .slice p112 (dig B16 d.m).length c112, .int .i64 d.e] ?_
              have boV12 := b9
              clear b9
              intro V12 hOV12 b9
              have hzV12 := hOV12.size
              replace b3 := (b3.only hOV12 (by omega))
              replace b6 := (b6.only hOV12 (by omega))
              refine hKx.out _ _ ⟨b3, b6⟩ ?_
              clear hKx Kx
              refine sx_done (by kernel_rfl) ?_
              replace o104 := ((o104.past hbV11).only hOV12 (fun h => by have := lo104 h; omega))
              replace o112 := (o112.only hOV12 (fun h => by have := lo112 h; omega))
              exact ⟨rfl, V9.heap.size, p104, c104, p112, c112, by kernel_rfl, b9, (o104.mono (by omega)), (o112.mono (by omega)), ((bthru (bthru (bthru (bthru hbV7 hbV8) hbV9) hbV10) hbV11).trans (hOV12.below (by omega))), by omega⟩
            refine rd1 (fun Kx hKx => ?_)
            refine snk 9 #[.bool false, .slice none 0 0, .int .i64 0] 34 (fun V9 hbV9 hzV9 b9 => ?_)
            replace b3 := (b3.past hbV9)
            replace b6 := (b6.past hbV9)
            refine hKx.out _ _ ⟨b3, b6⟩ ?_
            clear hKx Kx
            refine sxr [7] ?_
            refine rd1 (fun Kx hKx => ?_)
            refine yck 107 (refWidth_any f.g V9) ?_
            rintro eV10 V10 ⟨rfl, hbV10⟩
            have hzV10 := hbV10.size
            refine ⟨_, rfl, ?_⟩
            replace b3 := (b3.past hbV10)
            replace b6 := (b6.past hbV10)
            refine hKx.out _ _ ⟨b3, b6⟩ ?_
            clear hKx Kx
            refine tk 10 110 (.int .i64 (((wid f.g : Nat) : Int) * a.e)) ⟨b3, b6⟩ ?_ (hy := fun w' _ => ((show _ = Result.ok (Next.value (.int .i64 (IntKind.wrap .i64 (((wid f.g : Nat) : Int) * a.e)))) _ by kernel_rfl).trans (congrArg (fun z => Result.ok (Next.value (.int .i64 z)) _) ((IntWalk.i64_in _ (by omega))))))
            refine yt 2 [11] rfl ⟨b3, b6⟩ ?_
            refine sxr [12] ?_
            refine rd1 (fun Kx hKx => ?_)
            replace o104 := (o104.past (bthru hbV9 hbV10))
            refine yck 112 (rbared a.g p104 _ c104 (((wid f.g : Nat) : Int) * a.e) (val B32 a.xs) d V10 o104.rd rfl (by omega) (by omega) hd2) ?_
            rintro eV11 V11 ⟨p112, c112, rfl, o112, hbV11⟩
            have hzV11 := hbV11.size
            have lo112 := fun h => o112.lt h
            refine ⟨_, rfl, ?_⟩
            replace b3 := (b3.past hbV11)
            replace b6 := (b6.past hbV11)
            refine hKx.out _ _ ⟨b3, b6⟩ ?_
            clear hKx Kx
            refine sxr [14] ?_
            refine rd1 (fun Kx hKx => ?_)
            replace b9 := (b9.past (bthru hbV10 hbV11))
            refine ssk none b9 hT34 0 #[.bool d.neg, .slice p112 (dig B16 d.m).length c112, .int .i64 d.e] #[.bool d.neg, .slice p112 (dig B16 d.m).length c112, .int .i64 d.e] ?_
            have boV12 := b9
            clear b9
            intro V12 hOV12 b9
            have hzV12 := hOV12.size
            replace b3 := (b3.only hOV12 (by omega))
            replace b6 := (b6.only hOV12 (by omega))
            refine hKx.out _ _ ⟨b3, b6⟩ ?_
            clear hKx Kx
            refine sx_done (by kernel_rfl) ?_
            replace o104 := ((o104.past hbV11).only hOV12 (fun h => by have := lo104 h; omega))
            replace o112 := (o112.only hOV12 (fun h => by have := lo112 h; omega))
            exact ⟨rfl, V8.heap.size, p104, c104, p112, c112, by kernel_rfl, b9, (o104.mono (by omega)), (o112.mono (by omega)), ((bthru (bthru (bthru (bthru hbV7 hbV8) hbV9) hbV10) hbV11).trans (hOV12.below (by omega))), by omega⟩
          refine rd1 (fun Kx hKx => ?_)
          refine snk 9 #[.bool false, .slice none 0 0, .int .i64 0] 34 (fun V8 hbV8 hzV8 b9 => ?_)
          replace b3 := (b3.past hbV8)
          replace b6 := (b6.past hbV8)
          refine hKx.out _ _ ⟨b3, b6⟩ ?_
          clear hKx Kx
          refine sxr [4] ?_
          refine rd1 (fun Kx hKx => ?_)
          replace rd := (rd.past (bthru (bthru hbV6 hbV7) hbV8))
          refine yck 104 (rof a.p _ a.c a.xs V8 rd rfl hlt (by omega)) ?_
          rintro eV9 V9 ⟨p104, c104, rfl, o104, hbV9⟩
          have hzV9 := hbV9.size
          have lo104 := fun h => o104.lt h
          refine ⟨_, rfl, ?_⟩
          replace b3 := (b3.past hbV9)
          replace b6 := (b6.past hbV9)
          refine hKx.out _ _ ⟨b3, b6⟩ ?_
          clear hKx Kx
          refine sxr [7] ?_
          refine rd1 (fun Kx hKx => ?_)
          refine yck 107 (refWidth_any f.g V9) ?_
          rintro eV10 V10 ⟨rfl, hbV10⟩
          have hzV10 := hbV10.size
          refine ⟨_, rfl, ?_⟩
          replace b3 := (b3.past hbV10)
          replace b6 := (b6.past hbV10)
          refine hKx.out _ _ ⟨b3, b6⟩ ?_
          clear hKx Kx
          refine tk 10 110 (.int .i64 (((wid f.g : Nat) : Int) * a.e)) ⟨b3, b6⟩ ?_ (hy := fun w' _ => ((show _ = Result.ok (Next.value (.int .i64 (IntKind.wrap .i64 (((wid f.g : Nat) : Int) * a.e)))) _ by kernel_rfl).trans (congrArg (fun z => Result.ok (Next.value (.int .i64 z)) _) ((IntWalk.i64_in _ (by omega))))))
          refine yt 2 [11] rfl ⟨b3, b6⟩ ?_
          refine sxr [12] ?_
          refine rd1 (fun Kx hKx => ?_)
          replace o104 := (o104.past hbV10)
          refine yck 112 (rbared a.g p104 _ c104 (((wid f.g : Nat) : Int) * a.e) (val B32 a.xs) d V10 o104.rd rfl (by omega) (by omega) hd2) ?_
          rintro eV11 V11 ⟨p112, c112, rfl, o112, hbV11⟩
          have hzV11 := hbV11.size
          have lo112 := fun h => o112.lt h
          refine ⟨_, rfl, ?_⟩
          replace b3 := (b3.past hbV11)
          replace b6 := (b6.past hbV11)
          refine hKx.out _ _ ⟨b3, b6⟩ ?_
          clear hKx Kx
          refine sxr [14] ?_
          refine rd1 (fun Kx hKx => ?_)
          replace b9 := (b9.past (bthru (bthru hbV9 hbV10) hbV11))
          refine ssk none b9 hT34 0 #[.bool d.neg, .slice p112 (dig B16 d.m).length c112, .int .i64 d.e] #[.bool d.neg, .slice p112 (dig B16 d.m).length c112, .int .i64 d.e] ?_
          have boV12 := b9
          clear b9
          intro V12 hOV12 b9
          have hzV12 := hOV12.size
          replace b3 := (b3.only hOV12 (by omega))
          replace b6 := (b6.only hOV12 (by omega))
          refine hKx.out _ _ ⟨b3, b6⟩ ?_
          clear hKx Kx
          refine sx_done (by kernel_rfl) ?_
          replace o104 := ((o104.past hbV11).only hOV12 (fun h => by have := lo104 h; omega))
          replace o112 := (o112.only hOV12 (fun h => by have := lo112 h; omega))
          exact ⟨rfl, V7.heap.size, p104, c104, p112, c112, by kernel_rfl, b9, (o104.mono (by omega)), (o112.mono (by omega)), ((bthru (bthru (bthru (bthru hbV7 hbV8) hbV9) hbV10) hbV11).trans (hOV12.below (by omega))), by omega⟩
        rintro _ V7 ⟨kb9, p104, c104, p112, c112, rfl, b9, o104, o112, hbV7, hkb9⟩
        refine hGx _ _ ?_
        clear hGx Gx
        have hzV7 := hbV7.size
        have hlb9 := b9.lt
        have lo104 := fun h => o104.lt h
        have lo112 := fun h => o112.lt h
        refine sx_then ?_
        refine wp_seq ?_
        by_cases h116 : a.xs.length = 0
        · skip
          by_cases h121 : inGridD d f.g = true
          · skip
            refine ye ?_
            replace b3 := (b3.past hbV7)
            refine yl 1 rfl 114 b3 hT23 2 ?_
            refine yb 1 rfl 116 (((a.xs.length : Nat) : Int) == 0) (true) (beq_iff_eq.2 (by omega)) ?_
            refine yzt 7 ?_
            refine yT ?_
            have hE : errEnc f cls a = 4 := by unfold errEnc; rw [if_neg c1, if_neg (by omega), if_neg c3, if_pos c6, if_neg (by omega), if_pos (by first | exact .inl h116 | exact .inr (by rw [hd]; simpa using h121))]
            have hN : (4 : Int) ≠ 0 := by decide
            refine ye ?_
            replace b4 := (b4.past (bthru (bthru ((bthru hbV3 hbV4).trans (hOV5.below (by omega))) hbV6) hbV7))
            have boV8 := b4
            refine ysw 1 rfl b4 hT61 #[.int .i64 0, .bool false, .bool false, .slice none 0 0, .int .i64 0] ?_
            clear b4
            intro V8 hOV8 b4
            have hzV8 := hOV8.size
            refine yzt 1 ?_
            refine wp_ret ?_
            repeat (first | with_reducible refine sx_thenret ?_ | with_reducible refine sx_blockret ?_)
            refine yret (.tuple #[.agg #[.int .i64 0, .bool false, .bool false, .slice none 0 0, .int .i64 0], .int .i64 4]) (res2 Tryd.results30 (rvr b4 hT61) rvt) ?_
            exact givesEb_zero (k := 0) (n := false) (by rw [hE, if_neg hN]; rfl) rfl hE rfl ((bthru (bthru ((bthru (bthru (bthru hbV1 hbV2) hbV3) hbV4).trans (hOV5.below (by omega))) hbV6) hbV7).trans (hOV8.below (by omega)))
          refine ye ?_
          replace b3 := (b3.past hbV7)
          refine yl 1 rfl 114 b3 hT23 2 ?_
          refine yb 1 rfl 116 (((a.xs.length : Nat) : Int) == 0) (true) (beq_iff_eq.2 (by omega)) ?_
          refine yzt 7 ?_
          refine yT ?_
          have hE : errEnc f cls a = 4 := by unfold errEnc; rw [if_neg c1, if_neg (by omega), if_neg c3, if_pos c6, if_neg (by omega), if_pos (by first | exact .inl h116 | exact .inr (by rw [hd]; simpa using h121))]
          have hN : (4 : Int) ≠ 0 := by decide
          refine ye ?_
          replace b4 := (b4.past (bthru (bthru ((bthru hbV3 hbV4).trans (hOV5.below (by omega))) hbV6) hbV7))
          have boV8 := b4
          refine ysw 1 rfl b4 hT61 #[.int .i64 0, .bool false, .bool false, .slice none 0 0, .int .i64 0] ?_
          clear b4
          intro V8 hOV8 b4
          have hzV8 := hOV8.size
          refine yzt 1 ?_
          refine wp_ret ?_
          repeat (first | with_reducible refine sx_thenret ?_ | with_reducible refine sx_blockret ?_)
          refine yret (.tuple #[.agg #[.int .i64 0, .bool false, .bool false, .slice none 0 0, .int .i64 0], .int .i64 4]) (res2 Tryd.results30 (rvr b4 hT61) rvt) ?_
          exact givesEb_zero (k := 0) (n := false) (by rw [hE, if_neg hN]; rfl) rfl hE rfl ((bthru (bthru ((bthru (bthru (bthru hbV1 hbV2) hbV3) hbV4).trans (hOV5.below (by omega))) hbV6) hbV7).trans (hOV8.below (by omega)))
        by_cases h121 : inGridD d f.g = true
        · skip
          refine ye ?_
          replace b3 := (b3.past hbV7)
          refine yl 1 rfl 114 b3 hT23 2 ?_
          refine yb 1 rfl 116 (((a.xs.length : Nat) : Int) == 0) (false) (beq_eq_false_iff_ne.2 (by omega)) ?_
          refine yla 1 rfl 118 b9 hT34 0 ?_
          replace b6 := (b6.past hbV7)
          refine yla 1 rfl 120 b6 hT29 3 ?_
          refine yc 0 rfl 121 (refInGrid_any d.neg p112 _ c112 d.e d.m f.g V7 o112.rd rfl (by omega) (by omega) (goodG_of G.g)) (fun Gx hGx => ?_)
          rintro eV8 V8 ⟨rfl, hbV8⟩
          have hzV8 := hbV8.size
          rw [show (inGridD ⟨d.neg, d.m, d.e⟩ f.g) = true from h121]
          refine ⟨_, rfl, hGx _ _ ?_⟩
          clear hGx Gx
          refine yzt 2 ?_
          refine yF ?_
          refine wp_skip ?_
          refine sx_then ?_
          refine ye ?_
          replace b3 := (b3.past hbV8)
          refine yl 1 rfl 126 b3 hT3 0 ?_
          refine yl 1 rfl 128 b3 hT4 1 ?_
          replace b9 := (b9.past hbV8)
          refine yla 0 rfl 129 b9 hT34 0 ?_
          replace b4 := (b4.past (bthru (bthru (bthru ((bthru hbV3 hbV4).trans (hOV5.below (by omega))) hbV6) hbV7) hbV8))
          have boV9 := b4
          refine ysw 1 rfl b4 hT61 #[.int .i64 cls, .bool a.g, .bool d.neg, .slice p112 (dig B16 d.m).length c112, .int .i64 d.e] ?_
          clear b4
          intro V9 hOV9 b4
          have hzV9 := hOV9.size
          refine yzt 1 ?_
          refine wp_ret ?_
          repeat (first | with_reducible refine sx_thenret ?_ | with_reducible refine sx_blockret ?_)
          refine yret (.tuple #[.agg #[.int .i64 cls, .bool a.g, .bool d.neg, .slice p112 (dig B16 d.m).length c112, .int .i64 d.e], .int .i64 0]) (res2 Tryd.results30 (rvr b4 hT61) rvt) ?_
          have hE : errEnc f cls a = 0 := by unfold errEnc; rw [if_neg c1, if_neg (by omega), if_neg c3, if_pos c6, if_neg (by omega), if_neg (fun h => by rcases h with h | h <;> first | exact h116 h | (rw [hd, h121] at h; cases h; done))]
          subst c6
          replace o112 := ((o112.past hbV8).only hOV9 (fun h => by have := lo112 h; omega))
          exact givesEb_of (u := ⟨2, a.g, d⟩) (by rw [if_pos hE]; exact hvd rfl) hE rfl o112 (by omega) ((bthru (bthru (bthru ((bthru (bthru (bthru hbV1 hbV2) hbV3) hbV4).trans (hOV5.below (by omega))) hbV6) hbV7) hbV8).trans (hOV9.below (by omega)))
        refine ye ?_
        replace b3 := (b3.past hbV7)
        refine yl 1 rfl 114 b3 hT23 2 ?_
        refine yb 1 rfl 116 (((a.xs.length : Nat) : Int) == 0) (false) (beq_eq_false_iff_ne.2 (by omega)) ?_
        refine yla 1 rfl 118 b9 hT34 0 ?_
        replace b6 := (b6.past hbV7)
        refine yla 1 rfl 120 b6 hT29 3 ?_
        refine yc 0 rfl 121 (refInGrid_any d.neg p112 _ c112 d.e d.m f.g V7 o112.rd rfl (by omega) (by omega) (goodG_of G.g)) (fun Gx hGx => ?_)
        rintro eV8 V8 ⟨rfl, hbV8⟩
        have hzV8 := hbV8.size
        rw [show (inGridD ⟨d.neg, d.m, d.e⟩ f.g) = false from (by simpa using h121)]
        refine ⟨_, rfl, hGx _ _ ?_⟩
        clear hGx Gx
        refine yzt 2 ?_
        refine yT ?_
        have hE : errEnc f cls a = 4 := by unfold errEnc; rw [if_neg c1, if_neg (by omega), if_neg c3, if_pos c6, if_neg (by omega), if_pos (by first | exact .inl h116 | exact .inr (by rw [hd]; simpa using h121))]
        have hN : (4 : Int) ≠ 0 := by decide
        refine ye ?_
        replace b4 := (b4.past (bthru (bthru (bthru ((bthru hbV3 hbV4).trans (hOV5.below (by omega))) hbV6) hbV7) hbV8))
        have boV9 := b4
        refine ysw 1 rfl b4 hT61 #[.int .i64 0, .bool false, .bool false, .slice none 0 0, .int .i64 0] ?_
        clear b4
        intro V9 hOV9 b4
        have hzV9 := hOV9.size
        refine yzt 1 ?_
        refine wp_ret ?_
        repeat (first | with_reducible refine sx_thenret ?_ | with_reducible refine sx_blockret ?_)
        refine yret (.tuple #[.agg #[.int .i64 0, .bool false, .bool false, .slice none 0 0, .int .i64 0], .int .i64 4]) (res2 Tryd.results30 (rvr b4 hT61) rvt) ?_
        exact givesEb_zero (k := 0) (n := false) (by rw [hE, if_neg hN]; rfl) rfl hE rfl ((bthru (bthru (bthru ((bthru (bthru (bthru hbV1 hbV2) hbV3) hbV4).trans (hOV5.below (by omega))) hbV6) hbV7) hbV8).trans (hOV9.below (by omega)))
      refine yb 0 rfl 51 (((f.fam : Nat) : Int) != 3) (false) (f51) ?_
      refine yzt 6 ?_
      refine yF ?_
      refine wp_skip ?_
      refine sx_then ?_
      refine wp_seq ?_
      have c3 : ¬ (((cls = 3 ∨ cls = 4) ∧ f.inf = false) ∨ (cls = 5 ∧ f.res = false)) := by (try have q37 := bne_iff_ne.1 f37); (try have q37 := bne_eq_false_iff_eq.1 f37); (try have q41 := beq_iff_eq.1 f41); (try have q41 := beq_eq_false_iff_ne.1 f41); (try have q45 := beq_iff_eq.1 f45); (try have q45 := beq_eq_false_iff_ne.1 f45); (try have q51 := bne_iff_ne.1 f51); (try have q51 := bne_eq_false_iff_eq.1 f51); (try have q55 := beq_iff_eq.1 f55); (try have q55 := beq_eq_false_iff_ne.1 f55); rw [hinf, hres]; omega
      refine ye ?_
      refine yl 1 rfl 60 b3 hT3 0 ?_
      rcases Bool.eq_false_or_eq_true (cls != 2) with f61 | f61
      · skip
        refine yb 0 rfl 61 (cls != 2) (true) (f61) ?_
        refine yzt 0 ?_
        refine yT ?_
        refine wp_seq ?_
        have c6 : cls ≠ 2 := bne_iff_ne.1 f61
        refine ye ?_
        refine yl 1 rfl 63 b3 hT23 2 ?_
        rcases Bool.eq_false_or_eq_true (decide (((a.xs.length : Nat) : Int) > 0)) with f65 | f65
        · skip
          refine yb 1 rfl 65 (decide (((a.xs.length : Nat) : Int) > 0)) (true) (f65) ?_
          refine yzt 19 ?_
          refine yT ?_
          have hE : errEnc f cls a = 4 := by unfold errEnc; rw [if_neg c1, if_neg (by omega), if_neg c3, if_neg c6, if_pos (by first | (have := of_decide_eq_true f65; omega) | exact .inr (.inl (bne_iff_ne.1 f69)) | exact .inr (.inr ⟨f73, .inl (of_decide_eq_true f77)⟩) | exact .inr (.inr ⟨f73, .inr (by cases hr : f.res with | true => rfl | false => exact absurd (by have := beq_iff_eq.1 f81; omega) (hres.1 hr))⟩))]
          have hN : (4 : Int) ≠ 0 := by decide
          refine ye ?_
          replace b4 := (b4.past (bthru ((bthru hbV3 hbV4).trans (hOV5.below (by omega))) hbV6))
          have boV7 := b4
          refine ysw 1 rfl b4 hT61 #[.int .i64 0, .bool false, .bool false, .slice none 0 0, .int .i64 0] ?_
          clear b4
          intro V7 hOV7 b4
          have hzV7 := hOV7.size
          refine yzt 1 ?_
          refine wp_ret ?_
          repeat (first | with_reducible refine sx_thenret ?_ | with_reducible refine sx_blockret ?_)
          refine yret (.tuple #[.agg #[.int .i64 0, .bool false, .bool false, .slice none 0 0, .int .i64 0], .int .i64 4]) (res2 Tryd.results30 (rvr b4 hT61) rvt) ?_
          exact givesEb_zero (k := 0) (n := false) (by rw [hE, if_neg hN]; rfl) rfl hE rfl ((bthru ((bthru (bthru (bthru hbV1 hbV2) hbV3) hbV4).trans (hOV5.below (by omega))) hbV6).trans (hOV7.below (by omega)))
        refine yb 1 rfl 65 (decide (((a.xs.length : Nat) : Int) > 0)) (false) (f65) ?_
        refine yl 2 rfl 68 b3 hT3 3 ?_
        rcases Bool.eq_false_or_eq_true (a.e != 0) with f69 | f69
        · skip
          refine yb 0 rfl 69 (a.e != 0) (true) (f69) ?_
          refine yzt 15 ?_
          refine yT ?_
          have hE : errEnc f cls a = 4 := by unfold errEnc; rw [if_neg c1, if_neg (by omega), if_neg c3, if_neg c6, if_pos (by first | (have := of_decide_eq_true f65; omega) | exact .inr (.inl (bne_iff_ne.1 f69)) | exact .inr (.inr ⟨f73, .inl (of_decide_eq_true f77)⟩) | exact .inr (.inr ⟨f73, .inr (by cases hr : f.res with | true => rfl | false => exact absurd (by have := beq_iff_eq.1 f81; omega) (hres.1 hr))⟩))]
          have hN : (4 : Int) ≠ 0 := by decide
          refine ye ?_
          replace b4 := (b4.past (bthru ((bthru hbV3 hbV4).trans (hOV5.below (by omega))) hbV6))
          have boV7 := b4
          refine ysw 1 rfl b4 hT61 #[.int .i64 0, .bool false, .bool false, .slice none 0 0, .int .i64 0] ?_
          clear b4
          intro V7 hOV7 b4
          have hzV7 := hOV7.size
          refine yzt 1 ?_
          refine wp_ret ?_
          repeat (first | with_reducible refine sx_thenret ?_ | with_reducible refine sx_blockret ?_)
          refine yret (.tuple #[.agg #[.int .i64 0, .bool false, .bool false, .slice none 0 0, .int .i64 0], .int .i64 4]) (res2 Tryd.results30 (rvr b4 hT61) rvt) ?_
          exact givesEb_zero (k := 0) (n := false) (by rw [hE, if_neg hN]; rfl) rfl hE rfl ((bthru ((bthru (bthru (bthru hbV1 hbV2) hbV3) hbV4).trans (hOV5.below (by omega))) hbV6).trans (hOV7.below (by omega)))
        refine yb 0 rfl 69 (a.e != 0) (false) (f69) ?_
        rcases Bool.eq_false_or_eq_true (a.g) with f73 | f73
        · skip
          refine ylb 3 rfl 73 b3 hT4 1 (a.g) true (f73) ?_
          refine yl 2 rfl 76 b3 hT3 0 ?_
          rcases Bool.eq_false_or_eq_true (decide (cls ≥ 4)) with f77 | f77
          · skip
            refine yb 0 rfl 77 (decide (cls ≥ 4)) (true) (f77) ?_
            refine yzt 7 ?_
            refine yT ?_
            have hE : errEnc f cls a = 4 := by unfold errEnc; rw [if_neg c1, if_neg (by omega), if_neg c3, if_neg c6, if_pos (by first | (have := of_decide_eq_true f65; omega) | exact .inr (.inl (bne_iff_ne.1 f69)) | exact .inr (.inr ⟨f73, .inl (of_decide_eq_true f77)⟩) | exact .inr (.inr ⟨f73, .inr (by cases hr : f.res with | true => rfl | false => exact absurd (by have := beq_iff_eq.1 f81; omega) (hres.1 hr))⟩))]
            have hN : (4 : Int) ≠ 0 := by decide
            refine ye ?_
            replace b4 := (b4.past (bthru ((bthru hbV3 hbV4).trans (hOV5.below (by omega))) hbV6))
            have boV7 := b4
            refine ysw 1 rfl b4 hT61 #[.int .i64 0, .bool false, .bool false, .slice none 0 0, .int .i64 0] ?_
            clear b4
            intro V7 hOV7 b4
            have hzV7 := hOV7.size
            refine yzt 1 ?_
            refine wp_ret ?_
            repeat (first | with_reducible refine sx_thenret ?_ | with_reducible refine sx_blockret ?_)
            refine yret (.tuple #[.agg #[.int .i64 0, .bool false, .bool false, .slice none 0 0, .int .i64 0], .int .i64 4]) (res2 Tryd.results30 (rvr b4 hT61) rvt) ?_
            exact givesEb_zero (k := 0) (n := false) (by rw [hE, if_neg hN]; rfl) rfl hE rfl ((bthru ((bthru (bthru (bthru hbV1 hbV2) hbV3) hbV4).trans (hOV5.below (by omega))) hbV6).trans (hOV7.below (by omega)))
          refine yb 0 rfl 77 (decide (cls ≥ 4)) (false) (f77) ?_
          refine yl 2 rfl 80 b6 hT3 8 ?_
          rcases Bool.eq_false_or_eq_true (((f.fam : Nat) : Int) == 3) with f81 | f81
          · skip
            refine yb 0 rfl 81 (((f.fam : Nat) : Int) == 3) (true) (f81) ?_
            refine yzt 3 ?_
            refine yT ?_
            have hE : errEnc f cls a = 4 := by unfold errEnc; rw [if_neg c1, if_neg (by omega), if_neg c3, if_neg c6, if_pos (by first | (have := of_decide_eq_true f65; omega) | exact .inr (.inl (bne_iff_ne.1 f69)) | exact .inr (.inr ⟨f73, .inl (of_decide_eq_true f77)⟩) | exact .inr (.inr ⟨f73, .inr (by cases hr : f.res with | true => rfl | false => exact absurd (by have := beq_iff_eq.1 f81; omega) (hres.1 hr))⟩))]
            have hN : (4 : Int) ≠ 0 := by decide
            refine ye ?_
            replace b4 := (b4.past (bthru ((bthru hbV3 hbV4).trans (hOV5.below (by omega))) hbV6))
            have boV7 := b4
            refine ysw 1 rfl b4 hT61 #[.int .i64 0, .bool false, .bool false, .slice none 0 0, .int .i64 0] ?_
            clear b4
            intro V7 hOV7 b4
            have hzV7 := hOV7.size
            refine yzt 1 ?_
            refine wp_ret ?_
            repeat (first | with_reducible refine sx_thenret ?_ | with_reducible refine sx_blockret ?_)
            refine yret (.tuple #[.agg #[.int .i64 0, .bool false, .bool false, .slice none 0 0, .int .i64 0], .int .i64 4]) (res2 Tryd.results30 (rvr b4 hT61) rvt) ?_
            exact givesEb_zero (k := 0) (n := false) (by rw [hE, if_neg hN]; rfl) rfl hE rfl ((bthru ((bthru (bthru (bthru hbV1 hbV2) hbV3) hbV4).trans (hOV5.below (by omega))) hbV6).trans (hOV7.below (by omega)))
          refine yb 0 rfl 81 (((f.fam : Nat) : Int) == 3) (false) (f81) ?_
          refine yzt 3 ?_
          refine yF ?_
          refine wp_skip ?_
          refine sx_then ?_
          have hE : errEnc f cls a = 0 := by unfold errEnc; rw [if_neg c1, if_neg (by omega), if_neg c3, if_neg c6, if_neg (fun h => by rcases h with h | h | ⟨h, k⟩ <;> first | (have := of_decide_eq_false f65; omega) | (have := bne_eq_false_iff_eq.1 f69; omega) | (rw [f73] at h; cases h; done) | (rcases k with k | k <;> first | (have := of_decide_eq_false f77; omega) | (rw [hres.2 (by have := beq_eq_false_iff_ne.1 f81; omega)] at k; cases k; done)))]
          refine ye ?_
          refine yl 1 rfl 87 b3 hT3 0 ?_
          refine yl 1 rfl 89 b3 hT4 1 ?_
          replace b4 := (b4.past (bthru ((bthru hbV3 hbV4).trans (hOV5.below (by omega))) hbV6))
          have boV7 := b4
          refine ysw 1 rfl b4 hT61 #[.int .i64 cls, .bool a.g, .bool false, .slice none 0 0, .int .i64 0] ?_
          clear b4
          intro V7 hOV7 b4
          have hzV7 := hOV7.size
          refine yzt 1 ?_
          refine wp_ret ?_
          repeat (first | with_reducible refine sx_thenret ?_ | with_reducible refine sx_blockret ?_)
          refine yret (.tuple #[.agg #[.int .i64 cls, .bool a.g, .bool false, .slice none 0 0, .int .i64 0], .int .i64 0]) (res2 Tryd.results30 (rvr b4 hT61) rvt) ?_
          exact givesEb_zero (by rw [if_pos hE]; exact hvz c6) (by omega) hE rfl ((bthru ((bthru (bthru (bthru hbV1 hbV2) hbV3) hbV4).trans (hOV5.below (by omega))) hbV6).trans (hOV7.below (by omega)))
        refine ylb 3 rfl 73 b3 hT4 1 (a.g) false (f73) ?_
        refine yzt 11 ?_
        refine yF ?_
        refine wp_skip ?_
        refine sx_then ?_
        have hE : errEnc f cls a = 0 := by unfold errEnc; rw [if_neg c1, if_neg (by omega), if_neg c3, if_neg c6, if_neg (fun h => by rcases h with h | h | ⟨h, k⟩ <;> first | (have := of_decide_eq_false f65; omega) | (have := bne_eq_false_iff_eq.1 f69; omega) | (rw [f73] at h; cases h; done) | (rcases k with k | k <;> first | (have := of_decide_eq_false f77; omega) | (rw [hres.2 (by have := beq_eq_false_iff_ne.1 f81; omega)] at k; cases k; done)))]
        refine ye ?_
        refine yl 1 rfl 87 b3 hT3 0 ?_
        refine yl 1 rfl 89 b3 hT4 1 ?_
        replace b4 := (b4.past (bthru ((bthru hbV3 hbV4).trans (hOV5.below (by omega))) hbV6))
        have boV7 := b4
        refine ysw 1 rfl b4 hT61 #[.int .i64 cls, .bool a.g, .bool false, .slice none 0 0, .int .i64 0] ?_
        clear b4
        intro V7 hOV7 b4
        have hzV7 := hOV7.size
        refine yzt 1 ?_
        refine wp_ret ?_
        repeat (first | with_reducible refine sx_thenret ?_ | with_reducible refine sx_blockret ?_)
        refine yret (.tuple #[.agg #[.int .i64 cls, .bool a.g, .bool false, .slice none 0 0, .int .i64 0], .int .i64 0]) (res2 Tryd.results30 (rvr b4 hT61) rvt) ?_
        exact givesEb_zero (by rw [if_pos hE]; exact hvz c6) (by omega) hE rfl ((bthru ((bthru (bthru (bthru hbV1 hbV2) hbV3) hbV4).trans (hOV5.below (by omega))) hbV6).trans (hOV7.below (by omega)))
      refine yb 0 rfl 61 (cls != 2) (false) (f61) ?_
      refine yzt 0 ?_
      refine yF ?_
      refine wp_skip ?_
      refine sx_then ?_
      refine wp_seq ?_
      have c6 : cls = 2 := by simpa using f61
      refine ye ?_
      refine yl 1 rfl 92 b3 hT3 3 ?_
      rcases Bool.eq_false_or_eq_true (decide (a.e < (-20000))) with f93 | f93
      · skip
        refine yb 0 rfl 93 (decide (a.e < (-20000))) (true) (f93) ?_
        refine yzt 5 ?_
        refine yT ?_
        have hE : errEnc f cls a = 3 := by unfold errEnc; rw [if_neg c1, if_neg (by omega), if_neg c3, if_pos c6, if_pos (by first | (have := of_decide_eq_true f93; omega) | (have := of_decide_eq_true f97; omega))]
        have hN : (3 : Int) ≠ 0 := by decide
        refine ye ?_
        replace b4 := (b4.past (bthru ((bthru hbV3 hbV4).trans (hOV5.below (by omega))) hbV6))
        have boV7 := b4
        refine ysw 1 rfl b4 hT61 #[.int .i64 0, .bool false, .bool false, .slice none 0 0, .int .i64 0] ?_
        clear b4
        intro V7 hOV7 b4
        have hzV7 := hOV7.size
        refine yzt 1 ?_
        refine wp_ret ?_
        repeat (first | with_reducible refine sx_thenret ?_ | with_reducible refine sx_blockret ?_)
        refine yret (.tuple #[.agg #[.int .i64 0, .bool false, .bool false, .slice none 0 0, .int .i64 0], .int .i64 3]) (res2 Tryd.results30 (rvr b4 hT61) rvt) ?_
        exact givesEb_zero (k := 0) (n := false) (by rw [hE, if_neg hN]; rfl) rfl hE rfl ((bthru ((bthru (bthru (bthru hbV1 hbV2) hbV3) hbV4).trans (hOV5.below (by omega))) hbV6).trans (hOV7.below (by omega)))
      refine yb 0 rfl 93 (decide (a.e < (-20000))) (false) (f93) ?_
      refine yl 2 rfl 96 b3 hT3 3 ?_
      rcases Bool.eq_false_or_eq_true (decide (a.e > 20000)) with f97 | f97
      · skip
        refine yb 0 rfl 97 (decide (a.e > 20000)) (true) (f97) ?_
        refine yzt 1 ?_
        refine yT ?_
        have hE : errEnc f cls a = 3 := by unfold errEnc; rw [if_neg c1, if_neg (by omega), if_neg c3, if_pos c6, if_pos (by first | (have := of_decide_eq_true f93; omega) | (have := of_decide_eq_true f97; omega))]
        have hN : (3 : Int) ≠ 0 := by decide
        refine ye ?_
        replace b4 := (b4.past (bthru ((bthru hbV3 hbV4).trans (hOV5.below (by omega))) hbV6))
        have boV7 := b4
        refine ysw 1 rfl b4 hT61 #[.int .i64 0, .bool false, .bool false, .slice none 0 0, .int .i64 0] ?_
        clear b4
        intro V7 hOV7 b4
        have hzV7 := hOV7.size
        refine yzt 1 ?_
        refine wp_ret ?_
        repeat (first | with_reducible refine sx_thenret ?_ | with_reducible refine sx_blockret ?_)
        refine yret (.tuple #[.agg #[.int .i64 0, .bool false, .bool false, .slice none 0 0, .int .i64 0], .int .i64 3]) (res2 Tryd.results30 (rvr b4 hT61) rvt) ?_
        exact givesEb_zero (k := 0) (n := false) (by rw [hE, if_neg hN]; rfl) rfl hE rfl ((bthru ((bthru (bthru (bthru hbV1 hbV2) hbV3) hbV4).trans (hOV5.below (by omega))) hbV6).trans (hOV7.below (by omega)))
      refine yb 0 rfl 97 (decide (a.e > 20000)) (false) (f97) ?_
      refine yzt 1 ?_
      refine yF ?_
      refine wp_skip ?_
      refine sx_then ?_
      refine wp_seq ?_
      have c4 : -20000 ≤ a.e ∧ a.e ≤ 20000 := by have := of_decide_eq_false f93; have := of_decide_eq_false f97; omega
      have hb1 := hbd c2 c4
      have hb2 := hmu c4
      have hb3 := hx1 c2
      refine sx_cutg (R := fun a' w' => ∃ (kb9 : Nat) (p104 : Option Addr) (c104 : Nat) (p112 : Option Addr) (c112 : Nat), a' = ⟨((.int .i64 n) :: (.agg #[.int .i64 cls, .bool a.g, .slice a.p a.xs.length a.c, .int .i64 a.e]) :: undef :: (.pointer (some ⟨w.heap.size, 0, none⟩)) :: (.pointer (some ⟨V1.heap.size, 0, none⟩)) :: (.int .i64 0) :: (.pointer (some ⟨V3.heap.size, 0, none⟩)) :: (.bool true) :: (.int .i64 (errNat a.xs)) :: (.pointer (some ⟨kb9, 0, none⟩)) :: (.tuple #[.agg #[.int .i64 ((f.size : Nat) : Int), .int .i64 ((f.E : Nat) : Int), .int .i64 ((f.F : Nat) : Int), .int .i64 f.g.rad, .int .i64 f.g.digs, .int .i64 f.g.lo, .int .i64 f.g.hi, .bool f.g.grad, .int .i64 ((f.fam : Nat) : Int)], .bool true]) :: (.int .i64 n) :: (.tuple #[.agg #[.int .i64 ((f.size : Nat) : Int), .int .i64 ((f.E : Nat) : Int), .int .i64 ((f.F : Nat) : Int), .int .i64 f.g.rad, .int .i64 f.g.digs, .int .i64 f.g.lo, .int .i64 f.g.hi, .bool f.g.grad, .int .i64 ((f.fam : Nat) : Int)], .bool true]) :: (.agg #[.int .i64 ((f.size : Nat) : Int), .int .i64 ((f.E : Nat) : Int), .int .i64 ((f.F : Nat) : Int), .int .i64 f.g.rad, .int .i64 f.g.digs, .int .i64 f.g.lo, .int .i64 f.g.hi, .bool f.g.grad, .int .i64 ((f.fam : Nat) : Int)]) :: (.bool true) :: (.bool true) :: (.bool false) :: (.bool false) :: (.pointer (some ⟨w.heap.size, 0, none⟩)) :: (.int .i64 cls) :: (.bool false) :: (.bool false) :: (.bool false) :: (.pointer (some ⟨w.heap.size, 0, none⟩)) :: (.int .i64 cls) :: (.bool false) :: (.bool false) :: undef :: (.pointer (some ⟨w.heap.size, 2, none⟩)) :: (.slice a.p a.xs.length a.c) :: (.int .i64 (errNat a.xs)) :: (.int .i64 (errNat a.xs)) :: (.bool false) :: us 2 ((.pointer (some ⟨V3.heap.size, 8, none⟩)) :: (.int .i64 ((f.fam : Nat) : Int)) :: (.bool true) :: (.bool true) :: (.pointer (some ⟨w.heap.size, 0, none⟩)) :: (.int .i64 cls) :: (.bool false) :: (.bool false) :: (.pointer (some ⟨w.heap.size, 0, none⟩)) :: (.int .i64 cls) :: (.bool false) :: (.bool false) :: (.bool false) :: (.bool false) :: (.pointer (some ⟨V3.heap.size, 8, none⟩)) :: (.int .i64 ((f.fam : Nat) : Int)) :: (.bool false) :: (.bool false) :: us 3 ((.bool false) :: (.bool false) :: undef :: (.pointer (some ⟨w.heap.size, 0, none⟩)) :: (.int .i64 cls) :: (.bool false) :: us 29 ((.pointer (some ⟨w.heap.size, 3, none⟩)) :: (.int .i64 a.e) :: (.bool false) :: (.bool false) :: (.pointer (some ⟨w.heap.size, 3, none⟩)) :: (.int .i64 a.e) :: (.bool false) :: (.bool false) :: undef :: (.pointer (some ⟨w.heap.size, 1, none⟩)) :: (.bool a.g) :: (.pointer (some ⟨w.heap.size, 2, none⟩)) :: (.slice a.p a.xs.length a.c) :: (.slice p104 (dig B16 (val B32 a.xs)).length c104) :: (.pointer (some ⟨V3.heap.size, 3, none⟩)) :: (.agg #[.int .i64 f.g.rad, .int .i64 f.g.digs, .int .i64 f.g.lo, .int .i64 f.g.hi, .bool f.g.grad]) :: (.int .i64 ((wid f.g : Nat) : Int)) :: (.pointer (some ⟨w.heap.size, 3, none⟩)) :: (.int .i64 a.e) :: (.int .i64 (((wid f.g : Nat) : Int) * a.e)) :: (.agg #[.bool a.g, .slice p104 (dig B16 (val B32 a.xs)).length c104, .int .i64 (((wid f.g : Nat) : Int) * a.e)]) :: (.agg #[.bool d.neg, .slice p112 (dig B16 d.m).length c112, .int .i64 d.e]) :: us 18 [])))).toArray, []⟩ ∧ Bt w' kb9 34 #[.bool d.neg, .slice p112 (dig B16 d.m).length c112, .int .i64 d.e] ∧ Rf w' V6.heap.size p104 c104 (dig B16 (val B32 a.xs)) ∧ Rf w' V6.heap.size p112 c112 (dig B16 d.m) ∧ Below V6.heap.size V6 w' ∧ V6.heap.size ≤ kb9) ?_ (fun Gx hGx => ?_)
      · skip
        obtain ⟨V7, hVV7, hbV7, hzV7⟩ := drew_of V6
        replace b3 := (b3.past hbV7)
        replace b6 := (b6.past hbV7)
        refine yd2 hVV7 ⟨b3, b6⟩ ?_
        clear hVV7
        refine yt 14 [0] rfl ⟨b3, b6⟩ ?_
        refine ytl 1 rfl 101 (fun _ h => h.1) hT4 1 ⟨b3, b6⟩ ?_
        refine yt 12 [2] rfl ⟨b3, b6⟩ ?_
        refine ytl 3 rfl 103 (fun _ h => h.1) hT23 2 ⟨b3, b6⟩ ?_
        refine yt 10 [5] rfl ⟨b3, b6⟩ ?_
        refine ytla 6 rfl 106 (fun _ h => h.2) hT29 3 ⟨b3, b6⟩ ?_
        refine yt 8 [8] rfl ⟨b3, b6⟩ ?_
        refine ytl 9 rfl 109 (fun _ h => h.1) hT3 3 ⟨b3, b6⟩ ?_
        refine sxr [4, 13] ?_
        refine rd2 (fun Kx hKx => ?_) ?_
        · skip
          replace rd := (rd.past (bthru hbV6 hbV7))
          refine yck 104 (rof a.p _ a.c a.xs V7 rd rfl hlt (by omega)) ?_
          rintro eV8 V8 ⟨p104, c104, rfl, o104, hbV8⟩
          have hzV8 := hbV8.size
          have lo104 := fun h => o104.lt h
          refine ⟨_, rfl, ?_⟩
          replace b3 := (b3.past hbV8)
          replace b6 := (b6.past hbV8)
          refine hKx.out _ _ ⟨b3, b6⟩ ?_
          clear hKx Kx
          refine sxr [7, 13] ?_
          refine rd2 (fun Kx hKx => ?_) ?_
          · skip
            refine yck 107 (refWidth_any f.g V8) ?_
            rintro eV9 V9 ⟨rfl, hbV9⟩
            have hzV9 := hbV9.size
            refine ⟨_, rfl, ?_⟩
            replace b3 := (b3.past hbV9)
            replace b6 := (b6.past hbV9)
            refine hKx.out _ _ ⟨b3, b6⟩ ?_
            clear hKx Kx
            refine tk 10 110 (.int .i64 (((wid f.g : Nat) : Int) * a.e)) ⟨b3, b6⟩ ?_ (hy := fun w' _ => ((show _ = Result.ok (Next.value (.int .i64 (IntKind.wrap .i64 (((wid f.g : Nat) : Int) * a.e)))) _ by kernel_rfl).trans (congrArg (fun z => Result.ok (Next.value (.int .i64 z)) _) ((IntWalk.i64_in _ (by omega))))))
            refine yt 3 [11] rfl ⟨b3, b6⟩ ?_
            refine sxr [12, 13] ?_
            refine rd2 (fun Kx hKx => ?_) ?_
            · skip
              replace o104 := (o104.past hbV9)
              refine yck 112 (rbared a.g p104 _ c104 (((wid f.g : Nat) : Int) * a.e) (val B32 a.xs) d V9 o104.rd rfl (by omega) (by omega) hd2) ?_
              rintro eV10 V10 ⟨p112, c112, rfl, o112, hbV10⟩
              have hzV10 := hbV10.size
              have lo112 := fun h => o112.lt h
              refine ⟨_, rfl, ?_⟩
              replace b3 := (b3.past hbV10)
              replace b6 := (b6.past hbV10)
              refine hKx.out _ _ ⟨b3, b6⟩ ?_
              clear hKx Kx
              refine sxr [13] ?_
              refine rd1 (fun Kx hKx => ?_)
              refine snk 9 #[.bool false, .slice none 0 0, .int .i64 0] 34 (fun V11 hbV11 hzV11 b9 => ?_)
              replace b3 := (b3.past hbV11)
              replace b6 := (b6.past hbV11)
              refine hKx.out _ _ ⟨b3, b6⟩ ?_
              clear hKx Kx
              refine sxr [14] ?_
              refine rd1 (fun Kx hKx => ?_)
              refine ssk none b9 hT34 0 #[.bool d.neg, .slice p112 (dig B16 d.m).length c112, .int .i64 d.e] #[.bool d.neg, .slice p112 (dig B16 d.m).length c112, .int .i64 d.e] ?_
              have boV12 := b9
              clear b9
              intro V12 hOV12 b9
              have hzV12 := hOV12.size
              replace b3 := (b3.only hOV12 (by omega))
              replace b6 := (b6.only hOV12 (by omega))
              refine hKx.out _ _ ⟨b3, b6⟩ ?_
              clear hKx Kx
              refine sx_done (by kernel_rfl) ?_
              replace o104 := (o104.past ((bthru hbV10 hbV11).trans (hOV12.below (by omega))))
              replace o112 := (o112.past (hbV11.trans (hOV12.below (by omega))))
              exact ⟨rfl, V10.heap.size, p104, c104, p112, c112, by kernel_rfl, b9, (o104.mono (by omega)), (o112.mono (by omega)), ((bthru (bthru (bthru (bthru hbV7 hbV8) hbV9) hbV10) hbV11).trans (hOV12.below (by omega))), by omega⟩
            refine rd1 (fun Kx hKx => ?_)
            refine snk 9 #[.bool false, .slice none 0 0, .int .i64 0] 34 (fun V10 hbV10 hzV10 b9 => ?_)
            replace b3 := (b3.past hbV10)
            replace b6 := (b6.past hbV10)
            refine hKx.out _ _ ⟨b3, b6⟩ ?_
            clear hKx Kx
            refine sxr [12] ?_
            refine rd1 (fun Kx hKx => ?_)
            replace o104 := (o104.past (bthru hbV9 hbV10))
            refine yck 112 (rbared a.g p104 _ c104 (((wid f.g : Nat) : Int) * a.e) (val B32 a.xs) d V10 o104.rd rfl (by omega) (by omega) hd2) ?_
            rintro eV11 V11 ⟨p112, c112, rfl, o112, hbV11⟩
            have hzV11 := hbV11.size
            have lo112 := fun h => o112.lt h
            refine ⟨_, rfl, ?_⟩
            replace b3 := (b3.past hbV11)
            replace b6 := (b6.past hbV11)
            refine hKx.out _ _ ⟨b3, b6⟩ ?_
            clear hKx Kx
            refine sxr [14] ?_
            refine rd1 (fun Kx hKx => ?_)
            replace b9 := (b9.past hbV11)
            refine ssk none b9 hT34 0 #[.bool d.neg, .slice p112 (dig B16 d.m).length c112, .int .i64 d.e] #[.bool d.neg, .slice p112 (dig B16 d.m).length c112, .int .i64 d.e] ?_
            have boV12 := b9
            clear b9
            intro V12 hOV12 b9
            have hzV12 := hOV12.size
            replace b3 := (b3.only hOV12 (by omega))
            replace b6 := (b6.only hOV12 (by omega))
            refine hKx.out _ _ ⟨b3, b6⟩ ?_
            clear hKx Kx
            refine sx_done (by kernel_rfl) ?_
            replace o104 := ((o104.past hbV11).only hOV12 (fun h => by have := lo104 h; omega))
            replace o112 := (o112.only hOV12 (fun h => by have := lo112 h; omega))
            exact ⟨rfl, V9.heap.size, p104, c104, p112, c112, by kernel_rfl, b9, (o104.mono (by omega)), (o112.mono (by omega)), ((bthru (bthru (bthru (bthru hbV7 hbV8) hbV9) hbV10) hbV11).trans (hOV12.below (by omega))), by omega⟩
          refine rd1 (fun Kx hKx => ?_)
          refine snk 9 #[.bool false, .slice none 0 0, .int .i64 0] 34 (fun V9 hbV9 hzV9 b9 => ?_)
          replace b3 := (b3.past hbV9)
          replace b6 := (b6.past hbV9)
          refine hKx.out _ _ ⟨b3, b6⟩ ?_
          clear hKx Kx
          refine sxr [7] ?_
          refine rd1 (fun Kx hKx => ?_)
          refine yck 107 (refWidth_any f.g V9) ?_
          rintro eV10 V10 ⟨rfl, hbV10⟩
          have hzV10 := hbV10.size
          refine ⟨_, rfl, ?_⟩
          replace b3 := (b3.past hbV10)
          replace b6 := (b6.past hbV10)
          refine hKx.out _ _ ⟨b3, b6⟩ ?_
          clear hKx Kx
          refine tk 10 110 (.int .i64 (((wid f.g : Nat) : Int) * a.e)) ⟨b3, b6⟩ ?_ (hy := fun w' _ => ((show _ = Result.ok (Next.value (.int .i64 (IntKind.wrap .i64 (((wid f.g : Nat) : Int) * a.e)))) _ by kernel_rfl).trans (congrArg (fun z => Result.ok (Next.value (.int .i64 z)) _) ((IntWalk.i64_in _ (by omega))))))
          refine yt 2 [11] rfl ⟨b3, b6⟩ ?_
          refine sxr [12] ?_
          refine rd1 (fun Kx hKx => ?_)
          replace o104 := (o104.past (bthru hbV9 hbV10))
          refine yck 112 (rbared a.g p104 _ c104 (((wid f.g : Nat) : Int) * a.e) (val B32 a.xs) d V10 o104.rd rfl (by omega) (by omega) hd2) ?_
          rintro eV11 V11 ⟨p112, c112, rfl, o112, hbV11⟩
          have hzV11 := hbV11.size
          have lo112 := fun h => o112.lt h
          refine ⟨_, rfl, ?_⟩
          replace b3 := (b3.past hbV11)
          replace b6 := (b6.past hbV11)
          refine hKx.out _ _ ⟨b3, b6⟩ ?_
          clear hKx Kx
          refine sxr [14] ?_
          refine rd1 (fun Kx hKx => ?_)
          replace b9 := (b9.past (bthru hbV10 hbV11))
          refine ssk none b9 hT34 0 #[.bool d.neg, .slice p112 (dig B16 d.m).length c112, .int .i64 d.e] #[.bool d.neg, .slice p112 (dig B16 d.m).length c112, .int .i64 d.e] ?_
          have boV12 := b9
          clear b9
          intro V12 hOV12 b9
          have hzV12 := hOV12.size
          replace b3 := (b3.only hOV12 (by omega))
          replace b6 := (b6.only hOV12 (by omega))
          refine hKx.out _ _ ⟨b3, b6⟩ ?_
          clear hKx Kx
          refine sx_done (by kernel_rfl) ?_
          replace o104 := ((o104.past hbV11).only hOV12 (fun h => by have := lo104 h; omega))
          replace o112 := (o112.only hOV12 (fun h => by have := lo112 h; omega))
          exact ⟨rfl, V8.heap.size, p104, c104, p112, c112, by kernel_rfl, b9, (o104.mono (by omega)), (o112.mono (by omega)), ((bthru (bthru (bthru (bthru hbV7 hbV8) hbV9) hbV10) hbV11).trans (hOV12.below (by omega))), by omega⟩
        refine rd1 (fun Kx hKx => ?_)
        refine snk 9 #[.bool false, .slice none 0 0, .int .i64 0] 34 (fun V8 hbV8 hzV8 b9 => ?_)
        replace b3 := (b3.past hbV8)
        replace b6 := (b6.past hbV8)
        refine hKx.out _ _ ⟨b3, b6⟩ ?_
        clear hKx Kx
        refine sxr [4] ?_
        refine rd1 (fun Kx hKx => ?_)
        replace rd := (rd.past (bthru (bthru hbV6 hbV7) hbV8))
        refine yck 104 (rof a.p _ a.c a.xs V8 rd rfl hlt (by omega)) ?_
        rintro eV9 V9 ⟨p104, c104, rfl, o104, hbV9⟩
        have hzV9 := hbV9.size
        have lo104 := fun h => o104.lt h
        refine ⟨_, rfl, ?_⟩
        replace b3 := (b3.past hbV9)
        replace b6 := (b6.past hbV9)
        refine hKx.out _ _ ⟨b3, b6⟩ ?_
        clear hKx Kx
        refine sxr [7] ?_
        refine rd1 (fun Kx hKx => ?_)
        refine yck 107 (refWidth_any f.g V9) ?_
        rintro eV10 V10 ⟨rfl, hbV10⟩
        have hzV10 := hbV10.size
        refine ⟨_, rfl, ?_⟩
        replace b3 := (b3.past hbV10)
        replace b6 := (b6.past hbV10)
        refine hKx.out _ _ ⟨b3, b6⟩ ?_
        clear hKx Kx
        refine tk 10 110 (.int .i64 (((wid f.g : Nat) : Int) * a.e)) ⟨b3, b6⟩ ?_ (hy := fun w' _ => ((show _ = Result.ok (Next.value (.int .i64 (IntKind.wrap .i64 (((wid f.g : Nat) : Int) * a.e)))) _ by kernel_rfl).trans (congrArg (fun z => Result.ok (Next.value (.int .i64 z)) _) ((IntWalk.i64_in _ (by omega))))))
        refine yt 2 [11] rfl ⟨b3, b6⟩ ?_
        refine sxr [12] ?_
        refine rd1 (fun Kx hKx => ?_)
        replace o104 := (o104.past hbV10)
        refine yck 112 (rbared a.g p104 _ c104 (((wid f.g : Nat) : Int) * a.e) (val B32 a.xs) d V10 o104.rd rfl (by omega) (by omega) hd2) ?_
        rintro eV11 V11 ⟨p112, c112, rfl, o112, hbV11⟩
        have hzV11 := hbV11.size
        have lo112 := fun h => o112.lt h
        refine ⟨_, rfl, ?_⟩
        replace b3 := (b3.past hbV11)
        replace b6 := (b6.past hbV11)
        refine hKx.out _ _ ⟨b3, b6⟩ ?_
        clear hKx Kx
        refine sxr [14] ?_
        refine rd1 (fun Kx hKx => ?_)
        replace b9 := (b9.past (bthru (bthru hbV9 hbV10) hbV11))
        refine ssk none b9 hT34 0 #[.bool d.neg, .slice p112 (dig B16 d.m).length c112, .int .i64 d.e] #[.bool d.neg, .slice p112 (dig B16 d.m).length c112, .int .i64 d.e] ?_
        have boV12 := b9
        clear b9
        intro V12 hOV12 b9
        have hzV12 := hOV12.size
        replace b3 := (b3.only hOV12 (by omega))
        replace b6 := (b6.only hOV12 (by omega))
        refine hKx.out _ _ ⟨b3, b6⟩ ?_
        clear hKx Kx
        refine sx_done (by kernel_rfl) ?_
        replace o104 := ((o104.past hbV11).only hOV12 (fun h => by have := lo104 h; omega))
        replace o112 := (o112.only hOV12 (fun h => by have := lo112 h; omega))
        exact ⟨rfl, V7.heap.size, p104, c104, p112, c112, by kernel_rfl, b9, (o104.mono (by omega)), (o112.mono (by omega)), ((bthru (bthru (bthru (bthru hbV7 hbV8) hbV9) hbV10) hbV11).trans (hOV12.below (by omega))), by omega⟩
      rintro _ V7 ⟨kb9, p104, c104, p112, c112, rfl, b9, o104, o112, hbV7, hkb9⟩
      refine hGx _ _ ?_
      clear hGx Gx
      have hzV7 := hbV7.size
      have hlb9 := b9.lt
      have lo104 := fun h => o104.lt h
      have lo112 := fun h => o112.lt h
      refine sx_then ?_
      refine wp_seq ?_
      by_cases h116 : a.xs.length = 0
      · skip
        by_cases h121 : inGridD d f.g = true
        · skip
          refine ye ?_
          replace b3 := (b3.past hbV7)
          refine yl 1 rfl 114 b3 hT23 2 ?_
          refine yb 1 rfl 116 (((a.xs.length : Nat) : Int) == 0) (true) (beq_iff_eq.2 (by omega)) ?_
          refine yzt 7 ?_
          refine yT ?_
          have hE : errEnc f cls a = 4 := by unfold errEnc; rw [if_neg c1, if_neg (by omega), if_neg c3, if_pos c6, if_neg (by omega), if_pos (by first | exact .inl h116 | exact .inr (by rw [hd]; simpa using h121))]
          have hN : (4 : Int) ≠ 0 := by decide
          refine ye ?_
          replace b4 := (b4.past (bthru (bthru ((bthru hbV3 hbV4).trans (hOV5.below (by omega))) hbV6) hbV7))
          have boV8 := b4
          refine ysw 1 rfl b4 hT61 #[.int .i64 0, .bool false, .bool false, .slice none 0 0, .int .i64 0] ?_
          clear b4
          intro V8 hOV8 b4
          have hzV8 := hOV8.size
          refine yzt 1 ?_
          refine wp_ret ?_
          repeat (first | with_reducible refine sx_thenret ?_ | with_reducible refine sx_blockret ?_)
          refine yret (.tuple #[.agg #[.int .i64 0, .bool false, .bool false, .slice none 0 0, .int .i64 0], .int .i64 4]) (res2 Tryd.results30 (rvr b4 hT61) rvt) ?_
          exact givesEb_zero (k := 0) (n := false) (by rw [hE, if_neg hN]; rfl) rfl hE rfl ((bthru (bthru ((bthru (bthru (bthru hbV1 hbV2) hbV3) hbV4).trans (hOV5.below (by omega))) hbV6) hbV7).trans (hOV8.below (by omega)))
        refine ye ?_
        replace b3 := (b3.past hbV7)
        refine yl 1 rfl 114 b3 hT23 2 ?_
        refine yb 1 rfl 116 (((a.xs.length : Nat) : Int) == 0) (true) (beq_iff_eq.2 (by omega)) ?_
        refine yzt 7 ?_
        refine yT ?_
        have hE : errEnc f cls a = 4 := by unfold errEnc; rw [if_neg c1, if_neg (by omega), if_neg c3, if_pos c6, if_neg (by omega), if_pos (by first | exact .inl h116 | exact .inr (by rw [hd]; simpa using h121))]
        have hN : (4 : Int) ≠ 0 := by decide
        refine ye ?_
        replace b4 := (b4.past (bthru (bthru ((bthru hbV3 hbV4).trans (hOV5.below (by omega))) hbV6) hbV7))
        have boV8 := b4
        refine ysw 1 rfl b4 hT61 #[.int .i64 0, .bool false, .bool false, .slice none 0 0, .int .i64 0] ?_
        clear b4
        intro V8 hOV8 b4
        have hzV8 := hOV8.size
        refine yzt 1 ?_
        refine wp_ret ?_
        repeat (first | with_reducible refine sx_thenret ?_ | with_reducible refine sx_blockret ?_)
        refine yret (.tuple #[.agg #[.int .i64 0, .bool false, .bool false, .slice none 0 0, .int .i64 0], .int .i64 4]) (res2 Tryd.results30 (rvr b4 hT61) rvt) ?_
        exact givesEb_zero (k := 0) (n := false) (by rw [hE, if_neg hN]; rfl) rfl hE rfl ((bthru (bthru ((bthru (bthru (bthru hbV1 hbV2) hbV3) hbV4).trans (hOV5.below (by omega))) hbV6) hbV7).trans (hOV8.below (by omega)))
      by_cases h121 : inGridD d f.g = true
      · skip
        refine ye ?_
        replace b3 := (b3.past hbV7)
        refine yl 1 rfl 114 b3 hT23 2 ?_
        refine yb 1 rfl 116 (((a.xs.length : Nat) : Int) == 0) (false) (beq_eq_false_iff_ne.2 (by omega)) ?_
        refine yla 1 rfl 118 b9 hT34 0 ?_
        replace b6 := (b6.past hbV7)
        refine yla 1 rfl 120 b6 hT29 3 ?_
        refine yc 0 rfl 121 (refInGrid_any d.neg p112 _ c112 d.e d.m f.g V7 o112.rd rfl (by omega) (by omega) (goodG_of G.g)) (fun Gx hGx => ?_)
        rintro eV8 V8 ⟨rfl, hbV8⟩
        have hzV8 := hbV8.size
        rw [show (inGridD ⟨d.neg, d.m, d.e⟩ f.g) = true from h121]
        refine ⟨_, rfl, hGx _ _ ?_⟩
        clear hGx Gx
        refine yzt 2 ?_
        refine yF ?_
        refine wp_skip ?_
        refine sx_then ?_
        refine ye ?_
        replace b3 := (b3.past hbV8)
        refine yl 1 rfl 126 b3 hT3 0 ?_
        refine yl 1 rfl 128 b3 hT4 1 ?_
        replace b9 := (b9.past hbV8)
        refine yla 0 rfl 129 b9 hT34 0 ?_
        replace b4 := (b4.past (bthru (bthru (bthru ((bthru hbV3 hbV4).trans (hOV5.below (by omega))) hbV6) hbV7) hbV8))
        have boV9 := b4
        refine ysw 1 rfl b4 hT61 #[.int .i64 cls, .bool a.g, .bool d.neg, .slice p112 (dig B16 d.m).length c112, .int .i64 d.e] ?_
        clear b4
        intro V9 hOV9 b4
        have hzV9 := hOV9.size
        refine yzt 1 ?_
        refine wp_ret ?_
        repeat (first | with_reducible refine sx_thenret ?_ | with_reducible refine sx_blockret ?_)
        refine yret (.tuple #[.agg #[.int .i64 cls, .bool a.g, .bool d.neg, .slice p112 (dig B16 d.m).length c112, .int .i64 d.e], .int .i64 0]) (res2 Tryd.results30 (rvr b4 hT61) rvt) ?_
        have hE : errEnc f cls a = 0 := by unfold errEnc; rw [if_neg c1, if_neg (by omega), if_neg c3, if_pos c6, if_neg (by omega), if_neg (fun h => by rcases h with h | h <;> first | exact h116 h | (rw [hd, h121] at h; cases h; done))]
        subst c6
        replace o112 := ((o112.past hbV8).only hOV9 (fun h => by have := lo112 h; omega))
        exact givesEb_of (u := ⟨2, a.g, d⟩) (by rw [if_pos hE]; exact hvd rfl) hE rfl o112 (by omega) ((bthru (bthru (bthru ((bthru (bthru (bthru hbV1 hbV2) hbV3) hbV4).trans (hOV5.below (by omega))) hbV6) hbV7) hbV8).trans (hOV9.below (by omega)))
      refine ye ?_
      replace b3 := (b3.past hbV7)
      refine yl 1 rfl 114 b3 hT23 2 ?_
      refine yb 1 rfl 116 (((a.xs.length : Nat) : Int) == 0) (false) (beq_eq_false_iff_ne.2 (by omega)) ?_
      refine yla 1 rfl 118 b9 hT34 0 ?_
      replace b6 := (b6.past hbV7)
      refine yla 1 rfl 120 b6 hT29 3 ?_
      refine yc 0 rfl 121 (refInGrid_any d.neg p112 _ c112 d.e d.m f.g V7 o112.rd rfl (by omega) (by omega) (goodG_of G.g)) (fun Gx hGx => ?_)
      rintro eV8 V8 ⟨rfl, hbV8⟩
      have hzV8 := hbV8.size
      rw [show (inGridD ⟨d.neg, d.m, d.e⟩ f.g) = false from (by simpa using h121)]
      refine ⟨_, rfl, hGx _ _ ?_⟩
      clear hGx Gx
      refine yzt 2 ?_
      refine yT ?_
      have hE : errEnc f cls a = 4 := by unfold errEnc; rw [if_neg c1, if_neg (by omega), if_neg c3, if_pos c6, if_neg (by omega), if_pos (by first | exact .inl h116 | exact .inr (by rw [hd]; simpa using h121))]
      have hN : (4 : Int) ≠ 0 := by decide
      refine ye ?_
      replace b4 := (b4.past (bthru (bthru (bthru ((bthru hbV3 hbV4).trans (hOV5.below (by omega))) hbV6) hbV7) hbV8))
      have boV9 := b4
      refine ysw 1 rfl b4 hT61 #[.int .i64 0, .bool false, .bool false, .slice none 0 0, .int .i64 0] ?_
      clear b4
      intro V9 hOV9 b4
      have hzV9 := hOV9.size
      refine yzt 1 ?_
      refine wp_ret ?_
      repeat (first | with_reducible refine sx_thenret ?_ | with_reducible refine sx_blockret ?_)
      refine yret (.tuple #[.agg #[.int .i64 0, .bool false, .bool false, .slice none 0 0, .int .i64 0], .int .i64 4]) (res2 Tryd.results30 (rvr b4 hT61) rvt) ?_
      exact givesEb_zero (k := 0) (n := false) (by rw [hE, if_neg hN]; rfl) rfl hE rfl ((bthru (bthru (bthru ((bthru (bthru (bthru hbV1 hbV2) hbV3) hbV4).trans (hOV5.below (by omega))) hbV6) hbV7) hbV8).trans (hOV9.below (by omega)))
    refine yb 0 rfl 37 (((f.fam : Nat) : Int) != 1) (false) (f37) ?_
    refine yl 12 rfl 50 b6 hT3 8 ?_
    rcases Bool.eq_false_or_eq_true (((f.fam : Nat) : Int) != 3) with f51 | f51
    · skip
      refine yb 0 rfl 51 (((f.fam : Nat) : Int) != 3) (true) (f51) ?_
      replace b3 := (b3.past hbV6)
      refine yl 2 rfl 54 b3 hT3 0 ?_
      rcases Bool.eq_false_or_eq_true (cls == 5) with f55 | f55
      · skip
        refine yb 0 rfl 55 (cls == 5) (true) (f55) ?_
        refine yzt 2 ?_
        refine yT ?_
        have hE : errEnc f cls a = 5 := by (try have q37 := bne_iff_ne.1 f37); (try have q37 := bne_eq_false_iff_eq.1 f37); (try have q41 := beq_iff_eq.1 f41); (try have q41 := beq_eq_false_iff_ne.1 f41); (try have q45 := beq_iff_eq.1 f45); (try have q45 := beq_eq_false_iff_ne.1 f45); (try have q51 := bne_iff_ne.1 f51); (try have q51 := bne_eq_false_iff_eq.1 f51); (try have q55 := beq_iff_eq.1 f55); (try have q55 := beq_eq_false_iff_ne.1 f55); unfold errEnc; rw [if_neg c1, if_neg (by omega), if_pos (by rw [hinf, hres]; omega)]
        have hN : (5 : Int) ≠ 0 := by decide
        refine ye ?_
        replace b4 := (b4.past (bthru ((bthru hbV3 hbV4).trans (hOV5.below (by omega))) hbV6))
        have boV7 := b4
        refine ysw 1 rfl b4 hT61 #[.int .i64 0, .bool false, .bool false, .slice none 0 0, .int .i64 0] ?_
        clear b4
        intro V7 hOV7 b4
        have hzV7 := hOV7.size
        refine yzt 1 ?_
        refine wp_ret ?_
        repeat (first | with_reducible refine sx_thenret ?_ | with_reducible refine sx_blockret ?_)
        refine yret (.tuple #[.agg #[.int .i64 0, .bool false, .bool false, .slice none 0 0, .int .i64 0], .int .i64 5]) (res2 Tryd.results30 (rvr b4 hT61) rvt) ?_
        exact givesEb_zero (k := 0) (n := false) (by rw [hE, if_neg hN]; rfl) rfl hE rfl ((bthru ((bthru (bthru (bthru hbV1 hbV2) hbV3) hbV4).trans (hOV5.below (by omega))) hbV6).trans (hOV7.below (by omega)))
      refine yb 0 rfl 55 (cls == 5) (false) (f55) ?_
      refine yzt 2 ?_
      refine yF ?_
      refine wp_skip ?_
      refine sx_then ?_
      refine wp_seq ?_
      have c3 : ¬ (((cls = 3 ∨ cls = 4) ∧ f.inf = false) ∨ (cls = 5 ∧ f.res = false)) := by (try have q37 := bne_iff_ne.1 f37); (try have q37 := bne_eq_false_iff_eq.1 f37); (try have q41 := beq_iff_eq.1 f41); (try have q41 := beq_eq_false_iff_ne.1 f41); (try have q45 := beq_iff_eq.1 f45); (try have q45 := beq_eq_false_iff_ne.1 f45); (try have q51 := bne_iff_ne.1 f51); (try have q51 := bne_eq_false_iff_eq.1 f51); (try have q55 := beq_iff_eq.1 f55); (try have q55 := beq_eq_false_iff_ne.1 f55); rw [hinf, hres]; omega
      refine ye ?_
      refine yl 1 rfl 60 b3 hT3 0 ?_
      rcases Bool.eq_false_or_eq_true (cls != 2) with f61 | f61
      · skip
        refine yb 0 rfl 61 (cls != 2) (true) (f61) ?_
        refine yzt 0 ?_
        refine yT ?_
        refine wp_seq ?_
        have c6 : cls ≠ 2 := bne_iff_ne.1 f61
        refine ye ?_
        refine yl 1 rfl 63 b3 hT23 2 ?_
        rcases Bool.eq_false_or_eq_true (decide (((a.xs.length : Nat) : Int) > 0)) with f65 | f65
        · skip
          refine yb 1 rfl 65 (decide (((a.xs.length : Nat) : Int) > 0)) (true) (f65) ?_
          refine yzt 19 ?_
          refine yT ?_
          have hE : errEnc f cls a = 4 := by unfold errEnc; rw [if_neg c1, if_neg (by omega), if_neg c3, if_neg c6, if_pos (by first | (have := of_decide_eq_true f65; omega) | exact .inr (.inl (bne_iff_ne.1 f69)) | exact .inr (.inr ⟨f73, .inl (of_decide_eq_true f77)⟩) | exact .inr (.inr ⟨f73, .inr (by cases hr : f.res with | true => rfl | false => exact absurd (by have := beq_iff_eq.1 f81; omega) (hres.1 hr))⟩))]
          have hN : (4 : Int) ≠ 0 := by decide
          refine ye ?_
          replace b4 := (b4.past (bthru ((bthru hbV3 hbV4).trans (hOV5.below (by omega))) hbV6))
          have boV7 := b4
          refine ysw 1 rfl b4 hT61 #[.int .i64 0, .bool false, .bool false, .slice none 0 0, .int .i64 0] ?_
          clear b4
          intro V7 hOV7 b4
          have hzV7 := hOV7.size
          refine yzt 1 ?_
          refine wp_ret ?_
          repeat (first | with_reducible refine sx_thenret ?_ | with_reducible refine sx_blockret ?_)
          refine yret (.tuple #[.agg #[.int .i64 0, .bool false, .bool false, .slice none 0 0, .int .i64 0], .int .i64 4]) (res2 Tryd.results30 (rvr b4 hT61) rvt) ?_
          exact givesEb_zero (k := 0) (n := false) (by rw [hE, if_neg hN]; rfl) rfl hE rfl ((bthru ((bthru (bthru (bthru hbV1 hbV2) hbV3) hbV4).trans (hOV5.below (by omega))) hbV6).trans (hOV7.below (by omega)))
        refine yb 1 rfl 65 (decide (((a.xs.length : Nat) : Int) > 0)) (false) (f65) ?_
        refine yl 2 rfl 68 b3 hT3 3 ?_
        rcases Bool.eq_false_or_eq_true (a.e != 0) with f69 | f69
        · skip
          refine yb 0 rfl 69 (a.e != 0) (true) (f69) ?_
          refine yzt 15 ?_
          refine yT ?_
          have hE : errEnc f cls a = 4 := by unfold errEnc; rw [if_neg c1, if_neg (by omega), if_neg c3, if_neg c6, if_pos (by first | (have := of_decide_eq_true f65; omega) | exact .inr (.inl (bne_iff_ne.1 f69)) | exact .inr (.inr ⟨f73, .inl (of_decide_eq_true f77)⟩) | exact .inr (.inr ⟨f73, .inr (by cases hr : f.res with | true => rfl | false => exact absurd (by have := beq_iff_eq.1 f81; omega) (hres.1 hr))⟩))]
          have hN : (4 : Int) ≠ 0 := by decide
          refine ye ?_
          replace b4 := (b4.past (bthru ((bthru hbV3 hbV4).trans (hOV5.below (by omega))) hbV6))
          have boV7 := b4
          refine ysw 1 rfl b4 hT61 #[.int .i64 0, .bool false, .bool false, .slice none 0 0, .int .i64 0] ?_
          clear b4
          intro V7 hOV7 b4
          have hzV7 := hOV7.size
          refine yzt 1 ?_
          refine wp_ret ?_
          repeat (first | with_reducible refine sx_thenret ?_ | with_reducible refine sx_blockret ?_)
          refine yret (.tuple #[.agg #[.int .i64 0, .bool false, .bool false, .slice none 0 0, .int .i64 0], .int .i64 4]) (res2 Tryd.results30 (rvr b4 hT61) rvt) ?_
          exact givesEb_zero (k := 0) (n := false) (by rw [hE, if_neg hN]; rfl) rfl hE rfl ((bthru ((bthru (bthru (bthru hbV1 hbV2) hbV3) hbV4).trans (hOV5.below (by omega))) hbV6).trans (hOV7.below (by omega)))
        refine yb 0 rfl 69 (a.e != 0) (false) (f69) ?_
        rcases Bool.eq_false_or_eq_true (a.g) with f73 | f73
        · skip
          refine ylb 3 rfl 73 b3 hT4 1 (a.g) true (f73) ?_
          refine yl 2 rfl 76 b3 hT3 0 ?_
          rcases Bool.eq_false_or_eq_true (decide (cls ≥ 4)) with f77 | f77
          · skip
            refine yb 0 rfl 77 (decide (cls ≥ 4)) (true) (f77) ?_
            refine yzt 7 ?_
            refine yT ?_
            have hE : errEnc f cls a = 4 := by unfold errEnc; rw [if_neg c1, if_neg (by omega), if_neg c3, if_neg c6, if_pos (by first | (have := of_decide_eq_true f65; omega) | exact .inr (.inl (bne_iff_ne.1 f69)) | exact .inr (.inr ⟨f73, .inl (of_decide_eq_true f77)⟩) | exact .inr (.inr ⟨f73, .inr (by cases hr : f.res with | true => rfl | false => exact absurd (by have := beq_iff_eq.1 f81; omega) (hres.1 hr))⟩))]
            have hN : (4 : Int) ≠ 0 := by decide
            refine ye ?_
            replace b4 := (b4.past (bthru ((bthru hbV3 hbV4).trans (hOV5.below (by omega))) hbV6))
            have boV7 := b4
            refine ysw 1 rfl b4 hT61 #[.int .i64 0, .bool false, .bool false, .slice none 0 0, .int .i64 0] ?_
            clear b4
            intro V7 hOV7 b4
            have hzV7 := hOV7.size
            refine yzt 1 ?_
            refine wp_ret ?_
            repeat (first | with_reducible refine sx_thenret ?_ | with_reducible refine sx_blockret ?_)
            refine yret (.tuple #[.agg #[.int .i64 0, .bool false, .bool false, .slice none 0 0, .int .i64 0], .int .i64 4]) (res2 Tryd.results30 (rvr b4 hT61) rvt) ?_
            exact givesEb_zero (k := 0) (n := false) (by rw [hE, if_neg hN]; rfl) rfl hE rfl ((bthru ((bthru (bthru (bthru hbV1 hbV2) hbV3) hbV4).trans (hOV5.below (by omega))) hbV6).trans (hOV7.below (by omega)))
          refine yb 0 rfl 77 (decide (cls ≥ 4)) (false) (f77) ?_
          refine yl 2 rfl 80 b6 hT3 8 ?_
          rcases Bool.eq_false_or_eq_true (((f.fam : Nat) : Int) == 3) with f81 | f81
          · skip
            refine yb 0 rfl 81 (((f.fam : Nat) : Int) == 3) (true) (f81) ?_
            refine yzt 3 ?_
            refine yT ?_
            have hE : errEnc f cls a = 4 := by unfold errEnc; rw [if_neg c1, if_neg (by omega), if_neg c3, if_neg c6, if_pos (by first | (have := of_decide_eq_true f65; omega) | exact .inr (.inl (bne_iff_ne.1 f69)) | exact .inr (.inr ⟨f73, .inl (of_decide_eq_true f77)⟩) | exact .inr (.inr ⟨f73, .inr (by cases hr : f.res with | true => rfl | false => exact absurd (by have := beq_iff_eq.1 f81; omega) (hres.1 hr))⟩))]
            have hN : (4 : Int) ≠ 0 := by decide
            refine ye ?_
            replace b4 := (b4.past (bthru ((bthru hbV3 hbV4).trans (hOV5.below (by omega))) hbV6))
            have boV7 := b4
            refine ysw 1 rfl b4 hT61 #[.int .i64 0, .bool false, .bool false, .slice none 0 0, .int .i64 0] ?_
            clear b4
            intro V7 hOV7 b4
            have hzV7 := hOV7.size
            refine yzt 1 ?_
            refine wp_ret ?_
            repeat (first | with_reducible refine sx_thenret ?_ | with_reducible refine sx_blockret ?_)
            refine yret (.tuple #[.agg #[.int .i64 0, .bool false, .bool false, .slice none 0 0, .int .i64 0], .int .i64 4]) (res2 Tryd.results30 (rvr b4 hT61) rvt) ?_
            exact givesEb_zero (k := 0) (n := false) (by rw [hE, if_neg hN]; rfl) rfl hE rfl ((bthru ((bthru (bthru (bthru hbV1 hbV2) hbV3) hbV4).trans (hOV5.below (by omega))) hbV6).trans (hOV7.below (by omega)))
          refine yb 0 rfl 81 (((f.fam : Nat) : Int) == 3) (false) (f81) ?_
          refine yzt 3 ?_
          refine yF ?_
          refine wp_skip ?_
          refine sx_then ?_
          have hE : errEnc f cls a = 0 := by unfold errEnc; rw [if_neg c1, if_neg (by omega), if_neg c3, if_neg c6, if_neg (fun h => by rcases h with h | h | ⟨h, k⟩ <;> first | (have := of_decide_eq_false f65; omega) | (have := bne_eq_false_iff_eq.1 f69; omega) | (rw [f73] at h; cases h; done) | (rcases k with k | k <;> first | (have := of_decide_eq_false f77; omega) | (rw [hres.2 (by have := beq_eq_false_iff_ne.1 f81; omega)] at k; cases k; done)))]
          refine ye ?_
          refine yl 1 rfl 87 b3 hT3 0 ?_
          refine yl 1 rfl 89 b3 hT4 1 ?_
          replace b4 := (b4.past (bthru ((bthru hbV3 hbV4).trans (hOV5.below (by omega))) hbV6))
          have boV7 := b4
          refine ysw 1 rfl b4 hT61 #[.int .i64 cls, .bool a.g, .bool false, .slice none 0 0, .int .i64 0] ?_
          clear b4
          intro V7 hOV7 b4
          have hzV7 := hOV7.size
          refine yzt 1 ?_
          refine wp_ret ?_
          repeat (first | with_reducible refine sx_thenret ?_ | with_reducible refine sx_blockret ?_)
          refine yret (.tuple #[.agg #[.int .i64 cls, .bool a.g, .bool false, .slice none 0 0, .int .i64 0], .int .i64 0]) (res2 Tryd.results30 (rvr b4 hT61) rvt) ?_
          exact givesEb_zero (by rw [if_pos hE]; exact hvz c6) (by omega) hE rfl ((bthru ((bthru (bthru (bthru hbV1 hbV2) hbV3) hbV4).trans (hOV5.below (by omega))) hbV6).trans (hOV7.below (by omega)))
        refine ylb 3 rfl 73 b3 hT4 1 (a.g) false (f73) ?_
        refine yzt 11 ?_
        refine yF ?_
        refine wp_skip ?_
        refine sx_then ?_
        have hE : errEnc f cls a = 0 := by unfold errEnc; rw [if_neg c1, if_neg (by omega), if_neg c3, if_neg c6, if_neg (fun h => by rcases h with h | h | ⟨h, k⟩ <;> first | (have := of_decide_eq_false f65; omega) | (have := bne_eq_false_iff_eq.1 f69; omega) | (rw [f73] at h; cases h; done) | (rcases k with k | k <;> first | (have := of_decide_eq_false f77; omega) | (rw [hres.2 (by have := beq_eq_false_iff_ne.1 f81; omega)] at k; cases k; done)))]
        refine ye ?_
        refine yl 1 rfl 87 b3 hT3 0 ?_
        refine yl 1 rfl 89 b3 hT4 1 ?_
        replace b4 := (b4.past (bthru ((bthru hbV3 hbV4).trans (hOV5.below (by omega))) hbV6))
        have boV7 := b4
        refine ysw 1 rfl b4 hT61 #[.int .i64 cls, .bool a.g, .bool false, .slice none 0 0, .int .i64 0] ?_
        clear b4
        intro V7 hOV7 b4
        have hzV7 := hOV7.size
        refine yzt 1 ?_
        refine wp_ret ?_
        repeat (first | with_reducible refine sx_thenret ?_ | with_reducible refine sx_blockret ?_)
        refine yret (.tuple #[.agg #[.int .i64 cls, .bool a.g, .bool false, .slice none 0 0, .int .i64 0], .int .i64 0]) (res2 Tryd.results30 (rvr b4 hT61) rvt) ?_
        exact givesEb_zero (by rw [if_pos hE]; exact hvz c6) (by omega) hE rfl ((bthru ((bthru (bthru (bthru hbV1 hbV2) hbV3) hbV4).trans (hOV5.below (by omega))) hbV6).trans (hOV7.below (by omega)))
      refine yb 0 rfl 61 (cls != 2) (false) (f61) ?_
      refine yzt 0 ?_
      refine yF ?_
      refine wp_skip ?_
      refine sx_then ?_
      refine wp_seq ?_
      have c6 : cls = 2 := by simpa using f61
      refine ye ?_
      refine yl 1 rfl 92 b3 hT3 3 ?_
      rcases Bool.eq_false_or_eq_true (decide (a.e < (-20000))) with f93 | f93
      · skip
        refine yb 0 rfl 93 (decide (a.e < (-20000))) (true) (f93) ?_
        refine yzt 5 ?_
        refine yT ?_
        have hE : errEnc f cls a = 3 := by unfold errEnc; rw [if_neg c1, if_neg (by omega), if_neg c3, if_pos c6, if_pos (by first | (have := of_decide_eq_true f93; omega) | (have := of_decide_eq_true f97; omega))]
        have hN : (3 : Int) ≠ 0 := by decide
        refine ye ?_
        replace b4 := (b4.past (bthru ((bthru hbV3 hbV4).trans (hOV5.below (by omega))) hbV6))
        have boV7 := b4
        refine ysw 1 rfl b4 hT61 #[.int .i64 0, .bool false, .bool false, .slice none 0 0, .int .i64 0] ?_
        clear b4
        intro V7 hOV7 b4
        have hzV7 := hOV7.size
        refine yzt 1 ?_
        refine wp_ret ?_
        repeat (first | with_reducible refine sx_thenret ?_ | with_reducible refine sx_blockret ?_)
        refine yret (.tuple #[.agg #[.int .i64 0, .bool false, .bool false, .slice none 0 0, .int .i64 0], .int .i64 3]) (res2 Tryd.results30 (rvr b4 hT61) rvt) ?_
        exact givesEb_zero (k := 0) (n := false) (by rw [hE, if_neg hN]; rfl) rfl hE rfl ((bthru ((bthru (bthru (bthru hbV1 hbV2) hbV3) hbV4).trans (hOV5.below (by omega))) hbV6).trans (hOV7.below (by omega)))
      refine yb 0 rfl 93 (decide (a.e < (-20000))) (false) (f93) ?_
      refine yl 2 rfl 96 b3 hT3 3 ?_
      rcases Bool.eq_false_or_eq_true (decide (a.e > 20000)) with f97 | f97
      · skip
        refine yb 0 rfl 97 (decide (a.e > 20000)) (true) (f97) ?_
        refine yzt 1 ?_
        refine yT ?_
        have hE : errEnc f cls a = 3 := by unfold errEnc; rw [if_neg c1, if_neg (by omega), if_neg c3, if_pos c6, if_pos (by first | (have := of_decide_eq_true f93; omega) | (have := of_decide_eq_true f97; omega))]
        have hN : (3 : Int) ≠ 0 := by decide
        refine ye ?_
        replace b4 := (b4.past (bthru ((bthru hbV3 hbV4).trans (hOV5.below (by omega))) hbV6))
        have boV7 := b4
        refine ysw 1 rfl b4 hT61 #[.int .i64 0, .bool false, .bool false, .slice none 0 0, .int .i64 0] ?_
        clear b4
        intro V7 hOV7 b4
        have hzV7 := hOV7.size
        refine yzt 1 ?_
        refine wp_ret ?_
        repeat (first | with_reducible refine sx_thenret ?_ | with_reducible refine sx_blockret ?_)
        refine yret (.tuple #[.agg #[.int .i64 0, .bool false, .bool false, .slice none 0 0, .int .i64 0], .int .i64 3]) (res2 Tryd.results30 (rvr b4 hT61) rvt) ?_
        exact givesEb_zero (k := 0) (n := false) (by rw [hE, if_neg hN]; rfl) rfl hE rfl ((bthru ((bthru (bthru (bthru hbV1 hbV2) hbV3) hbV4).trans (hOV5.below (by omega))) hbV6).trans (hOV7.below (by omega)))
      refine yb 0 rfl 97 (decide (a.e > 20000)) (false) (f97) ?_
      refine yzt 1 ?_
      refine yF ?_
      refine wp_skip ?_
      refine sx_then ?_
      refine wp_seq ?_
      have c4 : -20000 ≤ a.e ∧ a.e ≤ 20000 := by have := of_decide_eq_false f93; have := of_decide_eq_false f97; omega
      have hb1 := hbd c2 c4
      have hb2 := hmu c4
      have hb3 := hx1 c2
      refine sx_cutg (R := fun a' w' => ∃ (kb9 : Nat) (p104 : Option Addr) (c104 : Nat) (p112 : Option Addr) (c112 : Nat), a' = ⟨((.int .i64 n) :: (.agg #[.int .i64 cls, .bool a.g, .slice a.p a.xs.length a.c, .int .i64 a.e]) :: undef :: (.pointer (some ⟨w.heap.size, 0, none⟩)) :: (.pointer (some ⟨V1.heap.size, 0, none⟩)) :: (.int .i64 0) :: (.pointer (some ⟨V3.heap.size, 0, none⟩)) :: (.bool true) :: (.int .i64 (errNat a.xs)) :: (.pointer (some ⟨kb9, 0, none⟩)) :: (.tuple #[.agg #[.int .i64 ((f.size : Nat) : Int), .int .i64 ((f.E : Nat) : Int), .int .i64 ((f.F : Nat) : Int), .int .i64 f.g.rad, .int .i64 f.g.digs, .int .i64 f.g.lo, .int .i64 f.g.hi, .bool f.g.grad, .int .i64 ((f.fam : Nat) : Int)], .bool true]) :: (.int .i64 n) :: (.tuple #[.agg #[.int .i64 ((f.size : Nat) : Int), .int .i64 ((f.E : Nat) : Int), .int .i64 ((f.F : Nat) : Int), .int .i64 f.g.rad, .int .i64 f.g.digs, .int .i64 f.g.lo, .int .i64 f.g.hi, .bool f.g.grad, .int .i64 ((f.fam : Nat) : Int)], .bool true]) :: (.agg #[.int .i64 ((f.size : Nat) : Int), .int .i64 ((f.E : Nat) : Int), .int .i64 ((f.F : Nat) : Int), .int .i64 f.g.rad, .int .i64 f.g.digs, .int .i64 f.g.lo, .int .i64 f.g.hi, .bool f.g.grad, .int .i64 ((f.fam : Nat) : Int)]) :: (.bool true) :: (.bool true) :: (.bool false) :: (.bool false) :: (.pointer (some ⟨w.heap.size, 0, none⟩)) :: (.int .i64 cls) :: (.bool false) :: (.bool false) :: (.bool false) :: (.pointer (some ⟨w.heap.size, 0, none⟩)) :: (.int .i64 cls) :: (.bool false) :: (.bool false) :: undef :: (.pointer (some ⟨w.heap.size, 2, none⟩)) :: (.slice a.p a.xs.length a.c) :: (.int .i64 (errNat a.xs)) :: (.int .i64 (errNat a.xs)) :: (.bool false) :: us 2 ((.pointer (some ⟨V3.heap.size, 8, none⟩)) :: (.int .i64 ((f.fam : Nat) : Int)) :: (.bool false) :: (.bool false) :: us 8 ((.bool false) :: (.bool false) :: (.pointer (some ⟨V3.heap.size, 8, none⟩)) :: (.int .i64 ((f.fam : Nat) : Int)) :: (.bool true) :: (.bool true) :: (.pointer (some ⟨w.heap.size, 0, none⟩)) :: (.int .i64 cls) :: (.bool false) :: (.bool false) :: (.bool false) :: undef :: (.pointer (some ⟨w.heap.size, 0, none⟩)) :: (.int .i64 cls) :: (.bool false) :: us 29 ((.pointer (some ⟨w.heap.size, 3, none⟩)) :: (.int .i64 a.e) :: (.bool false) :: (.bool false) :: (.pointer (some ⟨w.heap.size, 3, none⟩)) :: (.int .i64 a.e) :: (.bool false) :: (.bool false) :: undef :: (.pointer (some ⟨w.heap.size, 1, none⟩)) :: (.bool a.g) :: (.pointer (some ⟨w.heap.size, 2, none⟩)) :: (.slice a.p a.xs.length a.c) :: (.slice p104 (dig B16 (val B32 a.xs)).length c104) :: (.pointer (some ⟨V3.heap.size, 3, none⟩)) :: (.agg #[.int .i64 f.g.rad, .int .i64 f.g.digs, .int .i64 f.g.lo, .int .i64 f.g.hi, .bool f.g.grad]) :: (.int .i64 ((wid f.g : Nat) : Int)) :: (.pointer (some ⟨w.heap.size, 3, none⟩)) :: (.int .i64 a.e) :: (.int .i64 (((wid f.g : Nat) : Int) * a.e)) :: (.agg #[.bool a.g, .slice p104 (dig B16 (val B32 a.xs)).length c104, .int .i64 (((wid f.g : Nat) : Int) * a.e)]) :: (.agg #[.bool d.neg, .slice p112 (dig B16 d.m).length c112, .int .i64 d.e]) :: us 18 [])))).toArray, []⟩ ∧ Bt w' kb9 34 #[.bool d.neg, .slice p112 (dig B16 d.m).length c112, .int .i64 d.e] ∧ Rf w' V6.heap.size p104 c104 (dig B16 (val B32 a.xs)) ∧ Rf w' V6.heap.size p112 c112 (dig B16 d.m) ∧ Below V6.heap.size V6 w' ∧ V6.heap.size ≤ kb9) ?_ (fun Gx hGx => ?_)
      · skip
        obtain ⟨V7, hVV7, hbV7, hzV7⟩ := drew_of V6
        replace b3 := (b3.past hbV7)
        replace b6 := (b6.past hbV7)
        refine yd2 hVV7 ⟨b3, b6⟩ ?_
        clear hVV7
        refine yt 14 [0] rfl ⟨b3, b6⟩ ?_
        refine ytl 1 rfl 101 (fun _ h => h.1) hT4 1 ⟨b3, b6⟩ ?_
        refine yt 12 [2] rfl ⟨b3, b6⟩ ?_
        refine ytl 3 rfl 103 (fun _ h => h.1) hT23 2 ⟨b3, b6⟩ ?_
        refine yt 10 [5] rfl ⟨b3, b6⟩ ?_
        refine ytla 6 rfl 106 (fun _ h => h.2) hT29 3 ⟨b3, b6⟩ ?_
        refine yt 8 [8] rfl ⟨b3, b6⟩ ?_
        refine ytl 9 rfl 109 (fun _ h => h.1) hT3 3 ⟨b3, b6⟩ ?_
        refine sxr [4, 13] ?_
        refine rd2 (fun Kx hKx => ?_) ?_
        · skip
          replace rd := (rd.past (bthru hbV6 hbV7))
          refine yck 104 (rof a.p _ a.c a.xs V7 rd rfl hlt (by omega)) ?_
          rintro eV8 V8 ⟨p104, c104, rfl, o104, hbV8⟩
          have hzV8 := hbV8.size
          have lo104 := fun h => o104.lt h
          refine ⟨_, rfl, ?_⟩
          replace b3 := (b3.past hbV8)
          replace b6 := (b6.past hbV8)
          refine hKx.out _ _ ⟨b3, b6⟩ ?_
          clear hKx Kx
          refine sxr [7, 13] ?_
          refine rd2 (fun Kx hKx => ?_) ?_
          · skip
            refine yck 107 (refWidth_any f.g V8) ?_
            rintro eV9 V9 ⟨rfl, hbV9⟩
            have hzV9 := hbV9.size
            refine ⟨_, rfl, ?_⟩
            replace b3 := (b3.past hbV9)
            replace b6 := (b6.past hbV9)
            refine hKx.out _ _ ⟨b3, b6⟩ ?_
            clear hKx Kx
            refine tk 10 110 (.int .i64 (((wid f.g : Nat) : Int) * a.e)) ⟨b3, b6⟩ ?_ (hy := fun w' _ => ((show _ = Result.ok (Next.value (.int .i64 (IntKind.wrap .i64 (((wid f.g : Nat) : Int) * a.e)))) _ by kernel_rfl).trans (congrArg (fun z => Result.ok (Next.value (.int .i64 z)) _) ((IntWalk.i64_in _ (by omega))))))
            refine yt 3 [11] rfl ⟨b3, b6⟩ ?_
            refine sxr [12, 13] ?_
            refine rd2 (fun Kx hKx => ?_) ?_
            · skip
              replace o104 := (o104.past hbV9)
              refine yck 112 (rbared a.g p104 _ c104 (((wid f.g : Nat) : Int) * a.e) (val B32 a.xs) d V9 o104.rd rfl (by omega) (by omega) hd2) ?_
              rintro eV10 V10 ⟨p112, c112, rfl, o112, hbV10⟩
              have hzV10 := hbV10.size
              have lo112 := fun h => o112.lt h
              refine ⟨_, rfl, ?_⟩
              replace b3 := (b3.past hbV10)
              replace b6 := (b6.past hbV10)
              refine hKx.out _ _ ⟨b3, b6⟩ ?_
              clear hKx Kx
              refine sxr [13] ?_
              refine rd1 (fun Kx hKx => ?_)
              refine snk 9 #[.bool false, .slice none 0 0, .int .i64 0] 34 (fun V11 hbV11 hzV11 b9 => ?_)
              replace b3 := (b3.past hbV11)
              replace b6 := (b6.past hbV11)
              refine hKx.out _ _ ⟨b3, b6⟩ ?_
              clear hKx Kx
              refine sxr [14] ?_
              refine rd1 (fun Kx hKx => ?_)
              refine ssk none b9 hT34 0 #[.bool d.neg, .slice p112 (dig B16 d.m).length c112, .int .i64 d.e] #[.bool d.neg, .slice p112 (dig B16 d.m).length c112, .int .i64 d.e] ?_
              have boV12 := b9
              clear b9
              intro V12 hOV12 b9
              have hzV12 := hOV12.size
              replace b3 := (b3.only hOV12 (by omega))
              replace b6 := (b6.only hOV12 (by omega))
              refine hKx.out _ _ ⟨b3, b6⟩ ?_
              clear hKx Kx
              refine sx_done (by kernel_rfl) ?_
              replace o104 := (o104.past ((bthru hbV10 hbV11).trans (hOV12.below (by omega))))
              replace o112 := (o112.past (hbV11.trans (hOV12.below (by omega))))
              exact ⟨rfl, V10.heap.size, p104, c104, p112, c112, by kernel_rfl, b9, (o104.mono (by omega)), (o112.mono (by omega)), ((bthru (bthru (bthru (bthru hbV7 hbV8) hbV9) hbV10) hbV11).trans (hOV12.below (by omega))), by omega⟩
            refine rd1 (fun Kx hKx => ?_)
            refine snk 9 #[.bool false, .slice none 0 0, .int .i64 0] 34 (fun V10 hbV10 hzV10 b9 => ?_)
            replace b3 := (b3.past hbV10)
            replace b6 := (b6.past hbV10)
            refine hKx.out _ _ ⟨b3, b6⟩ ?_
            clear hKx Kx
            refine sxr [12] ?_
            refine rd1 (fun Kx hKx => ?_)
            replace o104 := (o104.past (bthru hbV9 hbV10))
            refine yck 112 (rbared a.g p104 _ c104 (((wid f.g : Nat) : Int) * a.e) (val B32 a.xs) d V10 o104.rd rfl (by omega) (by omega) hd2) ?_
            rintro eV11 V11 ⟨p112, c112, rfl, o112, hbV11⟩
            have hzV11 := hbV11.size
            have lo112 := fun h => o112.lt h
            refine ⟨_, rfl, ?_⟩
            replace b3 := (b3.past hbV11)
            replace b6 := (b6.past hbV11)
            refine hKx.out _ _ ⟨b3, b6⟩ ?_
            clear hKx Kx
            refine sxr [14] ?_
            refine rd1 (fun Kx hKx => ?_)
            replace b9 := (b9.past hbV11)
            refine ssk none b9 hT34 0 #[.bool d.neg, .slice p112 (dig B16 d.m).length c112, .int .i64 d.e] #[.bool d.neg, .slice p112 (dig B16 d.m).length c112, .int .i64 d.e] ?_
            have boV12 := b9
            clear b9
            intro V12 hOV12 b9
            have hzV12 := hOV12.size
            replace b3 := (b3.only hOV12 (by omega))
            replace b6 := (b6.only hOV12 (by omega))
            refine hKx.out _ _ ⟨b3, b6⟩ ?_
            clear hKx Kx
            refine sx_done (by kernel_rfl) ?_
            replace o104 := ((o104.past hbV11).only hOV12 (fun h => by have := lo104 h; omega))
            replace o112 := (o112.only hOV12 (fun h => by have := lo112 h; omega))
            exact ⟨rfl, V9.heap.size, p104, c104, p112, c112, by kernel_rfl, b9, (o104.mono (by omega)), (o112.mono (by omega)), ((bthru (bthru (bthru (bthru hbV7 hbV8) hbV9) hbV10) hbV11).trans (hOV12.below (by omega))), by omega⟩
          refine rd1 (fun Kx hKx => ?_)
          refine snk 9 #[.bool false, .slice none 0 0, .int .i64 0] 34 (fun V9 hbV9 hzV9 b9 => ?_)
          replace b3 := (b3.past hbV9)
          replace b6 := (b6.past hbV9)
          refine hKx.out _ _ ⟨b3, b6⟩ ?_
          clear hKx Kx
          refine sxr [7] ?_
          refine rd1 (fun Kx hKx => ?_)
          refine yck 107 (refWidth_any f.g V9) ?_
          rintro eV10 V10 ⟨rfl, hbV10⟩
          have hzV10 := hbV10.size
          refine ⟨_, rfl, ?_⟩
          replace b3 := (b3.past hbV10)
          replace b6 := (b6.past hbV10)
          refine hKx.out _ _ ⟨b3, b6⟩ ?_
          clear hKx Kx
          refine tk 10 110 (.int .i64 (((wid f.g : Nat) : Int) * a.e)) ⟨b3, b6⟩ ?_ (hy := fun w' _ => ((show _ = Result.ok (Next.value (.int .i64 (IntKind.wrap .i64 (((wid f.g : Nat) : Int) * a.e)))) _ by kernel_rfl).trans (congrArg (fun z => Result.ok (Next.value (.int .i64 z)) _) ((IntWalk.i64_in _ (by omega))))))
          refine yt 2 [11] rfl ⟨b3, b6⟩ ?_
          refine sxr [12] ?_
          refine rd1 (fun Kx hKx => ?_)
          replace o104 := (o104.past (bthru hbV9 hbV10))
          refine yck 112 (rbared a.g p104 _ c104 (((wid f.g : Nat) : Int) * a.e) (val B32 a.xs) d V10 o104.rd rfl (by omega) (by omega) hd2) ?_
          rintro eV11 V11 ⟨p112, c112, rfl, o112, hbV11⟩
          have hzV11 := hbV11.size
          have lo112 := fun h => o112.lt h
          refine ⟨_, rfl, ?_⟩
          replace b3 := (b3.past hbV11)
          replace b6 := (b6.past hbV11)
          refine hKx.out _ _ ⟨b3, b6⟩ ?_
          clear hKx Kx
          refine sxr [14] ?_
          refine rd1 (fun Kx hKx => ?_)
          replace b9 := (b9.past (bthru hbV10 hbV11))
          refine ssk none b9 hT34 0 #[.bool d.neg, .slice p112 (dig B16 d.m).length c112, .int .i64 d.e] #[.bool d.neg, .slice p112 (dig B16 d.m).length c112, .int .i64 d.e] ?_
          have boV12 := b9
          clear b9
          intro V12 hOV12 b9
          have hzV12 := hOV12.size
          replace b3 := (b3.only hOV12 (by omega))
          replace b6 := (b6.only hOV12 (by omega))
          refine hKx.out _ _ ⟨b3, b6⟩ ?_
          clear hKx Kx
          refine sx_done (by kernel_rfl) ?_
          replace o104 := ((o104.past hbV11).only hOV12 (fun h => by have := lo104 h; omega))
          replace o112 := (o112.only hOV12 (fun h => by have := lo112 h; omega))
          exact ⟨rfl, V8.heap.size, p104, c104, p112, c112, by kernel_rfl, b9, (o104.mono (by omega)), (o112.mono (by omega)), ((bthru (bthru (bthru (bthru hbV7 hbV8) hbV9) hbV10) hbV11).trans (hOV12.below (by omega))), by omega⟩
        refine rd1 (fun Kx hKx => ?_)
        refine snk 9 #[.bool false, .slice none 0 0, .int .i64 0] 34 (fun V8 hbV8 hzV8 b9 => ?_)
        replace b3 := (b3.past hbV8)
        replace b6 := (b6.past hbV8)
        refine hKx.out _ _ ⟨b3, b6⟩ ?_
        clear hKx Kx
        refine sxr [4] ?_
        refine rd1 (fun Kx hKx => ?_)
        replace rd := (rd.past (bthru (bthru hbV6 hbV7) hbV8))
        refine yck 104 (rof a.p _ a.c a.xs V8 rd rfl hlt (by omega)) ?_
        rintro eV9 V9 ⟨p104, c104, rfl, o104, hbV9⟩
        have hzV9 := hbV9.size
        have lo104 := fun h => o104.lt h
        refine ⟨_, rfl, ?_⟩
        replace b3 := (b3.past hbV9)
        replace b6 := (b6.past hbV9)
        refine hKx.out _ _ ⟨b3, b6⟩ ?_
        clear hKx Kx
        refine sxr [7] ?_
        refine rd1 (fun Kx hKx => ?_)
        refine yck 107 (refWidth_any f.g V9) ?_
        rintro eV10 V10 ⟨rfl, hbV10⟩
        have hzV10 := hbV10.size
        refine ⟨_, rfl, ?_⟩
        replace b3 := (b3.past hbV10)
        replace b6 := (b6.past hbV10)
        refine hKx.out _ _ ⟨b3, b6⟩ ?_
        clear hKx Kx
        refine tk 10 110 (.int .i64 (((wid f.g : Nat) : Int) * a.e)) ⟨b3, b6⟩ ?_ (hy := fun w' _ => ((show _ = Result.ok (Next.value (.int .i64 (IntKind.wrap .i64 (((wid f.g : Nat) : Int) * a.e)))) _ by kernel_rfl).trans (congrArg (fun z => Result.ok (Next.value (.int .i64 z)) _) ((IntWalk.i64_in _ (by omega))))))
        refine yt 2 [11] rfl ⟨b3, b6⟩ ?_
        refine sxr [12] ?_
        refine rd1 (fun Kx hKx => ?_)
        replace o104 := (o104.past hbV10)
        refine yck 112 (rbared a.g p104 _ c104 (((wid f.g : Nat) : Int) * a.e) (val B32 a.xs) d V10 o104.rd rfl (by omega) (by omega) hd2) ?_
        rintro eV11 V11 ⟨p112, c112, rfl, o112, hbV11⟩
        have hzV11 := hbV11.size
        have lo112 := fun h => o112.lt h
        refine ⟨_, rfl, ?_⟩
        replace b3 := (b3.past hbV11)
        replace b6 := (b6.past hbV11)
        refine hKx.out _ _ ⟨b3, b6⟩ ?_
        clear hKx Kx
        refine sxr [14] ?_
        refine rd1 (fun Kx hKx => ?_)
        replace b9 := (b9.past (bthru (bthru hbV9 hbV10) hbV11))
        refine ssk none b9 hT34 0 #[.bool d.neg, .slice p112 (dig B16 d.m).length c112, .int .i64 d.e] #[.bool d.neg, .slice p112 (dig B16 d.m).length c112, .int .i64 d.e] ?_
        have boV12 := b9
        clear b9
        intro V12 hOV12 b9
        have hzV12 := hOV12.size
        replace b3 := (b3.only hOV12 (by omega))
        replace b6 := (b6.only hOV12 (by omega))
        refine hKx.out _ _ ⟨b3, b6⟩ ?_
        clear hKx Kx
        refine sx_done (by kernel_rfl) ?_
        replace o104 := ((o104.past hbV11).only hOV12 (fun h => by have := lo104 h; omega))
        replace o112 := (o112.only hOV12 (fun h => by have := lo112 h; omega))
        exact ⟨rfl, V7.heap.size, p104, c104, p112, c112, by kernel_rfl, b9, (o104.mono (by omega)), (o112.mono (by omega)), ((bthru (bthru (bthru (bthru hbV7 hbV8) hbV9) hbV10) hbV11).trans (hOV12.below (by omega))), by omega⟩
      rintro _ V7 ⟨kb9, p104, c104, p112, c112, rfl, b9, o104, o112, hbV7, hkb9⟩
      refine hGx _ _ ?_
      clear hGx Gx
      have hzV7 := hbV7.size
      have hlb9 := b9.lt
      have lo104 := fun h => o104.lt h
      have lo112 := fun h => o112.lt h
      refine sx_then ?_
      refine wp_seq ?_
      by_cases h116 : a.xs.length = 0
      · skip
        by_cases h121 : inGridD d f.g = true
        · skip
          refine ye ?_
          replace b3 := (b3.past hbV7)
          refine yl 1 rfl 114 b3 hT23 2 ?_
          refine yb 1 rfl 116 (((a.xs.length : Nat) : Int) == 0) (true) (beq_iff_eq.2 (by omega)) ?_
          refine yzt 7 ?_
          refine yT ?_
          have hE : errEnc f cls a = 4 := by unfold errEnc; rw [if_neg c1, if_neg (by omega), if_neg c3, if_pos c6, if_neg (by omega), if_pos (by first | exact .inl h116 | exact .inr (by rw [hd]; simpa using h121))]
          have hN : (4 : Int) ≠ 0 := by decide
          refine ye ?_
          replace b4 := (b4.past (bthru (bthru ((bthru hbV3 hbV4).trans (hOV5.below (by omega))) hbV6) hbV7))
          have boV8 := b4
          refine ysw 1 rfl b4 hT61 #[.int .i64 0, .bool false, .bool false, .slice none 0 0, .int .i64 0] ?_
          clear b4
          intro V8 hOV8 b4
          have hzV8 := hOV8.size
          refine yzt 1 ?_
          refine wp_ret ?_
          repeat (first | with_reducible refine sx_thenret ?_ | with_reducible refine sx_blockret ?_)
          refine yret (.tuple #[.agg #[.int .i64 0, .bool false, .bool false, .slice none 0 0, .int .i64 0], .int .i64 4]) (res2 Tryd.results30 (rvr b4 hT61) rvt) ?_
          exact givesEb_zero (k := 0) (n := false) (by rw [hE, if_neg hN]; rfl) rfl hE rfl ((bthru (bthru ((bthru (bthru (bthru hbV1 hbV2) hbV3) hbV4).trans (hOV5.below (by omega))) hbV6) hbV7).trans (hOV8.below (by omega)))
        refine ye ?_
        replace b3 := (b3.past hbV7)
        refine yl 1 rfl 114 b3 hT23 2 ?_
        refine yb 1 rfl 116 (((a.xs.length : Nat) : Int) == 0) (true) (beq_iff_eq.2 (by omega)) ?_
        refine yzt 7 ?_
        refine yT ?_
        have hE : errEnc f cls a = 4 := by unfold errEnc; rw [if_neg c1, if_neg (by omega), if_neg c3, if_pos c6, if_neg (by omega), if_pos (by first | exact .inl h116 | exact .inr (by rw [hd]; simpa using h121))]
        have hN : (4 : Int) ≠ 0 := by decide
        refine ye ?_
        replace b4 := (b4.past (bthru (bthru ((bthru hbV3 hbV4).trans (hOV5.below (by omega))) hbV6) hbV7))
        have boV8 := b4
        refine ysw 1 rfl b4 hT61 #[.int .i64 0, .bool false, .bool false, .slice none 0 0, .int .i64 0] ?_
        clear b4
        intro V8 hOV8 b4
        have hzV8 := hOV8.size
        refine yzt 1 ?_
        refine wp_ret ?_
        repeat (first | with_reducible refine sx_thenret ?_ | with_reducible refine sx_blockret ?_)
        refine yret (.tuple #[.agg #[.int .i64 0, .bool false, .bool false, .slice none 0 0, .int .i64 0], .int .i64 4]) (res2 Tryd.results30 (rvr b4 hT61) rvt) ?_
        exact givesEb_zero (k := 0) (n := false) (by rw [hE, if_neg hN]; rfl) rfl hE rfl ((bthru (bthru ((bthru (bthru (bthru hbV1 hbV2) hbV3) hbV4).trans (hOV5.below (by omega))) hbV6) hbV7).trans (hOV8.below (by omega)))
      by_cases h121 : inGridD d f.g = true
      · skip
        refine ye ?_
        replace b3 := (b3.past hbV7)
        refine yl 1 rfl 114 b3 hT23 2 ?_
        refine yb 1 rfl 116 (((a.xs.length : Nat) : Int) == 0) (false) (beq_eq_false_iff_ne.2 (by omega)) ?_
        refine yla 1 rfl 118 b9 hT34 0 ?_
        replace b6 := (b6.past hbV7)
        refine yla 1 rfl 120 b6 hT29 3 ?_
        refine yc 0 rfl 121 (refInGrid_any d.neg p112 _ c112 d.e d.m f.g V7 o112.rd rfl (by omega) (by omega) (goodG_of G.g)) (fun Gx hGx => ?_)
        rintro eV8 V8 ⟨rfl, hbV8⟩
        have hzV8 := hbV8.size
        rw [show (inGridD ⟨d.neg, d.m, d.e⟩ f.g) = true from h121]
        refine ⟨_, rfl, hGx _ _ ?_⟩
        clear hGx Gx
        refine yzt 2 ?_
        refine yF ?_
        refine wp_skip ?_
        refine sx_then ?_
        refine ye ?_
        replace b3 := (b3.past hbV8)
        refine yl 1 rfl 126 b3 hT3 0 ?_
        refine yl 1 rfl 128 b3 hT4 1 ?_
        replace b9 := (b9.past hbV8)
        refine yla 0 rfl 129 b9 hT34 0 ?_
        replace b4 := (b4.past (bthru (bthru (bthru ((bthru hbV3 hbV4).trans (hOV5.below (by omega))) hbV6) hbV7) hbV8))
        have boV9 := b4
        refine ysw 1 rfl b4 hT61 #[.int .i64 cls, .bool a.g, .bool d.neg, .slice p112 (dig B16 d.m).length c112, .int .i64 d.e] ?_
        clear b4
        intro V9 hOV9 b4
        have hzV9 := hOV9.size
        refine yzt 1 ?_
        refine wp_ret ?_
        repeat (first | with_reducible refine sx_thenret ?_ | with_reducible refine sx_blockret ?_)
        refine yret (.tuple #[.agg #[.int .i64 cls, .bool a.g, .bool d.neg, .slice p112 (dig B16 d.m).length c112, .int .i64 d.e], .int .i64 0]) (res2 Tryd.results30 (rvr b4 hT61) rvt) ?_
        have hE : errEnc f cls a = 0 := by unfold errEnc; rw [if_neg c1, if_neg (by omega), if_neg c3, if_pos c6, if_neg (by omega), if_neg (fun h => by rcases h with h | h <;> first | exact h116 h | (rw [hd, h121] at h; cases h; done))]
        subst c6
        replace o112 := ((o112.past hbV8).only hOV9 (fun h => by have := lo112 h; omega))
        exact givesEb_of (u := ⟨2, a.g, d⟩) (by rw [if_pos hE]; exact hvd rfl) hE rfl o112 (by omega) ((bthru (bthru (bthru ((bthru (bthru (bthru hbV1 hbV2) hbV3) hbV4).trans (hOV5.below (by omega))) hbV6) hbV7) hbV8).trans (hOV9.below (by omega)))
      refine ye ?_
      replace b3 := (b3.past hbV7)
      refine yl 1 rfl 114 b3 hT23 2 ?_
      refine yb 1 rfl 116 (((a.xs.length : Nat) : Int) == 0) (false) (beq_eq_false_iff_ne.2 (by omega)) ?_
      refine yla 1 rfl 118 b9 hT34 0 ?_
      replace b6 := (b6.past hbV7)
      refine yla 1 rfl 120 b6 hT29 3 ?_
      refine yc 0 rfl 121 (refInGrid_any d.neg p112 _ c112 d.e d.m f.g V7 o112.rd rfl (by omega) (by omega) (goodG_of G.g)) (fun Gx hGx => ?_)
      rintro eV8 V8 ⟨rfl, hbV8⟩
      have hzV8 := hbV8.size
      rw [show (inGridD ⟨d.neg, d.m, d.e⟩ f.g) = false from (by simpa using h121)]
      refine ⟨_, rfl, hGx _ _ ?_⟩
      clear hGx Gx
      refine yzt 2 ?_
      refine yT ?_
      have hE : errEnc f cls a = 4 := by unfold errEnc; rw [if_neg c1, if_neg (by omega), if_neg c3, if_pos c6, if_neg (by omega), if_pos (by first | exact .inl h116 | exact .inr (by rw [hd]; simpa using h121))]
      have hN : (4 : Int) ≠ 0 := by decide
      refine ye ?_
      replace b4 := (b4.past (bthru (bthru (bthru ((bthru hbV3 hbV4).trans (hOV5.below (by omega))) hbV6) hbV7) hbV8))
      have boV9 := b4
      refine ysw 1 rfl b4 hT61 #[.int .i64 0, .bool false, .bool false, .slice none 0 0, .int .i64 0] ?_
      clear b4
      intro V9 hOV9 b4
      have hzV9 := hOV9.size
      refine yzt 1 ?_
      refine wp_ret ?_
      repeat (first | with_reducible refine sx_thenret ?_ | with_reducible refine sx_blockret ?_)
      refine yret (.tuple #[.agg #[.int .i64 0, .bool false, .bool false, .slice none 0 0, .int .i64 0], .int .i64 4]) (res2 Tryd.results30 (rvr b4 hT61) rvt) ?_
      exact givesEb_zero (k := 0) (n := false) (by rw [hE, if_neg hN]; rfl) rfl hE rfl ((bthru (bthru (bthru ((bthru (bthru (bthru hbV1 hbV2) hbV3) hbV4).trans (hOV5.below (by omega))) hbV6) hbV7) hbV8).trans (hOV9.below (by omega)))
    refine yb 0 rfl 51 (((f.fam : Nat) : Int) != 3) (false) (f51) ?_
    refine yzt 6 ?_
    refine yF ?_
    refine wp_skip ?_
    refine sx_then ?_
    refine wp_seq ?_
    have c3 : ¬ (((cls = 3 ∨ cls = 4) ∧ f.inf = false) ∨ (cls = 5 ∧ f.res = false)) := by (try have q37 := bne_iff_ne.1 f37); (try have q37 := bne_eq_false_iff_eq.1 f37); (try have q41 := beq_iff_eq.1 f41); (try have q41 := beq_eq_false_iff_ne.1 f41); (try have q45 := beq_iff_eq.1 f45); (try have q45 := beq_eq_false_iff_ne.1 f45); (try have q51 := bne_iff_ne.1 f51); (try have q51 := bne_eq_false_iff_eq.1 f51); (try have q55 := beq_iff_eq.1 f55); (try have q55 := beq_eq_false_iff_ne.1 f55); rw [hinf, hres]; omega
    refine ye ?_
    replace b3 := (b3.past hbV6)
    refine yl 1 rfl 60 b3 hT3 0 ?_
    rcases Bool.eq_false_or_eq_true (cls != 2) with f61 | f61
    · skip
      refine yb 0 rfl 61 (cls != 2) (true) (f61) ?_
      refine yzt 0 ?_
      refine yT ?_
      refine wp_seq ?_
      have c6 : cls ≠ 2 := bne_iff_ne.1 f61
      refine ye ?_
      refine yl 1 rfl 63 b3 hT23 2 ?_
      rcases Bool.eq_false_or_eq_true (decide (((a.xs.length : Nat) : Int) > 0)) with f65 | f65
      · skip
        refine yb 1 rfl 65 (decide (((a.xs.length : Nat) : Int) > 0)) (true) (f65) ?_
        refine yzt 19 ?_
        refine yT ?_
        have hE : errEnc f cls a = 4 := by unfold errEnc; rw [if_neg c1, if_neg (by omega), if_neg c3, if_neg c6, if_pos (by first | (have := of_decide_eq_true f65; omega) | exact .inr (.inl (bne_iff_ne.1 f69)) | exact .inr (.inr ⟨f73, .inl (of_decide_eq_true f77)⟩) | exact .inr (.inr ⟨f73, .inr (by cases hr : f.res with | true => rfl | false => exact absurd (by have := beq_iff_eq.1 f81; omega) (hres.1 hr))⟩))]
        have hN : (4 : Int) ≠ 0 := by decide
        refine ye ?_
        replace b4 := (b4.past (bthru ((bthru hbV3 hbV4).trans (hOV5.below (by omega))) hbV6))
        have boV7 := b4
        refine ysw 1 rfl b4 hT61 #[.int .i64 0, .bool false, .bool false, .slice none 0 0, .int .i64 0] ?_
        clear b4
        intro V7 hOV7 b4
        have hzV7 := hOV7.size
        refine yzt 1 ?_
        refine wp_ret ?_
        repeat (first | with_reducible refine sx_thenret ?_ | with_reducible refine sx_blockret ?_)
        refine yret (.tuple #[.agg #[.int .i64 0, .bool false, .bool false, .slice none 0 0, .int .i64 0], .int .i64 4]) (res2 Tryd.results30 (rvr b4 hT61) rvt) ?_
        exact givesEb_zero (k := 0) (n := false) (by rw [hE, if_neg hN]; rfl) rfl hE rfl ((bthru ((bthru (bthru (bthru hbV1 hbV2) hbV3) hbV4).trans (hOV5.below (by omega))) hbV6).trans (hOV7.below (by omega)))
      refine yb 1 rfl 65 (decide (((a.xs.length : Nat) : Int) > 0)) (false) (f65) ?_
      refine yl 2 rfl 68 b3 hT3 3 ?_
      rcases Bool.eq_false_or_eq_true (a.e != 0) with f69 | f69
      · skip
        refine yb 0 rfl 69 (a.e != 0) (true) (f69) ?_
        refine yzt 15 ?_
        refine yT ?_
        have hE : errEnc f cls a = 4 := by unfold errEnc; rw [if_neg c1, if_neg (by omega), if_neg c3, if_neg c6, if_pos (by first | (have := of_decide_eq_true f65; omega) | exact .inr (.inl (bne_iff_ne.1 f69)) | exact .inr (.inr ⟨f73, .inl (of_decide_eq_true f77)⟩) | exact .inr (.inr ⟨f73, .inr (by cases hr : f.res with | true => rfl | false => exact absurd (by have := beq_iff_eq.1 f81; omega) (hres.1 hr))⟩))]
        have hN : (4 : Int) ≠ 0 := by decide
        refine ye ?_
        replace b4 := (b4.past (bthru ((bthru hbV3 hbV4).trans (hOV5.below (by omega))) hbV6))
        have boV7 := b4
        refine ysw 1 rfl b4 hT61 #[.int .i64 0, .bool false, .bool false, .slice none 0 0, .int .i64 0] ?_
        clear b4
        intro V7 hOV7 b4
        have hzV7 := hOV7.size
        refine yzt 1 ?_
        refine wp_ret ?_
        repeat (first | with_reducible refine sx_thenret ?_ | with_reducible refine sx_blockret ?_)
        refine yret (.tuple #[.agg #[.int .i64 0, .bool false, .bool false, .slice none 0 0, .int .i64 0], .int .i64 4]) (res2 Tryd.results30 (rvr b4 hT61) rvt) ?_
        exact givesEb_zero (k := 0) (n := false) (by rw [hE, if_neg hN]; rfl) rfl hE rfl ((bthru ((bthru (bthru (bthru hbV1 hbV2) hbV3) hbV4).trans (hOV5.below (by omega))) hbV6).trans (hOV7.below (by omega)))
      refine yb 0 rfl 69 (a.e != 0) (false) (f69) ?_
      rcases Bool.eq_false_or_eq_true (a.g) with f73 | f73
      · skip
        refine ylb 3 rfl 73 b3 hT4 1 (a.g) true (f73) ?_
        refine yl 2 rfl 76 b3 hT3 0 ?_
        rcases Bool.eq_false_or_eq_true (decide (cls ≥ 4)) with f77 | f77
        · skip
          refine yb 0 rfl 77 (decide (cls ≥ 4)) (true) (f77) ?_
          refine yzt 7 ?_
          refine yT ?_
          have hE : errEnc f cls a = 4 := by unfold errEnc; rw [if_neg c1, if_neg (by omega), if_neg c3, if_neg c6, if_pos (by first | (have := of_decide_eq_true f65; omega) | exact .inr (.inl (bne_iff_ne.1 f69)) | exact .inr (.inr ⟨f73, .inl (of_decide_eq_true f77)⟩) | exact .inr (.inr ⟨f73, .inr (by cases hr : f.res with | true => rfl | false => exact absurd (by have := beq_iff_eq.1 f81; omega) (hres.1 hr))⟩))]
          have hN : (4 : Int) ≠ 0 := by decide
          refine ye ?_
          replace b4 := (b4.past (bthru ((bthru hbV3 hbV4).trans (hOV5.below (by omega))) hbV6))
          have boV7 := b4
          refine ysw 1 rfl b4 hT61 #[.int .i64 0, .bool false, .bool false, .slice none 0 0, .int .i64 0] ?_
          clear b4
          intro V7 hOV7 b4
          have hzV7 := hOV7.size
          refine yzt 1 ?_
          refine wp_ret ?_
          repeat (first | with_reducible refine sx_thenret ?_ | with_reducible refine sx_blockret ?_)
          refine yret (.tuple #[.agg #[.int .i64 0, .bool false, .bool false, .slice none 0 0, .int .i64 0], .int .i64 4]) (res2 Tryd.results30 (rvr b4 hT61) rvt) ?_
          exact givesEb_zero (k := 0) (n := false) (by rw [hE, if_neg hN]; rfl) rfl hE rfl ((bthru ((bthru (bthru (bthru hbV1 hbV2) hbV3) hbV4).trans (hOV5.below (by omega))) hbV6).trans (hOV7.below (by omega)))
        refine yb 0 rfl 77 (decide (cls ≥ 4)) (false) (f77) ?_
        refine yl 2 rfl 80 b6 hT3 8 ?_
        rcases Bool.eq_false_or_eq_true (((f.fam : Nat) : Int) == 3) with f81 | f81
        · skip
          refine yb 0 rfl 81 (((f.fam : Nat) : Int) == 3) (true) (f81) ?_
          refine yzt 3 ?_
          refine yT ?_
          have hE : errEnc f cls a = 4 := by unfold errEnc; rw [if_neg c1, if_neg (by omega), if_neg c3, if_neg c6, if_pos (by first | (have := of_decide_eq_true f65; omega) | exact .inr (.inl (bne_iff_ne.1 f69)) | exact .inr (.inr ⟨f73, .inl (of_decide_eq_true f77)⟩) | exact .inr (.inr ⟨f73, .inr (by cases hr : f.res with | true => rfl | false => exact absurd (by have := beq_iff_eq.1 f81; omega) (hres.1 hr))⟩))]
          have hN : (4 : Int) ≠ 0 := by decide
          refine ye ?_
          replace b4 := (b4.past (bthru ((bthru hbV3 hbV4).trans (hOV5.below (by omega))) hbV6))
          have boV7 := b4
          refine ysw 1 rfl b4 hT61 #[.int .i64 0, .bool false, .bool false, .slice none 0 0, .int .i64 0] ?_
          clear b4
          intro V7 hOV7 b4
          have hzV7 := hOV7.size
          refine yzt 1 ?_
          refine wp_ret ?_
          repeat (first | with_reducible refine sx_thenret ?_ | with_reducible refine sx_blockret ?_)
          refine yret (.tuple #[.agg #[.int .i64 0, .bool false, .bool false, .slice none 0 0, .int .i64 0], .int .i64 4]) (res2 Tryd.results30 (rvr b4 hT61) rvt) ?_
          exact givesEb_zero (k := 0) (n := false) (by rw [hE, if_neg hN]; rfl) rfl hE rfl ((bthru ((bthru (bthru (bthru hbV1 hbV2) hbV3) hbV4).trans (hOV5.below (by omega))) hbV6).trans (hOV7.below (by omega)))
        refine yb 0 rfl 81 (((f.fam : Nat) : Int) == 3) (false) (f81) ?_
        refine yzt 3 ?_
        refine yF ?_
        refine wp_skip ?_
        refine sx_then ?_
        have hE : errEnc f cls a = 0 := by unfold errEnc; rw [if_neg c1, if_neg (by omega), if_neg c3, if_neg c6, if_neg (fun h => by rcases h with h | h | ⟨h, k⟩ <;> first | (have := of_decide_eq_false f65; omega) | (have := bne_eq_false_iff_eq.1 f69; omega) | (rw [f73] at h; cases h; done) | (rcases k with k | k <;> first | (have := of_decide_eq_false f77; omega) | (rw [hres.2 (by have := beq_eq_false_iff_ne.1 f81; omega)] at k; cases k; done)))]
        refine ye ?_
        refine yl 1 rfl 87 b3 hT3 0 ?_
        refine yl 1 rfl 89 b3 hT4 1 ?_
        replace b4 := (b4.past (bthru ((bthru hbV3 hbV4).trans (hOV5.below (by omega))) hbV6))
        have boV7 := b4
        refine ysw 1 rfl b4 hT61 #[.int .i64 cls, .bool a.g, .bool false, .slice none 0 0, .int .i64 0] ?_
        clear b4
        intro V7 hOV7 b4
        have hzV7 := hOV7.size
        refine yzt 1 ?_
        refine wp_ret ?_
        repeat (first | with_reducible refine sx_thenret ?_ | with_reducible refine sx_blockret ?_)
        refine yret (.tuple #[.agg #[.int .i64 cls, .bool a.g, .bool false, .slice none 0 0, .int .i64 0], .int .i64 0]) (res2 Tryd.results30 (rvr b4 hT61) rvt) ?_
        exact givesEb_zero (by rw [if_pos hE]; exact hvz c6) (by omega) hE rfl ((bthru ((bthru (bthru (bthru hbV1 hbV2) hbV3) hbV4).trans (hOV5.below (by omega))) hbV6).trans (hOV7.below (by omega)))
      refine ylb 3 rfl 73 b3 hT4 1 (a.g) false (f73) ?_
      refine yzt 11 ?_
      refine yF ?_
      refine wp_skip ?_
      refine sx_then ?_
      have hE : errEnc f cls a = 0 := by unfold errEnc; rw [if_neg c1, if_neg (by omega), if_neg c3, if_neg c6, if_neg (fun h => by rcases h with h | h | ⟨h, k⟩ <;> first | (have := of_decide_eq_false f65; omega) | (have := bne_eq_false_iff_eq.1 f69; omega) | (rw [f73] at h; cases h; done) | (rcases k with k | k <;> first | (have := of_decide_eq_false f77; omega) | (rw [hres.2 (by have := beq_eq_false_iff_ne.1 f81; omega)] at k; cases k; done)))]
      refine ye ?_
      refine yl 1 rfl 87 b3 hT3 0 ?_
      refine yl 1 rfl 89 b3 hT4 1 ?_
      replace b4 := (b4.past (bthru ((bthru hbV3 hbV4).trans (hOV5.below (by omega))) hbV6))
      have boV7 := b4
      refine ysw 1 rfl b4 hT61 #[.int .i64 cls, .bool a.g, .bool false, .slice none 0 0, .int .i64 0] ?_
      clear b4
      intro V7 hOV7 b4
      have hzV7 := hOV7.size
      refine yzt 1 ?_
      refine wp_ret ?_
      repeat (first | with_reducible refine sx_thenret ?_ | with_reducible refine sx_blockret ?_)
      refine yret (.tuple #[.agg #[.int .i64 cls, .bool a.g, .bool false, .slice none 0 0, .int .i64 0], .int .i64 0]) (res2 Tryd.results30 (rvr b4 hT61) rvt) ?_
      exact givesEb_zero (by rw [if_pos hE]; exact hvz c6) (by omega) hE rfl ((bthru ((bthru (bthru (bthru hbV1 hbV2) hbV3) hbV4).trans (hOV5.below (by omega))) hbV6).trans (hOV7.below (by omega)))
    refine yb 0 rfl 61 (cls != 2) (false) (f61) ?_
    refine yzt 0 ?_
    refine yF ?_
    refine wp_skip ?_
    refine sx_then ?_
    refine wp_seq ?_
    have c6 : cls = 2 := by simpa using f61
    refine ye ?_
    refine yl 1 rfl 92 b3 hT3 3 ?_
    rcases Bool.eq_false_or_eq_true (decide (a.e < (-20000))) with f93 | f93
    · skip
      refine yb 0 rfl 93 (decide (a.e < (-20000))) (true) (f93) ?_
      refine yzt 5 ?_
      refine yT ?_
      have hE : errEnc f cls a = 3 := by unfold errEnc; rw [if_neg c1, if_neg (by omega), if_neg c3, if_pos c6, if_pos (by first | (have := of_decide_eq_true f93; omega) | (have := of_decide_eq_true f97; omega))]
      have hN : (3 : Int) ≠ 0 := by decide
      refine ye ?_
      replace b4 := (b4.past (bthru ((bthru hbV3 hbV4).trans (hOV5.below (by omega))) hbV6))
      have boV7 := b4
      refine ysw 1 rfl b4 hT61 #[.int .i64 0, .bool false, .bool false, .slice none 0 0, .int .i64 0] ?_
      clear b4
      intro V7 hOV7 b4
      have hzV7 := hOV7.size
      refine yzt 1 ?_
      refine wp_ret ?_
      repeat (first | with_reducible refine sx_thenret ?_ | with_reducible refine sx_blockret ?_)
      refine yret (.tuple #[.agg #[.int .i64 0, .bool false, .bool false, .slice none 0 0, .int .i64 0], .int .i64 3]) (res2 Tryd.results30 (rvr b4 hT61) rvt) ?_
      exact givesEb_zero (k := 0) (n := false) (by rw [hE, if_neg hN]; rfl) rfl hE rfl ((bthru ((bthru (bthru (bthru hbV1 hbV2) hbV3) hbV4).trans (hOV5.below (by omega))) hbV6).trans (hOV7.below (by omega)))
    refine yb 0 rfl 93 (decide (a.e < (-20000))) (false) (f93) ?_
    refine yl 2 rfl 96 b3 hT3 3 ?_
    rcases Bool.eq_false_or_eq_true (decide (a.e > 20000)) with f97 | f97
    · skip
      refine yb 0 rfl 97 (decide (a.e > 20000)) (true) (f97) ?_
      refine yzt 1 ?_
      refine yT ?_
      have hE : errEnc f cls a = 3 := by unfold errEnc; rw [if_neg c1, if_neg (by omega), if_neg c3, if_pos c6, if_pos (by first | (have := of_decide_eq_true f93; omega) | (have := of_decide_eq_true f97; omega))]
      have hN : (3 : Int) ≠ 0 := by decide
      refine ye ?_
      replace b4 := (b4.past (bthru ((bthru hbV3 hbV4).trans (hOV5.below (by omega))) hbV6))
      have boV7 := b4
      refine ysw 1 rfl b4 hT61 #[.int .i64 0, .bool false, .bool false, .slice none 0 0, .int .i64 0] ?_
      clear b4
      intro V7 hOV7 b4
      have hzV7 := hOV7.size
      refine yzt 1 ?_
      refine wp_ret ?_
      repeat (first | with_reducible refine sx_thenret ?_ | with_reducible refine sx_blockret ?_)
      refine yret (.tuple #[.agg #[.int .i64 0, .bool false, .bool false, .slice none 0 0, .int .i64 0], .int .i64 3]) (res2 Tryd.results30 (rvr b4 hT61) rvt) ?_
      exact givesEb_zero (k := 0) (n := false) (by rw [hE, if_neg hN]; rfl) rfl hE rfl ((bthru ((bthru (bthru (bthru hbV1 hbV2) hbV3) hbV4).trans (hOV5.below (by omega))) hbV6).trans (hOV7.below (by omega)))
    refine yb 0 rfl 97 (decide (a.e > 20000)) (false) (f97) ?_
    refine yzt 1 ?_
    refine yF ?_
    refine wp_skip ?_
    refine sx_then ?_
    refine wp_seq ?_
    have c4 : -20000 ≤ a.e ∧ a.e ≤ 20000 := by have := of_decide_eq_false f93; have := of_decide_eq_false f97; omega
    have hb1 := hbd c2 c4
    have hb2 := hmu c4
    have hb3 := hx1 c2
    refine sx_cutg (R := fun a' w' => ∃ (kb9 : Nat) (p104 : Option Addr) (c104 : Nat) (p112 : Option Addr) (c112 : Nat), a' = ⟨((.int .i64 n) :: (.agg #[.int .i64 cls, .bool a.g, .slice a.p a.xs.length a.c, .int .i64 a.e]) :: undef :: (.pointer (some ⟨w.heap.size, 0, none⟩)) :: (.pointer (some ⟨V1.heap.size, 0, none⟩)) :: (.int .i64 0) :: (.pointer (some ⟨V3.heap.size, 0, none⟩)) :: (.bool true) :: (.int .i64 (errNat a.xs)) :: (.pointer (some ⟨kb9, 0, none⟩)) :: (.tuple #[.agg #[.int .i64 ((f.size : Nat) : Int), .int .i64 ((f.E : Nat) : Int), .int .i64 ((f.F : Nat) : Int), .int .i64 f.g.rad, .int .i64 f.g.digs, .int .i64 f.g.lo, .int .i64 f.g.hi, .bool f.g.grad, .int .i64 ((f.fam : Nat) : Int)], .bool true]) :: (.int .i64 n) :: (.tuple #[.agg #[.int .i64 ((f.size : Nat) : Int), .int .i64 ((f.E : Nat) : Int), .int .i64 ((f.F : Nat) : Int), .int .i64 f.g.rad, .int .i64 f.g.digs, .int .i64 f.g.lo, .int .i64 f.g.hi, .bool f.g.grad, .int .i64 ((f.fam : Nat) : Int)], .bool true]) :: (.agg #[.int .i64 ((f.size : Nat) : Int), .int .i64 ((f.E : Nat) : Int), .int .i64 ((f.F : Nat) : Int), .int .i64 f.g.rad, .int .i64 f.g.digs, .int .i64 f.g.lo, .int .i64 f.g.hi, .bool f.g.grad, .int .i64 ((f.fam : Nat) : Int)]) :: (.bool true) :: (.bool true) :: (.bool false) :: (.bool false) :: (.pointer (some ⟨w.heap.size, 0, none⟩)) :: (.int .i64 cls) :: (.bool false) :: (.bool false) :: (.bool false) :: (.pointer (some ⟨w.heap.size, 0, none⟩)) :: (.int .i64 cls) :: (.bool false) :: (.bool false) :: undef :: (.pointer (some ⟨w.heap.size, 2, none⟩)) :: (.slice a.p a.xs.length a.c) :: (.int .i64 (errNat a.xs)) :: (.int .i64 (errNat a.xs)) :: (.bool false) :: us 2 ((.pointer (some ⟨V3.heap.size, 8, none⟩)) :: (.int .i64 ((f.fam : Nat) : Int)) :: (.bool false) :: (.bool false) :: us 8 ((.bool false) :: (.bool false) :: (.pointer (some ⟨V3.heap.size, 8, none⟩)) :: (.int .i64 ((f.fam : Nat) : Int)) :: (.bool false) :: (.bool false) :: us 3 ((.bool false) :: (.bool false) :: undef :: (.pointer (some ⟨w.heap.size, 0, none⟩)) :: (.int .i64 cls) :: (.bool false) :: us 29 ((.pointer (some ⟨w.heap.size, 3, none⟩)) :: (.int .i64 a.e) :: (.bool false) :: (.bool false) :: (.pointer (some ⟨w.heap.size, 3, none⟩)) :: (.int .i64 a.e) :: (.bool false) :: (.bool false) :: undef :: (.pointer (some ⟨w.heap.size, 1, none⟩)) :: (.bool a.g) :: (.pointer (some ⟨w.heap.size, 2, none⟩)) :: (.slice a.p a.xs.length a.c) :: (.slice p104 (dig B16 (val B32 a.xs)).length c104) :: (.pointer (some ⟨V3.heap.size, 3, none⟩)) :: (.agg #[.int .i64 f.g.rad, .int .i64 f.g.digs, .int .i64 f.g.lo, .int .i64 f.g.hi, .bool f.g.grad]) :: (.int .i64 ((wid f.g : Nat) : Int)) :: (.pointer (some ⟨w.heap.size, 3, none⟩)) :: (.int .i64 a.e) :: (.int .i64 (((wid f.g : Nat) : Int) * a.e)) :: (.agg #[.bool a.g, .slice p104 (dig B16 (val B32 a.xs)).length c104, .int .i64 (((wid f.g : Nat) : Int) * a.e)]) :: (.agg #[.bool d.neg, .slice p112 (dig B16 d.m).length c112, .int .i64 d.e]) :: us 18 []))))).toArray, []⟩ ∧ Bt w' kb9 34 #[.bool d.neg, .slice p112 (dig B16 d.m).length c112, .int .i64 d.e] ∧ Rf w' V6.heap.size p104 c104 (dig B16 (val B32 a.xs)) ∧ Rf w' V6.heap.size p112 c112 (dig B16 d.m) ∧ Below V6.heap.size V6 w' ∧ V6.heap.size ≤ kb9) ?_ (fun Gx hGx => ?_)
    · skip
      obtain ⟨V7, hVV7, hbV7, hzV7⟩ := drew_of V6
      replace b3 := (b3.past hbV7)
      replace b6 := (b6.past hbV7)
      refine yd2 hVV7 ⟨b3, b6⟩ ?_
      clear hVV7
      refine yt 14 [0] rfl ⟨b3, b6⟩ ?_
      refine ytl 1 rfl 101 (fun _ h => h.1) hT4 1 ⟨b3, b6⟩ ?_
      refine yt 12 [2] rfl ⟨b3, b6⟩ ?_
      refine ytl 3 rfl 103 (fun _ h => h.1) hT23 2 ⟨b3, b6⟩ ?_
      refine yt 10 [5] rfl ⟨b3, b6⟩ ?_
      refine ytla 6 rfl 106 (fun _ h => h.2) hT29 3 ⟨b3, b6⟩ ?_
      refine yt 8 [8] rfl ⟨b3, b6⟩ ?_
      refine ytl 9 rfl 109 (fun _ h => h.1) hT3 3 ⟨b3, b6⟩ ?_
      refine sxr [4, 13] ?_
      refine rd2 (fun Kx hKx => ?_) ?_
      · skip
        replace rd := (rd.past (bthru hbV6 hbV7))
        refine yck 104 (rof a.p _ a.c a.xs V7 rd rfl hlt (by omega)) ?_
        rintro eV8 V8 ⟨p104, c104, rfl, o104, hbV8⟩
        have hzV8 := hbV8.size
        have lo104 := fun h => o104.lt h
        refine ⟨_, rfl, ?_⟩
        replace b3 := (b3.past hbV8)
        replace b6 := (b6.past hbV8)
        refine hKx.out _ _ ⟨b3, b6⟩ ?_
        clear hKx Kx
        refine sxr [7, 13] ?_
        refine rd2 (fun Kx hKx => ?_) ?_
        · skip
          refine yck 107 (refWidth_any f.g V8) ?_
          rintro eV9 V9 ⟨rfl, hbV9⟩
          have hzV9 := hbV9.size
          refine ⟨_, rfl, ?_⟩
          replace b3 := (b3.past hbV9)
          replace b6 := (b6.past hbV9)
          refine hKx.out _ _ ⟨b3, b6⟩ ?_
          clear hKx Kx
          refine tk 10 110 (.int .i64 (((wid f.g : Nat) : Int) * a.e)) ⟨b3, b6⟩ ?_ (hy := fun w' _ => ((show _ = Result.ok (Next.value (.int .i64 (IntKind.wrap .i64 (((wid f.g : Nat) : Int) * a.e)))) _ by kernel_rfl).trans (congrArg (fun z => Result.ok (Next.value (.int .i64 z)) _) ((IntWalk.i64_in _ (by omega))))))
          refine yt 3 [11] rfl ⟨b3, b6⟩ ?_
          refine sxr [12, 13] ?_
          refine rd2 (fun Kx hKx => ?_) ?_
          · skip
            replace o104 := (o104.past hbV9)
            refine yck 112 (rbared a.g p104 _ c104 (((wid f.g : Nat) : Int) * a.e) (val B32 a.xs) d V9 o104.rd rfl (by omega) (by omega) hd2) ?_
            rintro eV10 V10 ⟨p112, c112, rfl, o112, hbV10⟩
            have hzV10 := hbV10.size
            have lo112 := fun h => o112.lt h
            refine ⟨_, rfl, ?_⟩
            replace b3 := (b3.past hbV10)
            replace b6 := (b6.past hbV10)
            refine hKx.out _ _ ⟨b3, b6⟩ ?_
            clear hKx Kx
            refine sxr [13] ?_
            refine rd1 (fun Kx hKx => ?_)
            refine snk 9 #[.bool false, .slice none 0 0, .int .i64 0] 34 (fun V11 hbV11 hzV11 b9 => ?_)
            replace b3 := (b3.past hbV11)
            replace b6 := (b6.past hbV11)
            refine hKx.out _ _ ⟨b3, b6⟩ ?_
            clear hKx Kx
            refine sxr [14] ?_
            refine rd1 (fun Kx hKx => ?_)
            refine ssk none b9 hT34 0 #[.bool d.neg, .slice p112 (dig B16 d.m).length c112, .int .i64 d.e] #[.bool d.neg, .slice p112 (dig B16 d.m).length c112, .int .i64 d.e] ?_
            have boV12 := b9
            clear b9
            intro V12 hOV12 b9
            have hzV12 := hOV12.size
            replace b3 := (b3.only hOV12 (by omega))
            replace b6 := (b6.only hOV12 (by omega))
            refine hKx.out _ _ ⟨b3, b6⟩ ?_
            clear hKx Kx
            refine sx_done (by kernel_rfl) ?_
            replace o104 := (o104.past ((bthru hbV10 hbV11).trans (hOV12.below (by omega))))
            replace o112 := (o112.past (hbV11.trans (hOV12.below (by omega))))
            exact ⟨rfl, V10.heap.size, p104, c104, p112, c112, by kernel_rfl, b9, (o104.mono (by omega)), (o112.mono (by omega)), ((bthru (bthru (bthru (bthru hbV7 hbV8) hbV9) hbV10) hbV11).trans (hOV12.below (by omega))), by omega⟩
          refine rd1 (fun Kx hKx => ?_)
          refine snk 9 #[.bool false, .slice none 0 0, .int .i64 0] 34 (fun V10 hbV10 hzV10 b9 => ?_)
          replace b3 := (b3.past hbV10)
          replace b6 := (b6.past hbV10)
          refine hKx.out _ _ ⟨b3, b6⟩ ?_
          clear hKx Kx
          refine sxr [12] ?_
          refine rd1 (fun Kx hKx => ?_)
          replace o104 := (o104.past (bthru hbV9 hbV10))
          refine yck 112 (rbared a.g p104 _ c104 (((wid f.g : Nat) : Int) * a.e) (val B32 a.xs) d V10 o104.rd rfl (by omega) (by omega) hd2) ?_
          rintro eV11 V11 ⟨p112, c112, rfl, o112, hbV11⟩
          have hzV11 := hbV11.size
          have lo112 := fun h => o112.lt h
          refine ⟨_, rfl, ?_⟩
          replace b3 := (b3.past hbV11)
          replace b6 := (b6.past hbV11)
          refine hKx.out _ _ ⟨b3, b6⟩ ?_
          clear hKx Kx
          refine sxr [14] ?_
          refine rd1 (fun Kx hKx => ?_)
          replace b9 := (b9.past hbV11)
          refine ssk none b9 hT34 0 #[.bool d.neg, .slice p112 (dig B16 d.m).length c112, .int .i64 d.e] #[.bool d.neg, .slice p112 (dig B16 d.m).length c112, .int .i64 d.e] ?_
          have boV12 := b9
          clear b9
          intro V12 hOV12 b9
          have hzV12 := hOV12.size
          replace b3 := (b3.only hOV12 (by omega))
          replace b6 := (b6.only hOV12 (by omega))
          refine hKx.out _ _ ⟨b3, b6⟩ ?_
          clear hKx Kx
          refine sx_done (by kernel_rfl) ?_
          replace o104 := ((o104.past hbV11).only hOV12 (fun h => by have := lo104 h; omega))
          replace o112 := (o112.only hOV12 (fun h => by have := lo112 h; omega))
          exact ⟨rfl, V9.heap.size, p104, c104, p112, c112, by kernel_rfl, b9, (o104.mono (by omega)), (o112.mono (by omega)), ((bthru (bthru (bthru (bthru hbV7 hbV8) hbV9) hbV10) hbV11).trans (hOV12.below (by omega))), by omega⟩
        refine rd1 (fun Kx hKx => ?_)
        refine snk 9 #[.bool false, .slice none 0 0, .int .i64 0] 34 (fun V9 hbV9 hzV9 b9 => ?_)
        replace b3 := (b3.past hbV9)
        replace b6 := (b6.past hbV9)
        refine hKx.out _ _ ⟨b3, b6⟩ ?_
        clear hKx Kx
        refine sxr [7] ?_
        refine rd1 (fun Kx hKx => ?_)
        refine yck 107 (refWidth_any f.g V9) ?_
        rintro eV10 V10 ⟨rfl, hbV10⟩
        have hzV10 := hbV10.size
        refine ⟨_, rfl, ?_⟩
        replace b3 := (b3.past hbV10)
        replace b6 := (b6.past hbV10)
        refine hKx.out _ _ ⟨b3, b6⟩ ?_
        clear hKx Kx
        refine tk 10 110 (.int .i64 (((wid f.g : Nat) : Int) * a.e)) ⟨b3, b6⟩ ?_ (hy := fun w' _ => ((show _ = Result.ok (Next.value (.int .i64 (IntKind.wrap .i64 (((wid f.g : Nat) : Int) * a.e)))) _ by kernel_rfl).trans (congrArg (fun z => Result.ok (Next.value (.int .i64 z)) _) ((IntWalk.i64_in _ (by omega))))))
        refine yt 2 [11] rfl ⟨b3, b6⟩ ?_
        refine sxr [12] ?_
        refine rd1 (fun Kx hKx => ?_)
        replace o104 := (o104.past (bthru hbV9 hbV10))
        refine yck 112 (rbared a.g p104 _ c104 (((wid f.g : Nat) : Int) * a.e) (val B32 a.xs) d V10 o104.rd rfl (by omega) (by omega) hd2) ?_
        rintro eV11 V11 ⟨p112, c112, rfl, o112, hbV11⟩
        have hzV11 := hbV11.size
        have lo112 := fun h => o112.lt h
        refine ⟨_, rfl, ?_⟩
        replace b3 := (b3.past hbV11)
        replace b6 := (b6.past hbV11)
        refine hKx.out _ _ ⟨b3, b6⟩ ?_
        clear hKx Kx
        refine sxr [14] ?_
        refine rd1 (fun Kx hKx => ?_)
        replace b9 := (b9.past (bthru hbV10 hbV11))
        refine ssk none b9 hT34 0 #[.bool d.neg, .slice p112 (dig B16 d.m).length c112, .int .i64 d.e] #[.bool d.neg, .slice p112 (dig B16 d.m).length c112, .int .i64 d.e] ?_
        have boV12 := b9
        clear b9
        intro V12 hOV12 b9
        have hzV12 := hOV12.size
        replace b3 := (b3.only hOV12 (by omega))
        replace b6 := (b6.only hOV12 (by omega))
        refine hKx.out _ _ ⟨b3, b6⟩ ?_
        clear hKx Kx
        refine sx_done (by kernel_rfl) ?_
        replace o104 := ((o104.past hbV11).only hOV12 (fun h => by have := lo104 h; omega))
        replace o112 := (o112.only hOV12 (fun h => by have := lo112 h; omega))
        exact ⟨rfl, V8.heap.size, p104, c104, p112, c112, by kernel_rfl, b9, (o104.mono (by omega)), (o112.mono (by omega)), ((bthru (bthru (bthru (bthru hbV7 hbV8) hbV9) hbV10) hbV11).trans (hOV12.below (by omega))), by omega⟩
      refine rd1 (fun Kx hKx => ?_)
      refine snk 9 #[.bool false, .slice none 0 0, .int .i64 0] 34 (fun V8 hbV8 hzV8 b9 => ?_)
      replace b3 := (b3.past hbV8)
      replace b6 := (b6.past hbV8)
      refine hKx.out _ _ ⟨b3, b6⟩ ?_
      clear hKx Kx
      refine sxr [4] ?_
      refine rd1 (fun Kx hKx => ?_)
      replace rd := (rd.past (bthru (bthru hbV6 hbV7) hbV8))
      refine yck 104 (rof a.p _ a.c a.xs V8 rd rfl hlt (by omega)) ?_
      rintro eV9 V9 ⟨p104, c104, rfl, o104, hbV9⟩
      have hzV9 := hbV9.size
      have lo104 := fun h => o104.lt h
      refine ⟨_, rfl, ?_⟩
      replace b3 := (b3.past hbV9)
      replace b6 := (b6.past hbV9)
      refine hKx.out _ _ ⟨b3, b6⟩ ?_
      clear hKx Kx
      refine sxr [7] ?_
      refine rd1 (fun Kx hKx => ?_)
      refine yck 107 (refWidth_any f.g V9) ?_
      rintro eV10 V10 ⟨rfl, hbV10⟩
      have hzV10 := hbV10.size
      refine ⟨_, rfl, ?_⟩
      replace b3 := (b3.past hbV10)
      replace b6 := (b6.past hbV10)
      refine hKx.out _ _ ⟨b3, b6⟩ ?_
      clear hKx Kx
      refine tk 10 110 (.int .i64 (((wid f.g : Nat) : Int) * a.e)) ⟨b3, b6⟩ ?_ (hy := fun w' _ => ((show _ = Result.ok (Next.value (.int .i64 (IntKind.wrap .i64 (((wid f.g : Nat) : Int) * a.e)))) _ by kernel_rfl).trans (congrArg (fun z => Result.ok (Next.value (.int .i64 z)) _) ((IntWalk.i64_in _ (by omega))))))
      refine yt 2 [11] rfl ⟨b3, b6⟩ ?_
      refine sxr [12] ?_
      refine rd1 (fun Kx hKx => ?_)
      replace o104 := (o104.past hbV10)
      refine yck 112 (rbared a.g p104 _ c104 (((wid f.g : Nat) : Int) * a.e) (val B32 a.xs) d V10 o104.rd rfl (by omega) (by omega) hd2) ?_
      rintro eV11 V11 ⟨p112, c112, rfl, o112, hbV11⟩
      have hzV11 := hbV11.size
      have lo112 := fun h => o112.lt h
      refine ⟨_, rfl, ?_⟩
      replace b3 := (b3.past hbV11)
      replace b6 := (b6.past hbV11)
      refine hKx.out _ _ ⟨b3, b6⟩ ?_
      clear hKx Kx
      refine sxr [14] ?_
      refine rd1 (fun Kx hKx => ?_)
      replace b9 := (b9.past (bthru (bthru hbV9 hbV10) hbV11))
      refine ssk none b9 hT34 0 #[.bool d.neg, .slice p112 (dig B16 d.m).length c112, .int .i64 d.e] #[.bool d.neg, .slice p112 (dig B16 d.m).length c112, .int .i64 d.e] ?_
      have boV12 := b9
      clear b9
      intro V12 hOV12 b9
      have hzV12 := hOV12.size
      replace b3 := (b3.only hOV12 (by omega))
      replace b6 := (b6.only hOV12 (by omega))
      refine hKx.out _ _ ⟨b3, b6⟩ ?_
      clear hKx Kx
      refine sx_done (by kernel_rfl) ?_
      replace o104 := ((o104.past hbV11).only hOV12 (fun h => by have := lo104 h; omega))
      replace o112 := (o112.only hOV12 (fun h => by have := lo112 h; omega))
      exact ⟨rfl, V7.heap.size, p104, c104, p112, c112, by kernel_rfl, b9, (o104.mono (by omega)), (o112.mono (by omega)), ((bthru (bthru (bthru (bthru hbV7 hbV8) hbV9) hbV10) hbV11).trans (hOV12.below (by omega))), by omega⟩
    rintro _ V7 ⟨kb9, p104, c104, p112, c112, rfl, b9, o104, o112, hbV7, hkb9⟩
    refine hGx _ _ ?_
    clear hGx Gx
    have hzV7 := hbV7.size
    have hlb9 := b9.lt
    have lo104 := fun h => o104.lt h
    have lo112 := fun h => o112.lt h
    refine sx_then ?_
    refine wp_seq ?_
    by_cases h116 : a.xs.length = 0
    · skip
      by_cases h121 : inGridD d f.g = true
      · skip
        refine ye ?_
        replace b3 := (b3.past hbV7)
        refine yl 1 rfl 114 b3 hT23 2 ?_
        refine yb 1 rfl 116 (((a.xs.length : Nat) : Int) == 0) (true) (beq_iff_eq.2 (by omega)) ?_
        refine yzt 7 ?_
        refine yT ?_
        have hE : errEnc f cls a = 4 := by unfold errEnc; rw [if_neg c1, if_neg (by omega), if_neg c3, if_pos c6, if_neg (by omega), if_pos (by first | exact .inl h116 | exact .inr (by rw [hd]; simpa using h121))]
        have hN : (4 : Int) ≠ 0 := by decide
        refine ye ?_
        replace b4 := (b4.past (bthru (bthru ((bthru hbV3 hbV4).trans (hOV5.below (by omega))) hbV6) hbV7))
        have boV8 := b4
        refine ysw 1 rfl b4 hT61 #[.int .i64 0, .bool false, .bool false, .slice none 0 0, .int .i64 0] ?_
        clear b4
        intro V8 hOV8 b4
        have hzV8 := hOV8.size
        refine yzt 1 ?_
        refine wp_ret ?_
        repeat (first | with_reducible refine sx_thenret ?_ | with_reducible refine sx_blockret ?_)
        refine yret (.tuple #[.agg #[.int .i64 0, .bool false, .bool false, .slice none 0 0, .int .i64 0], .int .i64 4]) (res2 Tryd.results30 (rvr b4 hT61) rvt) ?_
        exact givesEb_zero (k := 0) (n := false) (by rw [hE, if_neg hN]; rfl) rfl hE rfl ((bthru (bthru ((bthru (bthru (bthru hbV1 hbV2) hbV3) hbV4).trans (hOV5.below (by omega))) hbV6) hbV7).trans (hOV8.below (by omega)))
      refine ye ?_
      replace b3 := (b3.past hbV7)
      refine yl 1 rfl 114 b3 hT23 2 ?_
      refine yb 1 rfl 116 (((a.xs.length : Nat) : Int) == 0) (true) (beq_iff_eq.2 (by omega)) ?_
      refine yzt 7 ?_
      refine yT ?_
      have hE : errEnc f cls a = 4 := by unfold errEnc; rw [if_neg c1, if_neg (by omega), if_neg c3, if_pos c6, if_neg (by omega), if_pos (by first | exact .inl h116 | exact .inr (by rw [hd]; simpa using h121))]
      have hN : (4 : Int) ≠ 0 := by decide
      refine ye ?_
      replace b4 := (b4.past (bthru (bthru ((bthru hbV3 hbV4).trans (hOV5.below (by omega))) hbV6) hbV7))
      have boV8 := b4
      refine ysw 1 rfl b4 hT61 #[.int .i64 0, .bool false, .bool false, .slice none 0 0, .int .i64 0] ?_
      clear b4
      intro V8 hOV8 b4
      have hzV8 := hOV8.size
      refine yzt 1 ?_
      refine wp_ret ?_
      repeat (first | with_reducible refine sx_thenret ?_ | with_reducible refine sx_blockret ?_)
      refine yret (.tuple #[.agg #[.int .i64 0, .bool false, .bool false, .slice none 0 0, .int .i64 0], .int .i64 4]) (res2 Tryd.results30 (rvr b4 hT61) rvt) ?_
      exact givesEb_zero (k := 0) (n := false) (by rw [hE, if_neg hN]; rfl) rfl hE rfl ((bthru (bthru ((bthru (bthru (bthru hbV1 hbV2) hbV3) hbV4).trans (hOV5.below (by omega))) hbV6) hbV7).trans (hOV8.below (by omega)))
    by_cases h121 : inGridD d f.g = true
    · skip
      refine ye ?_
      replace b3 := (b3.past hbV7)
      refine yl 1 rfl 114 b3 hT23 2 ?_
      refine yb 1 rfl 116 (((a.xs.length : Nat) : Int) == 0) (false) (beq_eq_false_iff_ne.2 (by omega)) ?_
      refine yla 1 rfl 118 b9 hT34 0 ?_
      replace b6 := (b6.past hbV7)
      refine yla 1 rfl 120 b6 hT29 3 ?_
      refine yc 0 rfl 121 (refInGrid_any d.neg p112 _ c112 d.e d.m f.g V7 o112.rd rfl (by omega) (by omega) (goodG_of G.g)) (fun Gx hGx => ?_)
      rintro eV8 V8 ⟨rfl, hbV8⟩
      have hzV8 := hbV8.size
      rw [show (inGridD ⟨d.neg, d.m, d.e⟩ f.g) = true from h121]
      refine ⟨_, rfl, hGx _ _ ?_⟩
      clear hGx Gx
      refine yzt 2 ?_
      refine yF ?_
      refine wp_skip ?_
      refine sx_then ?_
      refine ye ?_
      replace b3 := (b3.past hbV8)
      refine yl 1 rfl 126 b3 hT3 0 ?_
      refine yl 1 rfl 128 b3 hT4 1 ?_
      replace b9 := (b9.past hbV8)
      refine yla 0 rfl 129 b9 hT34 0 ?_
      replace b4 := (b4.past (bthru (bthru (bthru ((bthru hbV3 hbV4).trans (hOV5.below (by omega))) hbV6) hbV7) hbV8))
      have boV9 := b4
      refine ysw 1 rfl b4 hT61 #[.int .i64 cls, .bool a.g, .bool d.neg, .slice p112 (dig B16 d.m).length c112, .int .i64 d.e] ?_
      clear b4
      intro V9 hOV9 b4
      have hzV9 := hOV9.size
      refine yzt 1 ?_
      refine wp_ret ?_
      repeat (first | with_reducible refine sx_thenret ?_ | with_reducible refine sx_blockret ?_)
      refine yret (.tuple #[.agg #[.int .i64 cls, .bool a.g, .bool d.neg, .slice p112 (dig B16 d.m).length c112, .int .i64 d.e], .int .i64 0]) (res2 Tryd.results30 (rvr b4 hT61) rvt) ?_
      have hE : errEnc f cls a = 0 := by unfold errEnc; rw [if_neg c1, if_neg (by omega), if_neg c3, if_pos c6, if_neg (by omega), if_neg (fun h => by rcases h with h | h <;> first | exact h116 h | (rw [hd, h121] at h; cases h; done))]
      subst c6
      replace o112 := ((o112.past hbV8).only hOV9 (fun h => by have := lo112 h; omega))
      exact givesEb_of (u := ⟨2, a.g, d⟩) (by rw [if_pos hE]; exact hvd rfl) hE rfl o112 (by omega) ((bthru (bthru (bthru ((bthru (bthru (bthru hbV1 hbV2) hbV3) hbV4).trans (hOV5.below (by omega))) hbV6) hbV7) hbV8).trans (hOV9.below (by omega)))
    refine ye ?_
    replace b3 := (b3.past hbV7)
    refine yl 1 rfl 114 b3 hT23 2 ?_
    refine yb 1 rfl 116 (((a.xs.length : Nat) : Int) == 0) (false) (beq_eq_false_iff_ne.2 (by omega)) ?_
    refine yla 1 rfl 118 b9 hT34 0 ?_
    replace b6 := (b6.past hbV7)
    refine yla 1 rfl 120 b6 hT29 3 ?_
    refine yc 0 rfl 121 (refInGrid_any d.neg p112 _ c112 d.e d.m f.g V7 o112.rd rfl (by omega) (by omega) (goodG_of G.g)) (fun Gx hGx => ?_)
    rintro eV8 V8 ⟨rfl, hbV8⟩
    have hzV8 := hbV8.size
    rw [show (inGridD ⟨d.neg, d.m, d.e⟩ f.g) = false from (by simpa using h121)]
    refine ⟨_, rfl, hGx _ _ ?_⟩
    clear hGx Gx
    refine yzt 2 ?_
    refine yT ?_
    have hE : errEnc f cls a = 4 := by unfold errEnc; rw [if_neg c1, if_neg (by omega), if_neg c3, if_pos c6, if_neg (by omega), if_pos (by first | exact .inl h116 | exact .inr (by rw [hd]; simpa using h121))]
    have hN : (4 : Int) ≠ 0 := by decide
    refine ye ?_
    replace b4 := (b4.past (bthru (bthru (bthru ((bthru hbV3 hbV4).trans (hOV5.below (by omega))) hbV6) hbV7) hbV8))
    have boV9 := b4
    refine ysw 1 rfl b4 hT61 #[.int .i64 0, .bool false, .bool false, .slice none 0 0, .int .i64 0] ?_
    clear b4
    intro V9 hOV9 b4
    have hzV9 := hOV9.size
    refine yzt 1 ?_
    refine wp_ret ?_
    repeat (first | with_reducible refine sx_thenret ?_ | with_reducible refine sx_blockret ?_)
    refine yret (.tuple #[.agg #[.int .i64 0, .bool false, .bool false, .slice none 0 0, .int .i64 0], .int .i64 4]) (res2 Tryd.results30 (rvr b4 hT61) rvt) ?_
    exact givesEb_zero (k := 0) (n := false) (by rw [hE, if_neg hN]; rfl) rfl hE rfl ((bthru (bthru (bthru ((bthru (bthru (bthru hbV1 hbV2) hbV3) hbV4).trans (hOV5.below (by omega))) hbV6) hbV7) hbV8).trans (hOV9.below (by omega)))
  · rw [if_neg hn, if_neg (by decide)]
    have HF := fun W => Lib.hid (refFormat_not n hn W)
    generalize fmt n = f at *
    have hT61 : SxAgg Tryd.prog 61 5 := sxAgg_of (by kernel_rfl) (by kernel_rfl)
    have hT79 : SxAgg Tryd.prog 79 9 := sxAgg_of (by kernel_rfl) (by kernel_rfl)
    refine calls_of_wp Tryd.func30 rfl ?_
    refine sx_frame (a' := ⟨((.int .i64 n) :: (.agg #[.int .i64 cls, .bool a.g, .slice a.p a.xs.length a.c, .int .i64 a.e]) :: us 129 []).toArray, []⟩) (by kernel_rfl) ?_
    refine ye ?_
    refine yw 0 rfl 3 #[.int .i64 cls, .bool a.g, .slice a.p a.xs.length a.c, .int .i64 a.e] 56 (fun V1 hbV1 hzV1 b3 => ?_)
    refine yw 0 rfl 4 #[.int .i64 0, .bool false, .bool false, .slice none 0 0, .int .i64 0] 61 (fun V2 hbV2 hzV2 b4 => ?_)
    refine yzt 1 ?_
    refine ye ?_
    refine yc 1 rfl 12 ((HF V2).out) (fun Gx hGx => ?_)
    rintro eV3 V3 ⟨rfl, hbV3⟩
    have hzV3 := hbV3.size
    refine ⟨_, rfl, hGx _ _ ?_⟩
    clear hGx Gx
    refine yw 3 rfl 6 #[.int .i64 0, .int .i64 0, .int .i64 0, .int .i64 0, .int .i64 0, .int .i64 0, .int .i64 0, .bool false, .int .i64 0] 79 (fun V4 hbV4 hzV4 b6 => ?_)
    have boV5 := b6
    refine ysw 0 rfl b6 hT79 #[.int .i64 ((f.size : Nat) : Int), .int .i64 ((f.E : Nat) : Int), .int .i64 ((f.F : Nat) : Int), .int .i64 f.g.rad, .int .i64 f.g.digs, .int .i64 f.g.lo, .int .i64 f.g.hi, .bool f.g.grad, .int .i64 ((f.fam : Nat) : Int)] ?_
    clear b6
    intro V5 hOV5 b6
    have hzV5 := hOV5.size
    refine yzt 1 ?_
    refine wp_seq ?_
    refine yq ?_
    refine yT ?_
    refine ye ?_
    replace b4 := (b4.past ((bthru hbV3 hbV4).trans (hOV5.below (by omega))))
    have boV6 := b4
    refine ysw 1 rfl b4 hT61 #[.int .i64 0, .bool false, .bool false, .slice none 0 0, .int .i64 0] ?_
    clear b4
    intro V6 hOV6 b4
    have hzV6 := hOV6.size
    refine yzt 1 ?_
    refine wp_ret ?_
    repeat (first | with_reducible refine sx_thenret ?_ | with_reducible refine sx_blockret ?_)
    refine yret (.tuple #[.agg #[.int .i64 0, .bool false, .bool false, .slice none 0 0, .int .i64 0], .int .i64 6]) (res2 Tryd.results30 (rvr b4 hT61) rvt) ?_
    exact givesEb_zero (k := 0) (n := false) rfl rfl rfl rfl (((bthru (bthru (bthru hbV1 hbV2) hbV3) hbV4).trans (hOV5.below (by omega))).trans (hOV6.below (by omega)))
end Go.Proofs.YtcipdimogodndaaDoor

namespace Go.Proofs.YtcipdimogodndaaDoor
open Go.RowKit Go.Slip

theorem encP_other (f : Fm) {k : Nat} (h : k ≠ 2) (g : Bool) (d d' : Dv) : f.encP k g d = f.encP k g d' := by
  unfold Fm.encP
  rw [if_neg h, if_neg h]
structure EncV (f : Fm) (cls : Int) (a : Din) : Prop where
  len : (dig B16 (encV f cls a).x.m).length ≤ 2400
  num : (encV f cls a).cls = 2 → inGridD (encV f cls a).x f.g = true ∧ (encV f cls a).x.m ≠ 0 ∧ Bare (encV f cls a).x ∧ (encV f cls a).x.neg = (encV f cls a).neg ∧ (dig B32 (encV f cls a).x.m).length ≤ 1200
  same : f.encP (encV f cls a).cls (encV f cls a).neg (encV f cls a).x = f.encP cls.toNat a.g (numD f a)
theorem encV_ok {f : Fm} {cls : Int} {a : Din} {w : World} (ha : InD w a) (h : errEnc f cls a = 0) : EncV f cls a := by
  unfold errEnc at h
  split at h
  · omega
  · rename_i c1
    split at h
    · contradiction
    · rename_i c2
      have c2 : errNat a.xs = 0 := by omega
      split at h
      · omega
      · split at h
        · rename_i c4
          split at h
          · omega
          · rename_i c5
            split at h
            · omega
            · rename_i c6
              obtain ⟨b1, b2, b3⟩ := numD_bd (f := f) ha c2 (by omega)
              have b4 := B16_len32 (numD f a).m
              have hv : encV f cls a = ⟨2, a.g, numD f a⟩ := by unfold encV; rw [if_pos c4]
              obtain ⟨k1, _⟩ := errNat_ok ha.lt c2
              have hne : val B32 a.xs ≠ 0 := fun h => c6 (.inl (by rw [k1]; exact (dig_len_zero B32_two _).2 h))
              have hm : (numD f a).m ≠ 0 := fun h3 => by
                unfold numD bare at h3
                rw [if_neg hne] at h3
                simp only at h3
                have := (tz_spec (val B32 a.xs) (by omega)).2
                rw [h3] at this
                simp at this
              have hg : (numD f a).neg = a.g := by unfold numD bare; rw [if_neg hne]
              refine ⟨by rw [hv]; show (dig B16 (numD f a).m).length ≤ 2400; omega, fun _ => ?_, ?_⟩
              · rw [hv]
                refine ⟨?_, hm, bare_bare _, hg, b1⟩
                show inGridD (numD f a) f.g = true
                cases hi : inGridD (numD f a) f.g with
                | true => rfl
                | false => exact absurd (.inr hi) c6
              · rw [hv, c4]; rfl
        · rename_i c4
          have hv : encV f cls a = ⟨cls.toNat, a.g, ⟨false, 0, 0⟩⟩ := by unfold encV; rw [if_neg c4]
          refine ⟨by rw [hv]; show (dig B16 0).length ≤ 2400; rw [dig_zero]; decide, fun h2 => ?_, ?_⟩
          · rw [hv] at h2; simp only at h2; omega
          · rw [hv]; exact encP_other f (k := cls.toNat) (by omega) _ _ _

set_option maxHeartbeats 1000000 in
set_option maxRecDepth 100000 in
theorem codecEncodes_row (n cls : Int) (a : Din) (w : World) (ha : InD w a) (hT : TabW w) : Calls Tryd.prog 5 #[.int .i64 n, .agg #[.int .i64 cls, .bool a.g, .slice a.p a.xs.length a.c, .int .i64 a.e]] w fun en w' => en = .returned (.bool true) ∧ Below w.heap.size w w' := by
  have HE := fun W h1 h2 => Lib.hid (Encode_any n cls a W h1 h2)
  have HV := fun W h1 => Lib.hid (encodable_any n cls a W h1)
  by_cases h0 : errEncN n cls a = 0
  · have hn : IsFm n := by
      unfold errEncN at h0
      split at h0
      · assumption
      · omega
    have h1 : errEnc (fmt n) cls a = 0 := by unfold errEncN at h0; rwa [if_pos hn] at h0
    obtain ⟨v1, v2, v3⟩ := encV_ok ha h1
    have HR := fun W p c b h => Lib.hid (refEncodeOf_any n (encV (fmt n) cls a) p c b W hn h v1 v2)
    rw [v3] at HR
    unfold GivesS encOut at HE
    rw [h0] at HE HV
    simp only [if_pos] at HE HV
    generalize strOf ((fmt n).strP ((fmt n).encP cls.toNat a.g (numD (fmt n) a))) = s at *
    generalize encV (fmt n) cls a = u at *
    clear v1 v2 v3 h1
    have hT56 : SxAgg Tryd.prog 56 4 := sxAgg_of (by kernel_rfl) (by kernel_rfl)
    have hT61 : SxAgg Tryd.prog 61 5 := sxAgg_of (by kernel_rfl) (by kernel_rfl)
    refine calls_of_wp Tryd.func5 rfl ?_
    refine sx_frame (a' := ⟨((.int .i64 n) :: (.agg #[.int .i64 cls, .bool a.g, .slice a.p a.xs.length a.c, .int .i64 a.e]) :: us 36 []).toArray, []⟩) (by kernel_rfl) ?_
    refine ye ?_
    refine yw 0 rfl 3 #[.int .i64 cls, .bool a.g, .slice a.p a.xs.length a.c, .int .i64 a.e] 56 (fun V1 hbV1 hzV1 b3 => ?_)
    refine yzt 1 ?_
    refine ye ?_
    refine yla 1 rfl 12 b3 hT56 0 ?_
    replace ha := (ha.past hbV1)
    replace hT := (hT.past hbV1)
    refine yc 0 rfl 13 ((HE V1 ha hT).out) (fun Gx hGx => ?_)
    rintro eV2 V2 ⟨rfl, hbV2⟩
    have hzV2 := hbV2.size
    refine ⟨_, rfl, hGx _ _ ?_⟩
    clear hGx Gx
    refine yzt 5 ?_
    refine ye ?_
    replace b3 := (b3.past hbV2)
    refine yla 1 rfl 18 b3 hT56 0 ?_
    replace ha := (ha.past hbV2)
    refine yc 0 rfl 19 ((HV V2 ha).out) (fun Gx hGx => ?_)
    rintro eV3 V3 ⟨p19, c19, rfl, o19, hbV3⟩
    have hzV3 := hbV3.size
    have lo19 := fun h => o19.lt h
    refine ⟨_, rfl, hGx _ _ ?_⟩
    clear hGx Gx
    refine yw 3 rfl 7 #[.int .i64 0, .bool false, .bool false, .slice none 0 0, .int .i64 0] 61 (fun V4 hbV4 hzV4 b7 => ?_)
    have boV5 := b7
    refine ysw 0 rfl b7 hT61 #[.int .i64 ((u.cls : Nat) : Int), .bool u.neg, .bool u.x.neg, .slice p19 (dig B16 u.x.m).length c19, .int .i64 u.x.e] ?_
    clear b7
    intro V5 hOV5 b7
    have hzV5 := hOV5.size
    refine yzt 1 ?_
    refine yq ?_
    refine wp_seq ?_
    refine yq ?_
    refine yT ?_
    refine sx_region ?_
    refine yla 1 rfl 25 b7 hT61 0 ?_
    replace o19 := (o19.past (hbV4.trans (hOV5.below (by omega))))
    refine yc 0 rfl 26 ((HR V5 p19 c19 _ o19).out) (fun Gx hGx => ?_)
    rintro eV6 V6 ⟨rfl, hbV6⟩
    have hzV6 := hbV6.size
    refine ⟨_, rfl, hGx _ _ ?_⟩
    clear hGx Gx
    refine yz 1 ?_
    refine sx_then ?_
    refine ye ?_
    replace hT := (hT.past (bthru ((bthru (bthru hbV2 hbV3) hbV4).trans (hOV5.below (by omega))) hbV6))
    refine yc 0 rfl 27 (codecBegun_any V6 hT) (fun Gx hGx => ?_)
    rintro eV7 V7 ⟨rfl, hbV7⟩
    have hzV7 := hbV7.size
    refine ⟨_, rfl, hGx _ _ ?_⟩
    clear hGx Gx
    refine yv 8 rfl 36 (.bool true) ?_ (exec_seq (s := s) (by kernel_rfl) (by kernel_rfl))
    refine yzt 2 ?_
    refine wp_ret ?_
    repeat (first | with_reducible refine sx_thenret ?_ | with_reducible refine sx_blockret ?_)
    refine yret (.bool true) (res1 Tryd.results5 rvt) ?_
    exact ⟨rfl, (bthru (bthru ((bthru (bthru (bthru hbV1 hbV2) hbV3) hbV4).trans (hOV5.below (by omega))) hbV6) hbV7)⟩
  · unfold GivesS at HE
    rw [if_neg h0] at HE HV
    generalize errEncN n cls a = er at *
    have hT56 : SxAgg Tryd.prog 56 4 := sxAgg_of (by kernel_rfl) (by kernel_rfl)
    have hT61 : SxAgg Tryd.prog 61 5 := sxAgg_of (by kernel_rfl) (by kernel_rfl)
    refine calls_of_wp Tryd.func5 rfl ?_
    refine sx_frame (a' := ⟨((.int .i64 n) :: (.agg #[.int .i64 cls, .bool a.g, .slice a.p a.xs.length a.c, .int .i64 a.e]) :: us 36 []).toArray, []⟩) (by kernel_rfl) ?_
    refine ye ?_
    refine yw 0 rfl 3 #[.int .i64 cls, .bool a.g, .slice a.p a.xs.length a.c, .int .i64 a.e] 56 (fun V1 hbV1 hzV1 b3 => ?_)
    refine yzt 1 ?_
    refine ye ?_
    refine yla 1 rfl 12 b3 hT56 0 ?_
    replace ha := (ha.past hbV1)
    replace hT := (hT.past hbV1)
    refine yc 0 rfl 13 ((HE V1 ha hT).out) (fun Gx hGx => ?_)
    rintro eV2 V2 ⟨rfl, hbV2⟩
    have hzV2 := hbV2.size
    refine ⟨_, rfl, hGx _ _ ?_⟩
    clear hGx Gx
    refine yzt 5 ?_
    refine ye ?_
    replace b3 := (b3.past hbV2)
    refine yla 1 rfl 18 b3 hT56 0 ?_
    replace ha := (ha.past hbV2)
    refine yc 0 rfl 19 ((HV V2 ha).out) (fun Gx hGx => ?_)
    rintro eV3 V3 ⟨p19, c19, rfl, o19, hbV3⟩
    have hzV3 := hbV3.size
    have lo19 := fun h => o19.lt h
    refine ⟨_, rfl, hGx _ _ ?_⟩
    clear hGx Gx
    refine yw 3 rfl 7 #[.int .i64 0, .bool false, .bool false, .slice none 0 0, .int .i64 0] 61 (fun V4 hbV4 hzV4 b7 => ?_)
    have boV5 := b7
    refine ysw 0 rfl b7 hT61 #[.int .i64 ((vr0.cls : Nat) : Int), .bool vr0.neg, .bool vr0.x.neg, .slice p19 (dig B16 vr0.x.m).length c19, .int .i64 vr0.x.e] ?_
    clear b7
    intro V5 hOV5 b7
    have hzV5 := hOV5.size
    refine yzt 1 ?_
    refine yq ?_
    refine wp_seq ?_
    refine ye ?_
    refine yb 1 rfl 23 (er == 0) (false) (beq_eq_false_iff_ne.2 h0) ?_
    refine yzt 0 ?_
    refine yF ?_
    refine wp_skip ?_
    refine sx_then ?_
    refine ye ?_
    replace hT := (hT.past ((bthru (bthru hbV2 hbV3) hbV4).trans (hOV5.below (by omega))))
    refine yc 0 rfl 27 (codecBegun_any V5 hT) (fun Gx hGx => ?_)
    rintro eV6 V6 ⟨rfl, hbV6⟩
    have hzV6 := hbV6.size
    refine ⟨_, rfl, hGx _ _ ?_⟩
    clear hGx Gx
    refine yb 3 rfl 31 (er == er) (true) (beq_self_eq_true _) ?_
    refine yv 4 rfl 36 (.bool true) ?_ (exec_seq (s := strOf []) (by kernel_rfl) (by kernel_rfl))
    refine yzt 2 ?_
    refine wp_ret ?_
    repeat (first | with_reducible refine sx_thenret ?_ | with_reducible refine sx_blockret ?_)
    refine yret (.bool true) (res1 Tryd.results5 rvt) ?_
    exact ⟨rfl, (bthru ((bthru (bthru (bthru hbV1 hbV2) hbV3) hbV4).trans (hOV5.below (by omega))) hbV6)⟩
end Go.Proofs.YtcipdimogodndaaDoor
