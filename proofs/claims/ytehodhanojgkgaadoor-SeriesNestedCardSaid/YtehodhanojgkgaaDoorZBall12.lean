/- ball: two; Add, Mul, Join, Sub. -/
import Derived.Test.YtehodhanojgkgaaDoorZI
namespace Go.Proofs.YtehodhanojgkgaaDoor
open Go.RowKit Go.Slip

theorem firstErrB_two (x y : Din × Din) : firstErrB [x, y] = if errBall x.1 x.2 = 0 then errBall y.1 y.2 else errBall x.1 x.2 := by
  simp only [firstErrB]
  split <;> (try split) <;> simp_all

theorem errC_ok2 {n : Int} {a b a' b' : Din} (h : errC n [(a, b), (a', b')] = 0) : errBall a b = 0 ∧ errBall a' b' = 0 ∧ 1 ≤ n ∧ n ≤ 4096 := by
  unfold errC at h
  rw [firstErrB_two] at h
  by_cases h1 : errBall a b = 0
  · simp only [if_pos h1] at h
    by_cases h2 : errBall a' b' = 0
    · simp only [if_pos h2] at h
      refine ⟨h1, h2, ?_⟩
      split at h <;> omega
    · simp only [if_neg h2] at h
      exact absurd h h2
  · simp only [if_neg h1] at h
    exact absurd h h1

/-- What is told of two. -/
def twoE (n : Int) (L : List (Din × Din)) (rl rh : Dv) : Int := if errC n L = 0 then errB rl rh else errC n L
def twoL (n : Int) (L : List (Din × Din)) (rl rh : Dv) : Dv := if errC n L = 0 then doneL rl rh else zeroD
def twoH (n : Int) (L : List (Din × Din)) (rl rh : Dv) : Dv := if errC n L = 0 then doneH rl rh else zeroD

/-- Ends that can be told. -/
structure Fit (d : Dv) : Prop where
  len : (dig B32 d.m).length ≤ 1000000
  lo : -1000000 ≤ d.e
  hi : d.e ≤ 1000000

theorem inW_of {w : World} {base : Nat} {d : Dv} {p : Option Addr} {c : Nat} (ho : Own w base .u32 58 p c (dig B32 d.m)) (h : Fit d) : InW w base ⟨d.neg, p, c, d.m, d.e⟩ := ⟨ho, h.len, h.lo, h.hi⟩

theorem dyV_fit {w : World} {a : Din} (h : InD w a) (he : errDy a = 0) : Fit (dyV a) := by
  obtain ⟨h1, h2, h3⟩ := dyV_bd h he
  exact ⟨by omega, by omega, by omega⟩

theorem dyV_sm {w : World} {a : Din} {p : Option Addr} {c : Nat} (h : InD w a) (he : errDy a = 0) : Sm ⟨(dyV a).neg, p, c, (dyV a).m, (dyV a).e⟩ := by
  obtain ⟨h1, h2, h3⟩ := dyV_bd h he
  exact ⟨by simp only; omega, by simp only; omega, by simp only; omega⟩

theorem rawDoneD_any (l h : Dv) (p q : Option Addr) (c d base : Nat) (w : World) (hl : Own w base .u32 58 p c (dig B32 l.m)) (hh : Own w base .u32 58 q d (dig B32 h.m)) (f1 : (dig B32 l.m).length ≤ 1000000) (f2 : (dig B32 h.m).length ≤ 1000000) :
    Calls Tryd.prog 35 #[.agg #[.bool l.neg, .slice p (dig B32 l.m).length c, .int .i64 l.e, .bool h.neg, .slice q (dig B32 h.m).length d, .int .i64 h.e]] w (GivesBE w base (doneL l h) (doneH l h) (errB l h)) :=
  rawDone_any ⟨l.neg, p, c, l.m, l.e⟩ ⟨h.neg, q, d, h.m, h.e⟩ base w ⟨hl, f1⟩ ⟨hh, f2⟩


set_option maxHeartbeats 8000000 in
set_option maxRecDepth 100000 in
theorem twoPlus_any (a b a' b' : Din) (n : Int) (rl rh : Dv) (w : World) (ha : InD w a) (hb : InD w b) (ha' : InD w a') (hb' : InD w b') (hT : TabW w)
    (HF : errC n [(a, b), (a', b')] = 0 → (dig B32 rl.m).length ≤ 1000000 ∧ (dig B32 rh.m).length ≤ 1000000 ∧ ∀ W (al ah bl bh : Rw), al.v = dyV a → ah.v = dyV b → bl.v = dyV a' → bh.v = dyV b' → Sm al → Sm ah → Sm bl → Sm bh → ∀ base, InW W base al → InW W base ah → InW W base bl → InW W base bh → TabW W → base ≤ W.heap.size →
      Calls Tryd.prog 59 #[.agg #[.bool al.g, .slice al.p (dig B32 al.m).length al.c, .int .i64 al.e, .bool ah.g, .slice ah.p (dig B32 ah.m).length ah.c, .int .i64 ah.e], .agg #[.bool bl.g, .slice bl.p (dig B32 bl.m).length bl.c, .int .i64 bl.e, .bool bh.g, .slice bh.p (dig B32 bh.m).length bh.c, .int .i64 bh.e], .int .i64 n] W (GivesB W base rl rh)) :
    Calls Tryd.prog 57 #[.agg #[.bool a.g, .slice a.p a.xs.length a.c, .int .i64 a.e, .bool b.g, .slice b.p b.xs.length b.c, .int .i64 b.e], .agg #[.bool a'.g, .slice a'.p a'.xs.length a'.c, .int .i64 a'.e, .bool b'.g, .slice b'.p b'.xs.length b'.c, .int .i64 b'.e], .int .i64 n, .func (.func 59) #[] #[]] w (GivesBE w w.heap.size (twoL n [(a, b), (a', b')] rl rh) (twoH n [(a, b), (a', b')] rl rh) (twoE n [(a, b), (a', b')] rl rh)) := by
  have HC := fun W k1 k2 k3 k4 k5 => Lib.hid (bcheck2_new n a b a' b' W _ rfl k1 k2 k3 k4 k5)
  have HE := Lib.hid (show twoE n [(a, b), (a', b')] rl rh = if errC n [(a, b), (a', b')] = 0 then errB rl rh else errC n [(a, b), (a', b')] from rfl)
  have HL := Lib.hid (show twoL n [(a, b), (a', b')] rl rh = if errC n [(a, b), (a', b')] = 0 then doneL rl rh else zeroD from rfl)
  have HH := Lib.hid (show twoH n [(a, b), (a', b')] rl rh = if errC n [(a, b), (a', b')] = 0 then doneH rl rh else zeroD from rfl)
  have HOK := Lib.hid (fun h : errC n [(a, b), (a', b')] = 0 => errC_ok2 h)
  generalize errC n [(a, b), (a', b')] = ec at *
  by_cases h0 : ec = 0
  · obtain ⟨k1, k2, k3, k4⟩ := HOK.out h0
    obtain ⟨q1, q2, -⟩ := errBall_ok k1
    obtain ⟨q3, q4, -⟩ := errBall_ok k2
    have t1 : (ec == 0) = true := by simpa using h0
    have t2 : (ec != 0) = false := by simpa using h0
    rw [if_pos h0] at HE HL HH
    obtain ⟨f1, f2, HFF⟩ := HF h0
    have HFH := Lib.hid HFF
    have HOA := fun W k1 k2 k3 => Lib.hid (ballOf_any a b W k1 k2 q1 q2 k3)
    have HOB := fun W k1 k2 k3 => Lib.hid (ballOf_any a' b' W k1 k2 q3 q4 k3)
    have HWa := fun W base p c h => inW_of (w := W) (base := base) (p := p) (c := c) h (dyV_fit ha q1)
    have HWb := fun W base p c h => inW_of (w := W) (base := base) (p := p) (c := c) h (dyV_fit hb q2)
    have HWa' := fun W base p c h => inW_of (w := W) (base := base) (p := p) (c := c) h (dyV_fit ha' q3)
    have HWb' := fun W base p c h => inW_of (w := W) (base := base) (p := p) (c := c) h (dyV_fit hb' q4)
    have HSa := fun p c => dyV_sm (p := p) (c := c) ha q1
    have HSb := fun p c => dyV_sm (p := p) (c := c) hb q2
    have HSa' := fun p c => dyV_sm (p := p) (c := c) ha' q3
    have HSb' := fun p c => dyV_sm (p := p) (c := c) hb' q4
    clear HFF HF HOK k1 k2 q1 q2 q3 q4 h0
    generalize dyV a = va at *
    generalize dyV b = vb at *
    generalize dyV a' = va' at *
    generalize dyV b' = vb' at *
    go_enter Tryd.func57, Tryd.ntmps57
    go_upto_region 1 with (fail)
    refine wp_layT3 (fun W1 hs1 hz1 A B R RT => ?_)
    replace ha := ha.past hs1
    replace hb := hb.past hs1
    replace ha' := ha'.past hs1
    replace hb' := hb'.past hs1
    replace hT := hT.past hs1
    obtain ⟨A_0, A_1, A_2, A_3, A_4, A_5⟩ := (A).e6
    have A_f0 := (A).f 0
    have A_f1 := (A).f 1
    have A_f2 := (A).f 2
    have A_f3 := (A).f 3
    have A_f4 := (A).f 4
    have A_f5 := (A).f 5
    obtain ⟨B_0, B_1, B_2, B_3, B_4, B_5⟩ := (B).e6
    have B_f0 := (B).f 0
    have B_f1 := (B).f 1
    have B_f2 := (B).f 2
    have B_f3 := (B).f 3
    have B_f4 := (B).f 4
    have B_f5 := (B).f 5
    go_wp2_with fail
    ((with_reducible refine (HC _ ha hb ha' hb' hT).out.mono ?_))
    clear A_0 A_1 A_2 A_3 A_4 A_5 B_0 B_1 B_2 B_3 B_4 B_5
    rintro e2 w2 ⟨rfl, hb2⟩
    replace hb2 : Below W1.heap.size W1 w2 := (below_lay1 W1 _).trans (hb2.mono (by omega))
    have hs2 := hs1.trans (hb2.mono hs1.size)
    replace A := A.past hb2
    replace B := B.past hb2
    replace R := R.past hb2
    replace RT := RT.past hb2
    replace ha := ha.past hb2
    replace hb := hb.past hb2
    replace ha' := ha'.past hb2
    replace hb' := hb'.past hb2
    replace hT := hT.past hb2
    go_upto_region 4 with (fail)
    have hzd : w2.drew.heap.size = w2.heap.size := rfl
    have HZD := Lib.hid hzd
    clear hzd
    have hzb : w.heap.size ≤ w2.drew.heap.size := hs2.size
    go_region_held3 (fun w' => (w'.cell? ⟨w.heap.size, 0, none⟩ = some (.bool a.g) ∧ w'.cell? ⟨w.heap.size, 1, none⟩ = some (.slice a.p a.xs.length a.c) ∧ w'.cell? ⟨w.heap.size, 2, none⟩ = some (.int .i64 a.e) ∧ w'.cell? ⟨w.heap.size, 3, none⟩ = some (.bool b.g) ∧ w'.cell? ⟨w.heap.size, 4, none⟩ = some (.slice b.p b.xs.length b.c) ∧ w'.cell? ⟨w.heap.size, 5, none⟩ = some (.int .i64 b.e)) ∧
        (w'.cell? ⟨w.heap.size + 1, 0, none⟩ = some (.bool a'.g) ∧ w'.cell? ⟨w.heap.size + 1, 1, none⟩ = some (.slice a'.p a'.xs.length a'.c) ∧ w'.cell? ⟨w.heap.size + 1, 2, none⟩ = some (.int .i64 a'.e) ∧ w'.cell? ⟨w.heap.size + 1, 3, none⟩ = some (.bool b'.g) ∧ w'.cell? ⟨w.heap.size + 1, 4, none⟩ = some (.slice b'.p b'.xs.length b'.c) ∧ w'.cell? ⟨w.heap.size + 1, 5, none⟩ = some (.int .i64 b'.e)))
      (first
        | with_reducible exact ⟨A.e6, B.e6⟩
        | with_reducible exact ⟨A.drew.e6, B.drew.e6⟩
        | with_reducible exact ⟨(A.drew.past hbx).e6, (B.drew.past hbx).e6⟩
        | with_reducible exact ⟨((A.drew.past hbx).past hby).e6, ((B.drew.past hbx).past hby).e6⟩
        | with_reducible exact ⟨(((A.drew.past hbx).past hby).past hbz).e6, (((B.drew.past hbx).past hby).past hbz).e6⟩
        | with_reducible exact ⟨((((A.drew.past hbx).past hby).past hbz).past hbt).e6, ((((B.drew.past hbx).past hby).past hbz).past hbt).e6⟩
        | with_reducible exact ⟨(((((A.drew.past hbx).past hby).past hbz).past hbt).only (only6 _ _ _ _ _ _ _ _) (by omega)).e6, (((((B.drew.past hbx).past hby).past hbz).past hbt).only (only6 _ _ _ _ _ _ _ _) (by omega)).e6⟩)
      (first
        | (go_at_call_of 50 (Value.agg #[.bool a.g, .slice a.p a.xs.length a.c, .int .i64 a.e, .bool b.g, .slice b.p b.xs.length b.c, .int .i64 b.e]); ((with_reducible refine (HOA _ ha.drew hb.drew hT.drew).out.mono ?_)); rintro ex wx ⟨px, cx, qx, dx, rfl, hox, hqx, hbx⟩)
        | (go_at_call_of 50 (Value.agg #[.bool a'.g, .slice a'.p a'.xs.length a'.c, .int .i64 a'.e, .bool b'.g, .slice b'.p b'.xs.length b'.c, .int .i64 b'.e]); ((with_reducible refine (HOB _ (ha'.drew.past hbx) (hb'.drew.past hbx) (hT.drew.past hbx)).out.mono ?_)); rintro ey wy ⟨py, cy, qy, dy, rfl, hoy, hqy, hby⟩)
        | (go_at_call 35; ((with_reducible refine (rawDoneD_any rl rh pz qz cz dz _ _ hoz hqz f1 f2).mono ?_)); rintro et wt ⟨pt, ct, qt, dt, rfl, hot, hqt, hbt⟩; (have RR := (((R.drew.past hbx).past hby).past hbz).past hbt); obtain ⟨R_0, R_1, R_2, R_3, R_4, R_5⟩ := RR.e6; (have R_f0 := RR.f 0); (have R_f1 := RR.f 1); (have R_f2 := RR.f 2); (have R_f3 := RR.f 3); (have R_f4 := RR.f 4); have R_f5 := RR.f 5)
        | (go_at_call 59; ((with_reducible refine (HFH.out _ ⟨va.neg, px, cx, va.m, va.e⟩ ⟨vb.neg, qx, dx, vb.m, vb.e⟩ ⟨va'.neg, py, cy, va'.m, va'.e⟩ ⟨vb'.neg, qy, dy, vb'.m, vb'.e⟩ rfl rfl rfl rfl (HSa _ _) (HSb _ _) (HSa' _ _) (HSb' _ _) w2.drew.heap.size (HWa _ _ _ _ (hox.past hby)) (HWb _ _ _ _ (hqx.past hby)) (HWa' _ _ _ _ (hoy.mono hbx.size)) (HWb' _ _ _ _ (hqy.mono hbx.size)) ((hT.drew.past hbx).past hby) (Nat.le_trans hbx.size hby.size)).mono ?_)); rintro ez wz ⟨pz, cz, qz, dz, rfl, hoz, hqz, hbz⟩))
    all_goals (go_wp2_with fail)
    all_goals (refine bodyPost_ret (v := .tuple #[.agg #[.bool (doneL rl rh).neg, .slice pt (dig B32 (doneL rl rh).m).length ct, .int .i64 (doneL rl rh).e, .bool (doneH rl rh).neg, .slice qt (dig B32 (doneH rl rh).m).length dt, .int .i64 (doneH rl rh).e], .int .i64 (errB rl rh)]) (by simp [results, Tryd.results57, go_sem, R_0, R_1, R_2, R_3, R_4, R_5]) rfl ?_)
    rw [HE.out, HL.out, HH.out]
    have y2 := Nat.le_trans hs2.size hbx.size
    have y3 := Nat.le_trans y2 hby.size
    have y4 := Nat.le_trans y3 hbz.size
    exact givesBE_put ((((hs2.drew.trans (hbx.mono hs2.size)).trans (hby.mono y2)).trans (hbz.mono y3)).trans (hbt.mono y4)) (hot.mono hzb) (hqt.mono hzb) (by omega) ((((RT.drew.past hbx).past hby).past hbz).past hbt)
  · have t1 : (ec == 0) = false := beq_eq_false_iff_ne.2 h0
    have t2 : (ec != 0) = true := by rw [bne, t1]; rfl
    rw [if_neg h0] at HE HL HH
    clear HF HOK h0
    go_enter Tryd.func57, Tryd.ntmps57
    go_upto_region 1 with (fail)
    refine wp_layT3 (fun W1 hs1 hz1 A B R RT => ?_)
    replace ha := ha.past hs1
    replace hb := hb.past hs1
    replace ha' := ha'.past hs1
    replace hb' := hb'.past hs1
    replace hT := hT.past hs1
    obtain ⟨A_0, A_1, A_2, A_3, A_4, A_5⟩ := (A).e6
    have A_f0 := (A).f 0
    have A_f1 := (A).f 1
    have A_f2 := (A).f 2
    have A_f3 := (A).f 3
    have A_f4 := (A).f 4
    have A_f5 := (A).f 5
    obtain ⟨B_0, B_1, B_2, B_3, B_4, B_5⟩ := (B).e6
    have B_f0 := (B).f 0
    have B_f1 := (B).f 1
    have B_f2 := (B).f 2
    have B_f3 := (B).f 3
    have B_f4 := (B).f 4
    have B_f5 := (B).f 5
    go_wp2_with fail
    ((with_reducible refine (HC _ ha hb ha' hb' hT).out.mono ?_))
    clear A_0 A_1 A_2 A_3 A_4 A_5 B_0 B_1 B_2 B_3 B_4 B_5
    rintro e2 w2 ⟨rfl, hb2⟩
    replace hb2 : Below W1.heap.size W1 w2 := (below_lay1 W1 _).trans (hb2.mono (by omega))
    have hs2 := hs1.trans (hb2.mono hs1.size)
    replace R := R.past hb2
    obtain ⟨R_0, R_1, R_2, R_3, R_4, R_5⟩ := (R).e6
    have R_f0 := (R).f 0
    have R_f1 := (R).f 1
    have R_f2 := (R).f 2
    have R_f3 := (R).f 3
    have R_f4 := (R).f 4
    have R_f5 := (R).f 5
    go_wp2_with fail
    refine bodyPost_ret (v := .tuple #[.agg #[.bool false, .slice none 0 0, .int .i64 0, .bool false, .slice none 0 0, .int .i64 0], .int .i64 ec]) (by simp [results, Tryd.results57, go_sem, R_0, R_1, R_2, R_3, R_4, R_5]) rfl ?_
    rw [HE.out, HL.out, HH.out]
    exact givesBE_zero hs2 (by omega)

set_option maxHeartbeats 8000000 in
set_option maxRecDepth 100000 in
theorem twoTimes_any (a b a' b' : Din) (n : Int) (rl rh : Dv) (w : World) (ha : InD w a) (hb : InD w b) (ha' : InD w a') (hb' : InD w b') (hT : TabW w)
    (HF : errC n [(a, b), (a', b')] = 0 → (dig B32 rl.m).length ≤ 1000000 ∧ (dig B32 rh.m).length ≤ 1000000 ∧ ∀ W (al ah bl bh : Rw), al.v = dyV a → ah.v = dyV b → bl.v = dyV a' → bh.v = dyV b' → Sm al → Sm ah → Sm bl → Sm bh → ∀ base, InW W base al → InW W base ah → InW W base bl → InW W base bh → TabW W → base ≤ W.heap.size →
      Calls Tryd.prog 58 #[.agg #[.bool al.g, .slice al.p (dig B32 al.m).length al.c, .int .i64 al.e, .bool ah.g, .slice ah.p (dig B32 ah.m).length ah.c, .int .i64 ah.e], .agg #[.bool bl.g, .slice bl.p (dig B32 bl.m).length bl.c, .int .i64 bl.e, .bool bh.g, .slice bh.p (dig B32 bh.m).length bh.c, .int .i64 bh.e], .int .i64 n] W (GivesB W base rl rh)) :
    Calls Tryd.prog 57 #[.agg #[.bool a.g, .slice a.p a.xs.length a.c, .int .i64 a.e, .bool b.g, .slice b.p b.xs.length b.c, .int .i64 b.e], .agg #[.bool a'.g, .slice a'.p a'.xs.length a'.c, .int .i64 a'.e, .bool b'.g, .slice b'.p b'.xs.length b'.c, .int .i64 b'.e], .int .i64 n, .func (.func 58) #[] #[]] w (GivesBE w w.heap.size (twoL n [(a, b), (a', b')] rl rh) (twoH n [(a, b), (a', b')] rl rh) (twoE n [(a, b), (a', b')] rl rh)) := by
  have HC := fun W k1 k2 k3 k4 k5 => Lib.hid (bcheck2_new n a b a' b' W _ rfl k1 k2 k3 k4 k5)
  have HE := Lib.hid (show twoE n [(a, b), (a', b')] rl rh = if errC n [(a, b), (a', b')] = 0 then errB rl rh else errC n [(a, b), (a', b')] from rfl)
  have HL := Lib.hid (show twoL n [(a, b), (a', b')] rl rh = if errC n [(a, b), (a', b')] = 0 then doneL rl rh else zeroD from rfl)
  have HH := Lib.hid (show twoH n [(a, b), (a', b')] rl rh = if errC n [(a, b), (a', b')] = 0 then doneH rl rh else zeroD from rfl)
  have HOK := Lib.hid (fun h : errC n [(a, b), (a', b')] = 0 => errC_ok2 h)
  generalize errC n [(a, b), (a', b')] = ec at *
  by_cases h0 : ec = 0
  · obtain ⟨k1, k2, k3, k4⟩ := HOK.out h0
    obtain ⟨q1, q2, -⟩ := errBall_ok k1
    obtain ⟨q3, q4, -⟩ := errBall_ok k2
    have t1 : (ec == 0) = true := by simpa using h0
    have t2 : (ec != 0) = false := by simpa using h0
    rw [if_pos h0] at HE HL HH
    obtain ⟨f1, f2, HFF⟩ := HF h0
    have HFH := Lib.hid HFF
    have HOA := fun W k1 k2 k3 => Lib.hid (ballOf_any a b W k1 k2 q1 q2 k3)
    have HOB := fun W k1 k2 k3 => Lib.hid (ballOf_any a' b' W k1 k2 q3 q4 k3)
    have HWa := fun W base p c h => inW_of (w := W) (base := base) (p := p) (c := c) h (dyV_fit ha q1)
    have HWb := fun W base p c h => inW_of (w := W) (base := base) (p := p) (c := c) h (dyV_fit hb q2)
    have HWa' := fun W base p c h => inW_of (w := W) (base := base) (p := p) (c := c) h (dyV_fit ha' q3)
    have HWb' := fun W base p c h => inW_of (w := W) (base := base) (p := p) (c := c) h (dyV_fit hb' q4)
    have HSa := fun p c => dyV_sm (p := p) (c := c) ha q1
    have HSb := fun p c => dyV_sm (p := p) (c := c) hb q2
    have HSa' := fun p c => dyV_sm (p := p) (c := c) ha' q3
    have HSb' := fun p c => dyV_sm (p := p) (c := c) hb' q4
    clear HFF HF HOK k1 k2 q1 q2 q3 q4 h0
    generalize dyV a = va at *
    generalize dyV b = vb at *
    generalize dyV a' = va' at *
    generalize dyV b' = vb' at *
    go_enter Tryd.func57, Tryd.ntmps57
    go_upto_region 1 with (fail)
    refine wp_layT3 (fun W1 hs1 hz1 A B R RT => ?_)
    replace ha := ha.past hs1
    replace hb := hb.past hs1
    replace ha' := ha'.past hs1
    replace hb' := hb'.past hs1
    replace hT := hT.past hs1
    obtain ⟨A_0, A_1, A_2, A_3, A_4, A_5⟩ := (A).e6
    have A_f0 := (A).f 0
    have A_f1 := (A).f 1
    have A_f2 := (A).f 2
    have A_f3 := (A).f 3
    have A_f4 := (A).f 4
    have A_f5 := (A).f 5
    obtain ⟨B_0, B_1, B_2, B_3, B_4, B_5⟩ := (B).e6
    have B_f0 := (B).f 0
    have B_f1 := (B).f 1
    have B_f2 := (B).f 2
    have B_f3 := (B).f 3
    have B_f4 := (B).f 4
    have B_f5 := (B).f 5
    go_wp2_with fail
    ((with_reducible refine (HC _ ha hb ha' hb' hT).out.mono ?_))
    clear A_0 A_1 A_2 A_3 A_4 A_5 B_0 B_1 B_2 B_3 B_4 B_5
    rintro e2 w2 ⟨rfl, hb2⟩
    replace hb2 : Below W1.heap.size W1 w2 := (below_lay1 W1 _).trans (hb2.mono (by omega))
    have hs2 := hs1.trans (hb2.mono hs1.size)
    replace A := A.past hb2
    replace B := B.past hb2
    replace R := R.past hb2
    replace RT := RT.past hb2
    replace ha := ha.past hb2
    replace hb := hb.past hb2
    replace ha' := ha'.past hb2
    replace hb' := hb'.past hb2
    replace hT := hT.past hb2
    go_upto_region 4 with (fail)
    have hzd : w2.drew.heap.size = w2.heap.size := rfl
    have HZD := Lib.hid hzd
    clear hzd
    have hzb : w.heap.size ≤ w2.drew.heap.size := hs2.size
    go_region_held3 (fun w' => (w'.cell? ⟨w.heap.size, 0, none⟩ = some (.bool a.g) ∧ w'.cell? ⟨w.heap.size, 1, none⟩ = some (.slice a.p a.xs.length a.c) ∧ w'.cell? ⟨w.heap.size, 2, none⟩ = some (.int .i64 a.e) ∧ w'.cell? ⟨w.heap.size, 3, none⟩ = some (.bool b.g) ∧ w'.cell? ⟨w.heap.size, 4, none⟩ = some (.slice b.p b.xs.length b.c) ∧ w'.cell? ⟨w.heap.size, 5, none⟩ = some (.int .i64 b.e)) ∧
        (w'.cell? ⟨w.heap.size + 1, 0, none⟩ = some (.bool a'.g) ∧ w'.cell? ⟨w.heap.size + 1, 1, none⟩ = some (.slice a'.p a'.xs.length a'.c) ∧ w'.cell? ⟨w.heap.size + 1, 2, none⟩ = some (.int .i64 a'.e) ∧ w'.cell? ⟨w.heap.size + 1, 3, none⟩ = some (.bool b'.g) ∧ w'.cell? ⟨w.heap.size + 1, 4, none⟩ = some (.slice b'.p b'.xs.length b'.c) ∧ w'.cell? ⟨w.heap.size + 1, 5, none⟩ = some (.int .i64 b'.e)))
      (first
        | with_reducible exact ⟨A.e6, B.e6⟩
        | with_reducible exact ⟨A.drew.e6, B.drew.e6⟩
        | with_reducible exact ⟨(A.drew.past hbx).e6, (B.drew.past hbx).e6⟩
        | with_reducible exact ⟨((A.drew.past hbx).past hby).e6, ((B.drew.past hbx).past hby).e6⟩
        | with_reducible exact ⟨(((A.drew.past hbx).past hby).past hbz).e6, (((B.drew.past hbx).past hby).past hbz).e6⟩
        | with_reducible exact ⟨((((A.drew.past hbx).past hby).past hbz).past hbt).e6, ((((B.drew.past hbx).past hby).past hbz).past hbt).e6⟩
        | with_reducible exact ⟨(((((A.drew.past hbx).past hby).past hbz).past hbt).only (only6 _ _ _ _ _ _ _ _) (by omega)).e6, (((((B.drew.past hbx).past hby).past hbz).past hbt).only (only6 _ _ _ _ _ _ _ _) (by omega)).e6⟩)
      (first
        | (go_at_call_of 50 (Value.agg #[.bool a.g, .slice a.p a.xs.length a.c, .int .i64 a.e, .bool b.g, .slice b.p b.xs.length b.c, .int .i64 b.e]); ((with_reducible refine (HOA _ ha.drew hb.drew hT.drew).out.mono ?_)); rintro ex wx ⟨px, cx, qx, dx, rfl, hox, hqx, hbx⟩)
        | (go_at_call_of 50 (Value.agg #[.bool a'.g, .slice a'.p a'.xs.length a'.c, .int .i64 a'.e, .bool b'.g, .slice b'.p b'.xs.length b'.c, .int .i64 b'.e]); ((with_reducible refine (HOB _ (ha'.drew.past hbx) (hb'.drew.past hbx) (hT.drew.past hbx)).out.mono ?_)); rintro ey wy ⟨py, cy, qy, dy, rfl, hoy, hqy, hby⟩)
        | (go_at_call 35; ((with_reducible refine (rawDoneD_any rl rh pz qz cz dz _ _ hoz hqz f1 f2).mono ?_)); rintro et wt ⟨pt, ct, qt, dt, rfl, hot, hqt, hbt⟩; (have RR := (((R.drew.past hbx).past hby).past hbz).past hbt); obtain ⟨R_0, R_1, R_2, R_3, R_4, R_5⟩ := RR.e6; (have R_f0 := RR.f 0); (have R_f1 := RR.f 1); (have R_f2 := RR.f 2); (have R_f3 := RR.f 3); (have R_f4 := RR.f 4); have R_f5 := RR.f 5)
        | (go_at_call 58; ((with_reducible refine (HFH.out _ ⟨va.neg, px, cx, va.m, va.e⟩ ⟨vb.neg, qx, dx, vb.m, vb.e⟩ ⟨va'.neg, py, cy, va'.m, va'.e⟩ ⟨vb'.neg, qy, dy, vb'.m, vb'.e⟩ rfl rfl rfl rfl (HSa _ _) (HSb _ _) (HSa' _ _) (HSb' _ _) w2.drew.heap.size (HWa _ _ _ _ (hox.past hby)) (HWb _ _ _ _ (hqx.past hby)) (HWa' _ _ _ _ (hoy.mono hbx.size)) (HWb' _ _ _ _ (hqy.mono hbx.size)) ((hT.drew.past hbx).past hby) (Nat.le_trans hbx.size hby.size)).mono ?_)); rintro ez wz ⟨pz, cz, qz, dz, rfl, hoz, hqz, hbz⟩))
    all_goals (go_wp2_with fail)
    all_goals (refine bodyPost_ret (v := .tuple #[.agg #[.bool (doneL rl rh).neg, .slice pt (dig B32 (doneL rl rh).m).length ct, .int .i64 (doneL rl rh).e, .bool (doneH rl rh).neg, .slice qt (dig B32 (doneH rl rh).m).length dt, .int .i64 (doneH rl rh).e], .int .i64 (errB rl rh)]) (by simp [results, Tryd.results57, go_sem, R_0, R_1, R_2, R_3, R_4, R_5]) rfl ?_)
    rw [HE.out, HL.out, HH.out]
    have y2 := Nat.le_trans hs2.size hbx.size
    have y3 := Nat.le_trans y2 hby.size
    have y4 := Nat.le_trans y3 hbz.size
    exact givesBE_put ((((hs2.drew.trans (hbx.mono hs2.size)).trans (hby.mono y2)).trans (hbz.mono y3)).trans (hbt.mono y4)) (hot.mono hzb) (hqt.mono hzb) (by omega) ((((RT.drew.past hbx).past hby).past hbz).past hbt)
  · have t1 : (ec == 0) = false := beq_eq_false_iff_ne.2 h0
    have t2 : (ec != 0) = true := by rw [bne, t1]; rfl
    rw [if_neg h0] at HE HL HH
    clear HF HOK h0
    go_enter Tryd.func57, Tryd.ntmps57
    go_upto_region 1 with (fail)
    refine wp_layT3 (fun W1 hs1 hz1 A B R RT => ?_)
    replace ha := ha.past hs1
    replace hb := hb.past hs1
    replace ha' := ha'.past hs1
    replace hb' := hb'.past hs1
    replace hT := hT.past hs1
    obtain ⟨A_0, A_1, A_2, A_3, A_4, A_5⟩ := (A).e6
    have A_f0 := (A).f 0
    have A_f1 := (A).f 1
    have A_f2 := (A).f 2
    have A_f3 := (A).f 3
    have A_f4 := (A).f 4
    have A_f5 := (A).f 5
    obtain ⟨B_0, B_1, B_2, B_3, B_4, B_5⟩ := (B).e6
    have B_f0 := (B).f 0
    have B_f1 := (B).f 1
    have B_f2 := (B).f 2
    have B_f3 := (B).f 3
    have B_f4 := (B).f 4
    have B_f5 := (B).f 5
    go_wp2_with fail
    ((with_reducible refine (HC _ ha hb ha' hb' hT).out.mono ?_))
    clear A_0 A_1 A_2 A_3 A_4 A_5 B_0 B_1 B_2 B_3 B_4 B_5
    rintro e2 w2 ⟨rfl, hb2⟩
    replace hb2 : Below W1.heap.size W1 w2 := (below_lay1 W1 _).trans (hb2.mono (by omega))
    have hs2 := hs1.trans (hb2.mono hs1.size)
    replace R := R.past hb2
    obtain ⟨R_0, R_1, R_2, R_3, R_4, R_5⟩ := (R).e6
    have R_f0 := (R).f 0
    have R_f1 := (R).f 1
    have R_f2 := (R).f 2
    have R_f3 := (R).f 3
    have R_f4 := (R).f 4
    have R_f5 := (R).f 5
    go_wp2_with fail
    refine bodyPost_ret (v := .tuple #[.agg #[.bool false, .slice none 0 0, .int .i64 0, .bool false, .slice none 0 0, .int .i64 0], .int .i64 ec]) (by simp [results, Tryd.results57, go_sem, R_0, R_1, R_2, R_3, R_4, R_5]) rfl ?_
    rw [HE.out, HL.out, HH.out]
    exact givesBE_zero hs2 (by omega)

end Go.Proofs.YtehodhanojgkgaaDoor
