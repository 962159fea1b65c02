/- dyad: two, where both are well formed; Add, Mul. -/
import Derived.Test.YtcbjidcpcompoaaDoorZDyad8
import Derived.Test.YtcbjidcpcompoaaDoorZE
import Derived.Test.YtcbjidcpcompoaaDoorZA
namespace Go.Proofs.YtcbjidcpcompoaaDoor
open Go.RowKit Go.Slip

/-- What a dyad that came in stands for. -/
def dyV (a : Din) : Dv := bare ⟨a.g, val B32 a.xs, a.e⟩

theorem dyV_bare (a : Din) : Bare (dyV a) := bare_bare _

/-- A dyad that came in, as the walks ask for it. -/
structure InD (w : World) (a : Din) : Prop where
  rd : Rd w .u32 a.p a.xs
  cap : a.xs.length ≤ a.c
  len : a.xs.length ≤ 9223372036854775807
  lt : ∀ x ∈ a.xs, x < B32

theorem InD.past {w w' : World} {a : Din} (h : InD w a) (hb : Below w.heap.size w w') : InD w' a := ⟨h.rd.past hb, h.cap, h.len, h.lt⟩
theorem InD.laid {w : World} {a : Din} (h : InD w a) (o : Obj) : InD (w.alloc o) a := ⟨h.rd.laid o, h.cap, h.len, h.lt⟩
theorem InD.drew {w : World} {a : Din} (h : InD w a) : InD w.drew a := ⟨h.rd.drew, h.cap, h.len, h.lt⟩

/-- Where nothing is wrong with it. -/
theorem InD.ok {w : World} {a : Din} (h : InD w a) (he : errDy a = 0) : ∃ m, a.xs = dig B32 m ∧ val B32 a.xs = m ∧ (dig B32 m).length ≤ 1200 ∧ -20000 ≤ a.e ∧ a.e ≤ 20000 := by
  unfold errDy at he
  by_cases h1 : errNat a.xs = 0
  · rw [if_pos h1] at he
    obtain ⟨h2, h3⟩ := errNat_ok h.lt h1
    refine ⟨_, h2, rfl, by rw [← h2]; exact h3, ?_⟩
    by_cases h4 : a.e < -20000 ∨ 20000 < a.e
    · rw [if_pos h4] at he; simp at he
    · omega
  · rw [if_neg h1] at he; exact absurd he h1

theorem errDy2_ok {a b : Din} (h : errDy2 a b = 0) : errDy a = 0 ∧ errDy b = 0 := by
  unfold errDy2 at h
  by_cases h1 : errDy a = 0
  · rw [if_pos h1] at h; exact ⟨h1, h⟩
  · rw [if_neg h1] at h; exact absurd h h1

/-- Its length and its exponent. -/
theorem dyV_bd {w : World} {a : Din} (h : InD w a) (he : errDy a = 0) : (dig B32 (dyV a).m).length ≤ 1200 ∧ -20000 ≤ (dyV a).e ∧ (dyV a).e ≤ 58400 := by
  obtain ⟨m, _, hv, hl, h1, h2⟩ := h.ok he
  unfold dyV
  rw [hv]
  refine ⟨Nat.le_trans (bare_len B32_two _) hl, ?_⟩
  have := bare_e ⟨a.g, m, a.e⟩ (n := 1200) hl h1 h2 (by omega) (by omega)
  omega

/-- What a call on two tells. -/
def errTwo (a b : Din) (r : Dv) : Int := if errDy2 a b = 0 then errD r else errDy2 a b
def doneTwo (a b : Din) (r : Dv) : Dv := if errDy2 a b = 0 then doneD r else ⟨false, 0, 0⟩

theorem GivesDE.mono {w w' : World} {base base' : Nat} {d : Dv} {er : Int} {en : Ending} (h : GivesDE w base d er en w') (hb : base' ≤ base) : GivesDE w base' d er en w' := by
  obtain ⟨p, c, h1, h2, h3⟩ := h
  exact ⟨p, c, h1, h2.mono hb, h3⟩



set_option maxHeartbeats 2000000 in
set_option maxRecDepth 100000 in
theorem twoPlus_good (a b : Din) (w : World) (ha : InD w a) (hb : InD w b) (he : errDy2 a b = 0) (hT : TabW w) :
    Calls Tryd.prog 35 #[.agg #[.bool a.g, .slice a.p a.xs.length a.c, .int .i64 a.e], .agg #[.bool b.g, .slice b.p b.xs.length b.c, .int .i64 b.e], .func (.func 36) #[] #[]] w (GivesDE w w.heap.size (doneD (pPlus (dyV a) (dyV b))) (errD (pPlus (dyV a) (dyV b)))) := by
  obtain ⟨W1, hW1, hs1, A1, B1, R1, hz1⟩ := box3s w (.bool a.g) (.slice a.p a.xs.length a.c) (.int .i64 a.e) (.bool b.g) (.slice b.p b.xs.length b.c) (.int .i64 b.e) (.bool false) (.slice none 0 0) (.int .i64 0) 25 25 25
  obtain ⟨hla, hea, hea2⟩ := dyV_bd ha (errDy2_ok he).1
  obtain ⟨hlb, heb, heb2⟩ := dyV_bd hb (errDy2_ok he).2
  obtain ⟨ma, exa, eva, la, e1a, e2a⟩ := ha.ok (errDy2_ok he).1
  obtain ⟨mb, exb, evb, lb, e1b, e2b⟩ := hb.ok (errDy2_ok he).2
  have ha1 := ha.past hs1
  have hb1 := hb.past hs1
  have hT1 := hT.past hs1
  have HE := Lib.hid he
  have HVA := Lib.hid (show bare ⟨a.g, ma, a.e⟩ = dyV a by unfold dyV; rw [eva])
  have HVB := Lib.hid (show bare ⟨b.g, mb, b.e⟩ = dyV b by unfold dyV; rw [evb])
  have HXA := Lib.hid exa
  have HXB := Lib.hid exb
  have hca := ha.cap
  have hcb := hb.cap
  have HLen := Lib.hid (show (dig B32 (pPlus (dyV a) (dyV b)).m).length ≤ 1000000 by have := pPlus_len (a := dyV a) (b := dyV b) hla hlb hea hea2 heb heb2; omega)
  clear he exa eva exb evb
  generalize dyV a = va at *
  generalize dyV b = vb at *
  obtain ⟨ga, na, fa⟩ := va
  obtain ⟨gb, nb, fb⟩ := vb
  obtain ⟨⟨gr, nr, fr⟩, hr⟩ : ∃ r, pPlus ⟨ga, na, fa⟩ ⟨gb, nb, fb⟩ = r := ⟨_, rfl⟩
  rw [hr] at HLen ⊢
  have HR := Lib.hid hr
  have lr := HLen.out
  clear hr
  simp only at hla hea hea2 hlb heb heb2 lr
  have HW1 := Lib.hid hW1
  clear hW1
  go_enter Tryd.func35, Tryd.ntmps35
  go_wp2_with fail
  rw [← HW1.out]
  ((with_reducible refine (dyCheck2_new a b _ _ hz1.symm ha1.rd ha1.len hb1.rd hb1.len).mono ?_))
  rintro e2 w2 ⟨rfl, hb2⟩
  rw [HE.out]
  have hb3 : Below W1.heap.size W1 w2 := ((Below.refl _ _).alloc (Nat.le_refl _) _).trans (hb2.mono (by simp))
  have hs2 := hs1.trans (hb3.mono hs1.size)
  replace A1 := A1.past hb3
  replace B1 := B1.past hb3
  replace R1 := R1.past hb3
  replace ha1 := ha1.past hb3
  replace hb1 := hb1.past hb3
  replace hT1 := hT1.past hb3
  clear hb2 HW1 hs1 hb3
  have ra1 : Rd w2 .u32 a.p (dig B32 ma) := by rw [← HXA.out]; exact ha1.rd
  have rb1 : Rd w2 .u32 b.p (dig B32 mb) := by rw [← HXB.out]; exact hb1.rd
  go_wp2_with fail
  go_region_held3 (fun w' => (w'.cell? ⟨w.heap.size, 0, none⟩ = some (.bool a.g) ∧ w'.cell? ⟨w.heap.size, 1, none⟩ = some (.slice a.p a.xs.length a.c) ∧ w'.cell? ⟨w.heap.size, 2, none⟩ = some (.int .i64 a.e)) ∧
      (w'.cell? ⟨w.heap.size + 1, 0, none⟩ = some (.bool b.g) ∧ w'.cell? ⟨w.heap.size + 1, 1, none⟩ = some (.slice b.p b.xs.length b.c) ∧ w'.cell? ⟨w.heap.size + 1, 2, none⟩ = some (.int .i64 b.e)))
    (first | exact ⟨⟨A1.c0, A1.c1, A1.c2⟩, B1.c0, B1.c1, B1.c2⟩
           | (have D1 := A1.drew; have D2 := B1.drew; exact ⟨⟨D1.c0, D1.c1, D1.c2⟩, D2.c0, D2.c1, D2.c2⟩)
           | (have D1 := (A1.drew.past hbx).past hby; have D2 := (B1.drew.past hbx).past hby; exact ⟨⟨D1.c0, D1.c1, D1.c2⟩, D2.c0, D2.c1, D2.c2⟩)
           | (have D1 := (A1.drew.past hby).past hbx; have D2 := (B1.drew.past hby).past hbx; exact ⟨⟨D1.c0, D1.c1, D1.c2⟩, D2.c0, D2.c1, D2.c2⟩)
           | (have D1 := A1.drew.past hbx; have D2 := B1.drew.past hbx; exact ⟨⟨D1.c0, D1.c1, D1.c2⟩, D2.c0, D2.c1, D2.c2⟩)
           | (have D1 := A1.drew.past hby; have D2 := B1.drew.past hby; exact ⟨⟨D1.c0, D1.c1, D1.c2⟩, D2.c0, D2.c1, D2.c2⟩)
           | exact ⟨⟨A5.c0, A5.c1, A5.c2⟩, B5.c0, B5.c1, B5.c2⟩
           | exact ⟨⟨A6.c0, A6.c1, A6.c2⟩, B6.c0, B6.c1, B6.c2⟩
           | exact ⟨⟨(((A6.set (by omega)).set (by omega)).set (by omega)).c0, (((A6.set (by omega)).set (by omega)).set (by omega)).c1, (((A6.set (by omega)).set (by omega)).set (by omega)).c2⟩, (((B6.set (by omega)).set (by omega)).set (by omega)).c0, (((B6.set (by omega)).set (by omega)).set (by omega)).c1, (((B6.set (by omega)).set (by omega)).set (by omega)).c2⟩)
    (first
      | (go_at_call_of 46 (Value.agg #[.bool a.g, .slice a.p a.xs.length a.c, .int .i64 a.e]); refine (ofD_any a.g a.p _ a.c a.e ma _ ?_ (by rw [HXA.out]) hca (by omega) (by omega) ?_).mono ?_; (first | exact ra1.drew | exact ra1.drew.past hby); (first | exact hT1.drew | exact hT1.drew.past hby); rw [HVA.out]; rintro ex wx ⟨px, cx, rfl, hox, hbx⟩)
      | (go_at_call_of 46 (Value.agg #[.bool b.g, .slice b.p b.xs.length b.c, .int .i64 b.e]); refine (ofD_any b.g b.p _ b.c b.e mb _ ?_ (by rw [HXB.out]) hcb (by omega) (by omega) ?_).mono ?_; (first | exact rb1.drew | exact rb1.drew.past hbx); (first | exact hT1.drew | exact hT1.drew.past hbx); rw [HVB.out]; rintro ey wy ⟨py, cy, rfl, hoy, hby⟩)
      | (go_at_call 36; (have hzx := hbx.size); (have hzy := hby.size); ((refine (plusD_any ga gb px py _ cx _ cy w2.drew.heap.size fa fb na nb _ ?_ ?_ rfl rfl (by omega) (by omega) (by omega) (by omega) ?_ (by omega)).mono ?_; (first | exact hox.past hby | exact hox.mono hby.size); (first | exact hoy.mono hbx.size | exact hoy.past hbx); (first | exact (hT1.drew.past hbx).past hby | exact (hT1.drew.past hby).past hbx)); rw [HR.out]; rintro e5 w5 ⟨p5, c5, rfl, ho5, hb5⟩); (first
          | (have hs5 := ((hs2.drew.trans (hbx.mono hs2.size)).trans (hby.mono (Nat.le_trans hs2.size hbx.size))).trans (hb5.mono (Nat.le_trans (Nat.le_trans hs2.size hbx.size) hby.size)); have A5 := ((A1.drew.past hbx).past hby).past hb5; have B5 := ((B1.drew.past hbx).past hby).past hb5; have R5 := ((R1.drew.past hbx).past hby).past hb5)
          | (have hs5 := ((hs2.drew.trans (hby.mono hs2.size)).trans (hbx.mono (Nat.le_trans hs2.size hby.size))).trans (hb5.mono (Nat.le_trans (Nat.le_trans hs2.size hby.size) hbx.size)); have A5 := ((A1.drew.past hby).past hbx).past hb5; have B5 := ((B1.drew.past hby).past hbx).past hb5; have R5 := ((R1.drew.past hby).past hbx).past hb5)))
      | (go_at_call 47; refine (doneR_any gr p5 _ c5 _ fr nr _ ho5 rfl (by omega)).mono ?_; rintro e6 w6 ⟨p6, c6, rfl, ho6, hb6⟩; (have A6 := A5.past hb6); (have B6 := B5.past hb6); (have R6 := R5.past hb6); (have hs6 := hs5.trans (hb6.mono hs5.size)); obtain ⟨d0, d1, d2, f0, f1, f2, dlt⟩ := R6))
  all_goals (go_wp2_with fail)
  all_goals (refine bodyPost_ret (v := .tuple #[.agg #[.bool (doneD ⟨gr, nr, fr⟩).neg, .slice p6 (dig B32 (doneD ⟨gr, nr, fr⟩).m).length c6, .int .i64 (doneD ⟨gr, nr, fr⟩).e], .int .i64 (errD ⟨gr, nr, fr⟩)]) (by simp [results, Tryd.results35, go_sem, d0, d1, d2]) rfl ?_)
  all_goals (have hzR := R1.lt; have hzd : w2.drew.heap.size = w2.heap.size := rfl; have hzs := hs2.size)
  all_goals (exact givesDE_close hs6 ho6 (by omega) (by omega) (fun h => by have := (ho6.blk_lt h).1; omega))

set_option maxHeartbeats 1000000 in
theorem dyAdd_any (a b : Din) (w : World) (ha : InD w a) (hb : InD w b) (hT : TabW w) :
    Calls Tryd.prog 13 #[.agg #[.bool a.g, .slice a.p a.xs.length a.c, .int .i64 a.e], .agg #[.bool b.g, .slice b.p b.xs.length b.c, .int .i64 b.e]] w (GivesDE w w.heap.size (doneTwo a b (pPlus (dyV a) (dyV b))) (errTwo a b (pPlus (dyV a) (dyV b)))) := by
  obtain ⟨W1, hW1, hs1, A1, B1, R1, hz1⟩ := box3s w (.bool a.g) (.slice a.p a.xs.length a.c) (.int .i64 a.e) (.bool b.g) (.slice b.p b.xs.length b.c) (.int .i64 b.e) (.bool false) (.slice none 0 0) (.int .i64 0) 25 25 25
  have HC : Calls Tryd.prog 35 #[.agg #[.bool a.g, .slice a.p a.xs.length a.c, .int .i64 a.e], .agg #[.bool b.g, .slice b.p b.xs.length b.c, .int .i64 b.e], .func (.func 36) #[] #[]] W1 (GivesDE W1 W1.heap.size (doneTwo a b (pPlus (dyV a) (dyV b))) (errTwo a b (pPlus (dyV a) (dyV b)))) := by
    unfold doneTwo errTwo
    by_cases he : errDy2 a b = 0
    · rw [if_pos he, if_pos he]
      exact twoPlus_good a b W1 (ha.past hs1) (hb.past hs1) he (hT.past hs1)
    · rw [if_neg he, if_neg he]
      exact twoErr_any _ a b W1 (ha.past hs1).rd ha.len (hb.past hs1).rd hb.len he
  have HCC := Lib.hid HC
  have HW1 := Lib.hid hW1
  generalize doneTwo a b (pPlus (dyV a) (dyV b)) = dv at *
  generalize errTwo a b (pPlus (dyV a) (dyV b)) = er at *
  clear hW1 HC
  go_enter Tryd.func13, Tryd.ntmps13
  go_wp2_with fail
  rw [← HW1.out]
  ((with_reducible refine HCC.out.mono ?_))
  rintro e2 w2 ⟨p2, c2, rfl, ho2, hb2⟩
  obtain ⟨d0, d1, d2, f0, f1, f2, dlt⟩ := R1.past hb2
  go_wp2_with fail
  refine bodyPost_ret (v := .tuple #[.agg #[.bool dv.neg, .slice p2 (dig B32 dv.m).length c2, .int .i64 dv.e], .int .i64 er]) (by simp [results, Tryd.results13, go_sem, d0, d1, d2]) rfl ?_
  have hzR := R1.lt
  exact givesDE_close (hs1.trans (hb2.mono hs1.size)) ho2 (by omega) (by omega) (fun h => by have := (ho2.blk_lt h).1; omega)

set_option maxHeartbeats 2000000 in
set_option maxRecDepth 100000 in
theorem twoTimes_good (a b : Din) (w : World) (ha : InD w a) (hb : InD w b) (he : errDy2 a b = 0) (hT : TabW w) :
    Calls Tryd.prog 35 #[.agg #[.bool a.g, .slice a.p a.xs.length a.c, .int .i64 a.e], .agg #[.bool b.g, .slice b.p b.xs.length b.c, .int .i64 b.e], .func (.func 54) #[] #[]] w (GivesDE w w.heap.size (doneD (dTimes (dyV a) (dyV b))) (errD (dTimes (dyV a) (dyV b)))) := by
  obtain ⟨W1, hW1, hs1, A1, B1, R1, hz1⟩ := box3s w (.bool a.g) (.slice a.p a.xs.length a.c) (.int .i64 a.e) (.bool b.g) (.slice b.p b.xs.length b.c) (.int .i64 b.e) (.bool false) (.slice none 0 0) (.int .i64 0) 25 25 25
  obtain ⟨hla, hea, hea2⟩ := dyV_bd ha (errDy2_ok he).1
  obtain ⟨hlb, heb, heb2⟩ := dyV_bd hb (errDy2_ok he).2
  obtain ⟨ma, exa, eva, la, e1a, e2a⟩ := ha.ok (errDy2_ok he).1
  obtain ⟨mb, exb, evb, lb, e1b, e2b⟩ := hb.ok (errDy2_ok he).2
  have ha1 := ha.past hs1
  have hb1 := hb.past hs1
  have hT1 := hT.past hs1
  have HE := Lib.hid he
  have HVA := Lib.hid (show bare ⟨a.g, ma, a.e⟩ = dyV a by unfold dyV; rw [eva])
  have HVB := Lib.hid (show bare ⟨b.g, mb, b.e⟩ = dyV b by unfold dyV; rw [evb])
  have HXA := Lib.hid exa
  have HXB := Lib.hid exb
  have hca := ha.cap
  have hcb := hb.cap
  have HLen := Lib.hid (show (dig B32 (dTimes (dyV a) (dyV b)).m).length ≤ 1000000 by have := dTimes_len (dyV a) (dyV b); omega)
  clear he exa eva exb evb
  generalize dyV a = va at *
  generalize dyV b = vb at *
  obtain ⟨ga, na, fa⟩ := va
  obtain ⟨gb, nb, fb⟩ := vb
  obtain ⟨⟨gr, nr, fr⟩, hr⟩ : ∃ r, dTimes ⟨ga, na, fa⟩ ⟨gb, nb, fb⟩ = r := ⟨_, rfl⟩
  rw [hr] at HLen ⊢
  have HR := Lib.hid hr
  have lr := HLen.out
  clear hr
  simp only at hla hea hea2 hlb heb heb2 lr
  have HW1 := Lib.hid hW1
  clear hW1
  go_enter Tryd.func35, Tryd.ntmps35
  go_wp2_with fail
  rw [← HW1.out]
  ((with_reducible refine (dyCheck2_new a b _ _ hz1.symm ha1.rd ha1.len hb1.rd hb1.len).mono ?_))
  rintro e2 w2 ⟨rfl, hb2⟩
  rw [HE.out]
  have hb3 : Below W1.heap.size W1 w2 := ((Below.refl _ _).alloc (Nat.le_refl _) _).trans (hb2.mono (by simp))
  have hs2 := hs1.trans (hb3.mono hs1.size)
  replace A1 := A1.past hb3
  replace B1 := B1.past hb3
  replace R1 := R1.past hb3
  replace ha1 := ha1.past hb3
  replace hb1 := hb1.past hb3
  replace hT1 := hT1.past hb3
  clear hb2 HW1 hs1 hb3
  have ra1 : Rd w2 .u32 a.p (dig B32 ma) := by rw [← HXA.out]; exact ha1.rd
  have rb1 : Rd w2 .u32 b.p (dig B32 mb) := by rw [← HXB.out]; exact hb1.rd
  go_wp2_with fail
  go_region_held3 (fun w' => (w'.cell? ⟨w.heap.size, 0, none⟩ = some (.bool a.g) ∧ w'.cell? ⟨w.heap.size, 1, none⟩ = some (.slice a.p a.xs.length a.c) ∧ w'.cell? ⟨w.heap.size, 2, none⟩ = some (.int .i64 a.e)) ∧
      (w'.cell? ⟨w.heap.size + 1, 0, none⟩ = some (.bool b.g) ∧ w'.cell? ⟨w.heap.size + 1, 1, none⟩ = some (.slice b.p b.xs.length b.c) ∧ w'.cell? ⟨w.heap.size + 1, 2, none⟩ = some (.int .i64 b.e)))
    (first | exact ⟨⟨A1.c0, A1.c1, A1.c2⟩, B1.c0, B1.c1, B1.c2⟩
           | (have D1 := A1.drew; have D2 := B1.drew; exact ⟨⟨D1.c0, D1.c1, D1.c2⟩, D2.c0, D2.c1, D2.c2⟩)
           | (have D1 := (A1.drew.past hbx).past hby; have D2 := (B1.drew.past hbx).past hby; exact ⟨⟨D1.c0, D1.c1, D1.c2⟩, D2.c0, D2.c1, D2.c2⟩)
           | (have D1 := (A1.drew.past hby).past hbx; have D2 := (B1.drew.past hby).past hbx; exact ⟨⟨D1.c0, D1.c1, D1.c2⟩, D2.c0, D2.c1, D2.c2⟩)
           | (have D1 := A1.drew.past hbx; have D2 := B1.drew.past hbx; exact ⟨⟨D1.c0, D1.c1, D1.c2⟩, D2.c0, D2.c1, D2.c2⟩)
           | (have D1 := A1.drew.past hby; have D2 := B1.drew.past hby; exact ⟨⟨D1.c0, D1.c1, D1.c2⟩, D2.c0, D2.c1, D2.c2⟩)
           | exact ⟨⟨A5.c0, A5.c1, A5.c2⟩, B5.c0, B5.c1, B5.c2⟩
           | exact ⟨⟨A6.c0, A6.c1, A6.c2⟩, B6.c0, B6.c1, B6.c2⟩
           | exact ⟨⟨(((A6.set (by omega)).set (by omega)).set (by omega)).c0, (((A6.set (by omega)).set (by omega)).set (by omega)).c1, (((A6.set (by omega)).set (by omega)).set (by omega)).c2⟩, (((B6.set (by omega)).set (by omega)).set (by omega)).c0, (((B6.set (by omega)).set (by omega)).set (by omega)).c1, (((B6.set (by omega)).set (by omega)).set (by omega)).c2⟩)
    (first
      | (go_at_call_of 46 (Value.agg #[.bool a.g, .slice a.p a.xs.length a.c, .int .i64 a.e]); refine (ofD_any a.g a.p _ a.c a.e ma _ ?_ (by rw [HXA.out]) hca (by omega) (by omega) ?_).mono ?_; (first | exact ra1.drew | exact ra1.drew.past hby); (first | exact hT1.drew | exact hT1.drew.past hby); rw [HVA.out]; rintro ex wx ⟨px, cx, rfl, hox, hbx⟩)
      | (go_at_call_of 46 (Value.agg #[.bool b.g, .slice b.p b.xs.length b.c, .int .i64 b.e]); refine (ofD_any b.g b.p _ b.c b.e mb _ ?_ (by rw [HXB.out]) hcb (by omega) (by omega) ?_).mono ?_; (first | exact rb1.drew | exact rb1.drew.past hbx); (first | exact hT1.drew | exact hT1.drew.past hbx); rw [HVB.out]; rintro ey wy ⟨py, cy, rfl, hoy, hby⟩)
      | (go_at_call 54; (have hzx := hbx.size); (have hzy := hby.size); ((refine (timesD_any ga gb px py _ cx _ cy w2.drew.heap.size fa fb na nb _ ?_ ?_ rfl rfl (by omega) (by omega) (by omega) (by omega) ?_ ).mono ?_; (first | exact hox.past hby | exact hox.mono hby.size); (first | exact hoy.mono hbx.size | exact hoy.past hbx); (first | exact (hT1.drew.past hbx).past hby | exact (hT1.drew.past hby).past hbx)); rw [HR.out]; rintro e5 w5 ⟨p5, c5, rfl, ho5, hb5⟩); (first
          | (have hs5 := ((hs2.drew.trans (hbx.mono hs2.size)).trans (hby.mono (Nat.le_trans hs2.size hbx.size))).trans (hb5.mono (Nat.le_trans (Nat.le_trans hs2.size hbx.size) hby.size)); have A5 := ((A1.drew.past hbx).past hby).past hb5; have B5 := ((B1.drew.past hbx).past hby).past hb5; have R5 := ((R1.drew.past hbx).past hby).past hb5)
          | (have hs5 := ((hs2.drew.trans (hby.mono hs2.size)).trans (hbx.mono (Nat.le_trans hs2.size hby.size))).trans (hb5.mono (Nat.le_trans (Nat.le_trans hs2.size hby.size) hbx.size)); have A5 := ((A1.drew.past hby).past hbx).past hb5; have B5 := ((B1.drew.past hby).past hbx).past hb5; have R5 := ((R1.drew.past hby).past hbx).past hb5)))
      | (go_at_call 47; refine (doneR_any gr p5 _ c5 _ fr nr _ ho5 rfl (by omega)).mono ?_; rintro e6 w6 ⟨p6, c6, rfl, ho6, hb6⟩; (have A6 := A5.past hb6); (have B6 := B5.past hb6); (have R6 := R5.past hb6); (have hs6 := hs5.trans (hb6.mono hs5.size)); obtain ⟨d0, d1, d2, f0, f1, f2, dlt⟩ := R6))
  all_goals (go_wp2_with fail)
  all_goals (refine bodyPost_ret (v := .tuple #[.agg #[.bool (doneD ⟨gr, nr, fr⟩).neg, .slice p6 (dig B32 (doneD ⟨gr, nr, fr⟩).m).length c6, .int .i64 (doneD ⟨gr, nr, fr⟩).e], .int .i64 (errD ⟨gr, nr, fr⟩)]) (by simp [results, Tryd.results35, go_sem, d0, d1, d2]) rfl ?_)
  all_goals (have hzR := R1.lt; have hzd : w2.drew.heap.size = w2.heap.size := rfl; have hzs := hs2.size)
  all_goals (exact givesDE_close hs6 ho6 (by omega) (by omega) (fun h => by have := (ho6.blk_lt h).1; omega))

set_option maxHeartbeats 1000000 in
theorem dyMul_any (a b : Din) (w : World) (ha : InD w a) (hb : InD w b) (hT : TabW w) :
    Calls Tryd.prog 27 #[.agg #[.bool a.g, .slice a.p a.xs.length a.c, .int .i64 a.e], .agg #[.bool b.g, .slice b.p b.xs.length b.c, .int .i64 b.e]] w (GivesDE w w.heap.size (doneTwo a b (dTimes (dyV a) (dyV b))) (errTwo a b (dTimes (dyV a) (dyV b)))) := by
  obtain ⟨W1, hW1, hs1, A1, B1, R1, hz1⟩ := box3s w (.bool a.g) (.slice a.p a.xs.length a.c) (.int .i64 a.e) (.bool b.g) (.slice b.p b.xs.length b.c) (.int .i64 b.e) (.bool false) (.slice none 0 0) (.int .i64 0) 25 25 25
  have HC : Calls Tryd.prog 35 #[.agg #[.bool a.g, .slice a.p a.xs.length a.c, .int .i64 a.e], .agg #[.bool b.g, .slice b.p b.xs.length b.c, .int .i64 b.e], .func (.func 54) #[] #[]] W1 (GivesDE W1 W1.heap.size (doneTwo a b (dTimes (dyV a) (dyV b))) (errTwo a b (dTimes (dyV a) (dyV b)))) := by
    unfold doneTwo errTwo
    by_cases he : errDy2 a b = 0
    · rw [if_pos he, if_pos he]
      exact twoTimes_good a b W1 (ha.past hs1) (hb.past hs1) he (hT.past hs1)
    · rw [if_neg he, if_neg he]
      exact twoErr_any _ a b W1 (ha.past hs1).rd ha.len (hb.past hs1).rd hb.len he
  have HCC := Lib.hid HC
  have HW1 := Lib.hid hW1
  generalize doneTwo a b (dTimes (dyV a) (dyV b)) = dv at *
  generalize errTwo a b (dTimes (dyV a) (dyV b)) = er at *
  clear hW1 HC
  go_enter Tryd.func27, Tryd.ntmps27
  go_wp2_with fail
  rw [← HW1.out]
  ((with_reducible refine HCC.out.mono ?_))
  rintro e2 w2 ⟨p2, c2, rfl, ho2, hb2⟩
  obtain ⟨d0, d1, d2, f0, f1, f2, dlt⟩ := R1.past hb2
  go_wp2_with fail
  refine bodyPost_ret (v := .tuple #[.agg #[.bool dv.neg, .slice p2 (dig B32 dv.m).length c2, .int .i64 dv.e], .int .i64 er]) (by simp [results, Tryd.results27, go_sem, d0, d1, d2]) rfl ?_
  have hzR := R1.lt
  exact givesDE_close (hs1.trans (hb2.mono hs1.size)) ho2 (by omega) (by omega) (fun h => by have := (ho2.blk_lt h).1; omega)

end Go.Proofs.YtcbjidcpcompoaaDoor
