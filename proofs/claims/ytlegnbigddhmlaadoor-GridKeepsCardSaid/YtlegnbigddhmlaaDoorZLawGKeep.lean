/- The law GridKeeps: its walk. -/
import Derived.Test.YtlegnbigddhmlaaDoorZGd13
import Derived.Test.YtlegnbigddhmlaaDoorZF
import Derived.Test.YtlegnbigddhmlaaDoorZU
import Derived.Test.YtlegnbigddhmlaaDoorZLawG0
import Derived.Test.YtlegnbigddhmlaaDoorZChs
import Derived.Test.YtlegnbigddhmlaaDoorZSx2
namespace Go.Proofs.YtlegnbigddhmlaaDoor
open Go.RowKit Go.Slip

/-- A number that came, as one that is handed in. -/
def dinOf (d : Dv) (p : Option Addr) (c : Nat) : Din := ⟨d.neg, p, c, dig B32 d.m, d.e⟩

theorem dinOf_in {w : World} {base t : Nat} {d : Dv} {p : Option Addr} {c : Nat} (h : Own w base .u32 t p c (dig B32 d.m)) (hl : (dig B32 d.m).length ≤ 1000000) : InD w (dinOf d p c) :=
  ⟨h.rd, h.le_cap, by show (dig B32 d.m).length ≤ _; omega, dig_lt B32_two d.m⟩
theorem dinOf_good (d : Dv) (p : Option Addr) (c : Nat) (hB : Bare d) (h0 : errD d = 0) : errDy (dinOf d p c) = 0 ∧ dyV (dinOf d p c) = d := OutOf.good ⟨rfl, rfl, rfl⟩ hB h0

/-- The first half holds. -/
theorem keep_one {x : Din} {g : Gd} {w : World} (hx : InD w x) (h0 : errOn x g = 0) (hin : inGridD (dyV x) g = true) (k : Nat) (way : Int) (hw : 1 ≤ way ∧ way ≤ 5) :
    rokB ⟨x.g, x.p, x.c, x.xs, some ⟨k, 0, none⟩, 1, [1], x.e⟩ g way = true ∧ rvalV ⟨x.g, x.p, x.c, x.xs, some ⟨k, 0, none⟩, 1, [1], x.e⟩ g way = dyV x ∧ errD (dyV x) = 0 := by
  obtain ⟨hd0, hg0⟩ := errOn_ok h0
  have G := goodG_of hg0
  have hxs : errNat x.xs = 0 := by
    unfold errDy at hd0
    by_cases h : errNat x.xs = 0
    · exact h
    · rw [if_neg h] at hd0; exact absurd hd0 h
  have hxe : ¬ (x.e < -20000 ∨ 20000 < x.e) := by
    unfold errDy at hd0
    rw [if_pos hxs] at hd0
    intro h; rw [if_pos h] at hd0; simp at hd0
  obtain ⟨k1, k2⟩ := keeps_rv (s := x.g) (m := val B32 x.xs) (e := x.e) (way := way) G hin
  have e1 : val B32 [1] = 1 := rfl
  have er : errRound ⟨x.g, x.p, x.c, x.xs, some ⟨k, 0, none⟩, 1, [1], x.e⟩ g way = 0 := by
    unfold errRound errRat
    simp only
    rw [if_neg (by rw [if_neg (by simp [hxs]), if_neg (by simp [errNat_lit (k := 1)]), if_neg (by simp; omega)]; simp), if_neg (by simp [hg0]), if_neg (by omega)]
  have ro : rokB ⟨x.g, x.p, x.c, x.xs, some ⟨k, 0, none⟩, 1, [1], x.e⟩ g way = true := by
    unfold rokB roundOf
    rw [if_pos er, decide_eq_true er, Bool.true_and]
    simp only [e1]
    exact k2
  refine ⟨ro, ?_, ?_⟩
  · unfold rvalV
    rw [if_pos ro]
    simp only [e1]
    exact k1
  · obtain ⟨l1, _, _⟩ := dyV_bd hx hd0
    obtain ⟨l2, l3⟩ := inGrid_e hg0 (dyV_bare x) hin
    exact errD_of l1 (by omega) (by omega)

/-- What was rounded the grid holds. -/
theorem keep_two {q : Rin} {g : Gd} {w : World} (hq : InR w q) {way : Int} (h : rokB q g way = true) (p : Option Addr) (c : Nat) :
    errOn (dinOf (rvalV q g way) p c) g = 0 ∧ holdsB (dinOf (rvalV q g way) p c) g = true ∧ (dig B32 (rvalV q g way).m).length ≤ 1200 := by
  have h1 : errRound q g way = 0 ∧ okP (roundOf q g way) g = true := by
    unfold rokB at h
    simp only [Bool.and_eq_true, decide_eq_true_eq] at h
    exact h
  obtain ⟨hd, hg, hw1, hw2, _, _, _, _⟩ := errRound_ok hq h1.1
  have G := goodG_of hg
  have h2 := h1.2
  unfold roundOf at h2
  rw [if_pos h1.1] at h2
  have hv : rvalV q g way = rv q.g (val B32 q.xs) (val B32 q.ys) q.e g way := by unfold rvalV; rw [if_pos h]
  have he := rv_errD (neg := q.g) (num := val B32 q.xs) (e := q.e) (way := way) hd hg h2
  have hi := rv_in (neg := q.g) (num := val B32 q.xs) (e := q.e) (way := way) hd G h2
  rw [← hv] at he hi
  have hB : Bare (rvalV q g way) := by rw [hv]; exact bare_bare _
  obtain ⟨g1, g2⟩ := dinOf_good (rvalV q g way) p c hB he
  have e0 : errOn (dinOf (rvalV q g way) p c) g = 0 := by unfold errOn; rw [if_pos g1, hg]
  refine ⟨e0, ?_, (errD_bd he).1⟩
  unfold holdsB
  rw [decide_eq_true e0, Bool.true_and, g2, keeps_eq hB G, hi]


theorem stay2 {P : Program} {f : FuncId} {args : Array Value} {w : World} {E : Ending} (h : Calls P f args w fun e w' => e = E ∧ w = w') : Calls P f args w fun e w' => e = E ∧ Below w.heap.size w w' :=
  h.mono fun e w' ⟨h1, h2⟩ => ⟨h1, by subst h2; exact Below.refl _ _⟩

set_option maxHeartbeats 8000000 in
set_option maxRecDepth 100000 in
theorem lawGKeep_row (x : Din) (q : Rin) (g : Gd) (way : Int) (w : World) (hx : InD w x) (hq : InR w q) (hway : -9223372036854775808 ≤ way ∧ way ≤ 9223372036854775807) (hT : TabW w) :
    Calls Tryd.prog 4 #[.agg #[.bool x.g, .slice x.p x.xs.length x.c, .int .i64 x.e], .agg #[.bool q.g, .slice q.p q.xs.length q.c, .slice q.q q.ys.length q.d, .int .i64 q.e], .agg #[.int .i64 g.rad, .int .i64 g.digs, .int .i64 g.lo, .int .i64 g.hi, .bool g.grad], .int .i64 way] w fun e w' => e = .returned (.bool true) ∧ Below w.heap.size w w' := by
  have HH := fun W h1 h2 => Lib.hid (holds_any x g W h1 h2)
  have HQ := fun W h1 h2 => Lib.hid (rounded_any q g way W h1 h2)
  by_cases h0 : errOn x g = 0
  · obtain ⟨hd0, hg0⟩ := errOn_ok h0
    have G := goodG_of hg0
    have hki := keeps_eq (dyV_bare x) G
    by_cases h1 : inGridD (dyV x) g = true
    · obtain ⟨hla, -, -⟩ := dyV_bd hx hd0
      have hw2 : 1 ≤ (1 : Int) + (chs way 5 : Int) ∧ (1 : Int) + (chs way 5 : Int) ≤ 5 := by have := chs_lt way 5 (by omega); omega
      have hk1 := fun k => keep_one hx h0 h1 k _ hw2
      have HC := fun W => Lib.hid (show Calls Tryd.prog 15 #[.int .i64 way, .int .i64 5] W (fun e w' => e = .returned (.int .i64 (chs way 5 : Nat)) ∧ Below W.heap.size W w') from stay2 (choose_any way 5 W hway (by omega) (by omega)))
      rw [show holdsB x g = true by unfold holdsB; rw [decide_eq_true h0, Bool.true_and, hki, h1], h0] at HH
      have HB := fun W h hT => Lib.hid (dyBare_any x W h hT)
      unfold doneOne errOne at HB
      rw [hd0] at HB
      simp only [if_true, doneD, (hk1 0).2.2] at HB
      have HR1 : ∀ W k (h : InD W x) (hb : Bt W k 46 #[.int .u32 1]) (hT : TabW W), Hid (Calls Tryd.prog 8 #[.agg #[.bool x.g, .slice x.p x.xs.length x.c, .slice (some ⟨k, 0, none⟩) 1 1, .int .i64 x.e], .agg #[.int .i64 g.rad, .int .i64 g.digs, .int .i64 g.lo, .int .i64 g.hi, .bool g.grad], .int .i64 (1 + (chs way 5 : Int))] W (GivesDB W W.heap.size (dyV x) true)) := fun W k h hb hT => by
        have r1 : Rd W .u32 (some ⟨k, 0, none⟩) [1] := rd_lit32 (k := 1) hb.bx
        have hR := rounded_any ⟨x.g, x.p, x.c, x.xs, some ⟨k, 0, none⟩, 1, [1], x.e⟩ g (1 + (chs way 5 : Int)) W ⟨h.rd, h.len, h.lt, r1, by simp, by simp [B32]⟩ hT
        rw [(hk1 k).1, (hk1 k).2.1] at hR
        exact Lib.hid hR
      have HSM := fun W p c q d (h1 : Rd W .u32 p (dig B32 (dyV x).m)) (h2 : Rd W .u32 q (dig B32 (dyV x).m)) => Lib.hid (refSameDyad_dec (dyV x).neg (dyV x).neg p q _ c _ d (dyV x).e (dyV x).e (dyV x).m (dyV x).m W h1 h2 rfl rfl (by omega) (by omega))
      simp only [decide_true] at HSM
      have hcw := chs_lt way 5 (by omega)
      generalize chs way 5 = cw at *
      clear hk1
      generalize dyV x = v at *
      by_cases hr : rokB q g way = true
      · have HH2 : ∀ W base p c (h : Own W base .u32 46 p c (dig B32 (rvalV q g way).m)) (hT : TabW W), Hid (Calls Tryd.prog 14 #[.agg #[.bool (rvalV q g way).neg, .slice p (dig B32 (rvalV q g way).m).length c, .int .i64 (rvalV q g way).e], .agg #[.int .i64 g.rad, .int .i64 g.digs, .int .i64 g.lo, .int .i64 g.hi, .bool g.grad]] W fun en w' => en = .returned (.tuple #[.bool true, .int .i64 0]) ∧ Below W.heap.size W w') := fun W base p c h hT => by
          obtain ⟨z1, z2, z3⟩ := keep_two hq hr p c
          have hR := holds_any (dinOf (rvalV q g way) p c) g W (dinOf_in h (by omega)) hT
          rw [z1, z2] at hR
          exact Lib.hid hR
        rw [hr] at HQ
        generalize rvalV q g way = z at *
        have hT3 : SxOne Tryd.prog 3 := sxOne_of (by kernel_rfl) (by kernel_rfl)
        have hT4 : SxOne Tryd.prog 4 := sxOne_of (by kernel_rfl) (by kernel_rfl)
        have hT23 : SxOne Tryd.prog 23 := sxOne_of (by kernel_rfl) (by kernel_rfl)
        have hT25 : SxAgg Tryd.prog 25 4 := sxAgg_of (by kernel_rfl) (by kernel_rfl)
        have hT27 : SxAgg Tryd.prog 27 5 := sxAgg_of (by kernel_rfl) (by kernel_rfl)
        have hT30 : SxAgg Tryd.prog 30 3 := sxAgg_of (by kernel_rfl) (by kernel_rfl)
        refine calls_of_wp Tryd.func4 rfl ?_
        refine sx_frame (a' := ⟨((.agg #[.bool x.g, .slice x.p x.xs.length x.c, .int .i64 x.e]) :: (.agg #[.bool q.g, .slice q.p q.xs.length q.c, .slice q.q q.ys.length q.d, .int .i64 q.e]) :: (.agg #[.int .i64 g.rad, .int .i64 g.digs, .int .i64 g.lo, .int .i64 g.hi, .bool g.grad]) :: (.int .i64 way) :: undef :: undef :: undef :: undef :: undef :: undef :: undef :: undef :: undef :: undef :: undef :: undef :: undef :: undef :: undef :: undef :: undef :: undef :: undef :: undef :: undef :: undef :: undef :: undef :: undef :: undef :: undef :: undef :: undef :: undef :: undef :: undef :: undef :: undef :: undef :: undef :: undef :: undef :: undef :: undef :: undef :: undef :: undef :: undef :: undef :: undef :: undef :: undef :: undef :: undef :: undef :: undef :: undef :: undef :: undef :: undef :: undef :: undef :: undef :: undef :: undef :: undef :: undef :: undef :: undef :: undef :: undef :: undef :: undef :: undef :: undef :: undef :: undef :: undef :: undef :: undef :: undef :: undef :: undef :: undef :: undef :: []).toArray, []⟩) (by kernel_rfl) ?_
        refine wp_seq ?_
        refine sx_region ?_
        refine sn 4 #[.bool x.g, .slice x.p x.xs.length x.c, .int .i64 x.e] 30 (fun V1 hbV1 hzV1 b4 => ?_)
        refine sn 5 #[.bool q.g, .slice q.p q.xs.length q.c, .slice q.q q.ys.length q.d, .int .i64 q.e] 25 (fun V2 hbV2 hzV2 b5 => ?_)
        refine sn 6 #[.int .i64 g.rad, .int .i64 g.digs, .int .i64 g.lo, .int .i64 g.hi, .bool g.grad] 27 (fun V3 hbV3 hzV3 b6 => ?_)
        refine sv 8 (.bool false) ?_
        refine sx_nil ?_
        refine sx_then ?_
        refine wp_seq ?_
        refine wp_seq ?_
        refine sx_region ?_
        refine se 19 7 #[] ?_
        ((with_reducible refine (gridBegun_any _).mono ?_))
        rintro eV4 V4 ⟨rfl, hbV4⟩
        have hzV4 := hbV4.size
        refine ⟨.bool true, rfl, ?_⟩
        refine sv 20 (.bool false) ?_
        refine sx_nil ?_
        refine sx_then ?_
        refine wp_cond_false (by kernel_rfl) ?_
        refine wp_skip ?_
        refine sx_then ?_
        refine wp_seq ?_
        refine wp_seq ?_
        refine sx_region ?_
        replace b4 := (b4.past (bthru (bthru hbV2 hbV3) hbV4))
        refine sv 22 (.agg #[.bool x.g, .slice x.p x.xs.length x.c, .int .i64 x.e]) ?_ (hr := (exec_ld (by kernel_rfl) (run_ld b4 hT30 0 [.bool x.g, .slice x.p x.xs.length x.c, .int .i64 x.e] (by kernel_rfl) (by kernel_rfl))))
        replace b6 := (b6.past hbV4)
        refine sv 23 (.agg #[.int .i64 g.rad, .int .i64 g.digs, .int .i64 g.lo, .int .i64 g.hi, .bool g.grad]) ?_ (hr := (exec_ld (by kernel_rfl) (run_ld b6 hT27 0 [.int .i64 g.rad, .int .i64 g.digs, .int .i64 g.lo, .int .i64 g.hi, .bool g.grad] (by kernel_rfl) (by kernel_rfl))))
        replace hx := (hx.past (bthru (bthru (bthru hbV1 hbV2) hbV3) hbV4))
        replace hT := (hT.past (bthru (bthru (bthru hbV1 hbV2) hbV3) hbV4))
        refine se 24 14 #[.agg #[.bool x.g, .slice x.p x.xs.length x.c, .int .i64 x.e], .agg #[.int .i64 g.rad, .int .i64 g.digs, .int .i64 g.lo, .int .i64 g.hi, .bool g.grad]] ?_
        ((with_reducible refine ((HH _ hx hT).out).mono ?_))
        rintro eV5 V5 ⟨rfl, hbV5⟩
        have hzV5 := hbV5.size
        refine ⟨.tuple #[.bool true, .int .i64 0], rfl, ?_⟩
        refine sv 21 (.tuple #[.bool true, .int .i64 0]) ?_
        refine sv 25 (.bool true) ?_
        refine sv 26 (.int .i64 0) ?_
        refine sv 9 (.bool true) ?_
        refine sv 10 (.int .i64 0) ?_
        refine sx_nil ?_
        refine sx_then ?_
        refine wp_seq ?_
        refine sx_region ?_
        refine sv 27 (.int .i64 0) ?_
        refine sv 28 (.bool true) ?_
        refine sv 29 (.bool true) ?_
        refine sv 30 (.bool true) ?_
        refine sv 31 (.bool true) ?_
        refine sx_nil ?_
        refine sx_then ?_
        refine wp_cond_true (by kernel_rfl) ?_
        refine wp_seq ?_
        refine sx_cut (R := fun a' w' => ∃ (kb37 : Nat) (kb11 : Nat) (p45 : Option Addr) (c45 : Nat), a' = ⟨((.agg #[.bool x.g, .slice x.p x.xs.length x.c, .int .i64 x.e]) :: (.agg #[.bool q.g, .slice q.p q.xs.length q.c, .slice q.q q.ys.length q.d, .int .i64 q.e]) :: (.agg #[.int .i64 g.rad, .int .i64 g.digs, .int .i64 g.lo, .int .i64 g.hi, .bool g.grad]) :: (.int .i64 way) :: (.pointer (some ⟨w.heap.size, 0, none⟩)) :: (.pointer (some ⟨V1.heap.size, 0, none⟩)) :: (.pointer (some ⟨V2.heap.size, 0, none⟩)) :: undef :: (.bool false) :: (.bool true) :: (.int .i64 0) :: (.pointer (some ⟨kb11, 0, none⟩)) :: (.bool true) :: undef :: undef :: undef :: undef :: undef :: undef :: (.bool true) :: (.bool false) :: (.tuple #[.bool true, .int .i64 0]) :: (.agg #[.bool x.g, .slice x.p x.xs.length x.c, .int .i64 x.e]) :: (.agg #[.int .i64 g.rad, .int .i64 g.digs, .int .i64 g.lo, .int .i64 g.hi, .bool g.grad]) :: (.tuple #[.bool true, .int .i64 0]) :: (.bool true) :: (.int .i64 0) :: (.int .i64 0) :: (.bool true) :: (.bool true) :: (.bool true) :: (.bool true) :: (.tuple #[.agg #[.bool v.neg, .slice p45 (dig B32 v.m).length c45, .int .i64 v.e], .bool true]) :: (.pointer (some ⟨w.heap.size, 0, none⟩)) :: (.bool x.g) :: (.pointer (some ⟨w.heap.size, 1, none⟩)) :: (.slice x.p x.xs.length x.c) :: (.slice (some ⟨kb37, 0, none⟩) 1 1) :: (.pointer (some ⟨w.heap.size, 2, none⟩)) :: (.int .i64 x.e) :: (.agg #[.bool x.g, .slice x.p x.xs.length x.c, .slice (some ⟨kb37, 0, none⟩) 1 1, .int .i64 x.e]) :: (.agg #[.int .i64 g.rad, .int .i64 g.digs, .int .i64 g.lo, .int .i64 g.hi, .bool g.grad]) :: (.int .i64 way) :: (.int .i64 ((cw : Nat) : Int)) :: (.int .i64 (1 + (cw : Int))) :: (.tuple #[.agg #[.bool v.neg, .slice p45 (dig B32 v.m).length c45, .int .i64 v.e], .bool true]) :: (.agg #[.bool v.neg, .slice p45 (dig B32 v.m).length c45, .int .i64 v.e]) :: (.bool true) :: undef :: undef :: undef :: undef :: undef :: undef :: undef :: undef :: undef :: undef :: undef :: undef :: undef :: undef :: undef :: undef :: undef :: undef :: undef :: undef :: undef :: undef :: undef :: undef :: undef :: undef :: undef :: undef :: undef :: undef :: undef :: undef :: undef :: undef :: undef :: undef :: undef :: []).toArray, []⟩ ∧ Bt w' kb37 46 #[.int .u32 1] ∧ Bt w' kb11 30 #[.bool v.neg, .slice p45 (dig B32 v.m).length c45, .int .i64 v.e] ∧ Own w' V5.heap.size .u32 46 p45 c45 (dig B32 v.m) ∧ Below V5.heap.size V5 w' ∧ V5.heap.size ≤ kb37 ∧ V5.heap.size ≤ kb11 ∧ kb11 ≠ kb37) ?_ ?_
        · skip
          replace b4 := (b4.past hbV5)
          replace b6 := (b6.past hbV5)
          obtain ⟨V6, hVV6⟩ : ∃ V, V = (V5).drew := ⟨_, rfl⟩
          have hbV6 : Below (V5).heap.size (V5) V6 := by rw [hVV6]; exact (Below.refl _ _).drew
          have hzV6 : V6.heap.size = (V5).heap.size := by rw [hVV6]; rfl
          replace b4 := (b4.past hbV6)
          replace b6 := (b6.past hbV6)
          refine sxd _ (fun w' => Bt w' w.heap.size 30 #[.bool x.g, .slice x.p x.xs.length x.c, .int .i64 x.e] ∧ Bt w' V2.heap.size 27 #[.int .i64 g.rad, .int .i64 g.digs, .int .i64 g.lo, .int .i64 g.hi, .bool g.grad]) hVV6 ⟨b4, b6⟩ ?_
          clear hVV6
          refine tk 0 33 (.pointer (some ⟨w.heap.size, 0, none⟩)) ⟨b4, b6⟩ ?_
          refine tk 1 34 (.bool x.g) ⟨b4, b6⟩ ?_ (hy := fun w' hS => (exec_ld (by kernel_rfl) (run_ld1 hS.1 hT4 0 (.bool x.g) (by kernel_rfl))))
          refine tk 2 35 (.pointer (some ⟨w.heap.size, 1, none⟩)) ⟨b4, b6⟩ ?_
          refine tk 3 36 (.slice x.p x.xs.length x.c) ⟨b4, b6⟩ ?_ (hy := fun w' hS => (exec_ld (by kernel_rfl) (run_ld1 hS.1 hT23 1 (.slice x.p x.xs.length x.c) (by kernel_rfl))))
          refine tk 5 38 (.pointer (some ⟨w.heap.size, 2, none⟩)) ⟨b4, b6⟩ ?_
          refine tk 6 39 (.int .i64 x.e) ⟨b4, b6⟩ ?_ (hy := fun w' hS => (exec_ld (by kernel_rfl) (run_ld1 hS.1 hT3 2 (.int .i64 x.e) (by kernel_rfl))))
          refine tk 8 41 (.agg #[.int .i64 g.rad, .int .i64 g.digs, .int .i64 g.lo, .int .i64 g.hi, .bool g.grad]) ⟨b4, b6⟩ ?_ (hy := fun w' hS => (exec_ld (by kernel_rfl) (run_ld hS.2 hT27 0 [.int .i64 g.rad, .int .i64 g.digs, .int .i64 g.lo, .int .i64 g.hi, .bool g.grad] (by kernel_rfl) (by kernel_rfl))))
          refine tk 9 42 (.int .i64 way) ⟨b4, b6⟩ ?_
          refine sxr [4, 10, 16] ?_
          refine rd2 (fun Kx hKx => ?_) ?_
          · skip
            refine snvk 37 (.slice (some ⟨V6.heap.size, 0, none⟩) 1 1) #[.int .u32 1] 46 (fun V7 hbV7 hzV7 b37 => ?_)
            replace b4 := (b4.past hbV7)
            replace b6 := (b6.past hbV7)
            refine hKx.out _ _ ⟨b4, b6⟩ ?_
            clear hKx Kx
            refine tk 7 40 (.agg #[.bool x.g, .slice x.p x.xs.length x.c, .slice (some ⟨V6.heap.size, 0, none⟩) 1 1, .int .i64 x.e]) ⟨b4, b6⟩ ?_
            refine sxr [10, 16] ?_
            refine rd2 (fun Kx hKx => ?_) ?_
            · skip
              refine sek 43 15 #[.int .i64 way, .int .i64 5] ?_
              ((with_reducible refine ((HC _).out).mono ?_))
              rintro eV8 V8 ⟨rfl, hbV8⟩
              have hzV8 := hbV8.size
              refine ⟨.int .i64 ((cw : Nat) : Int), rfl, ?_⟩
              replace b4 := (b4.past hbV8)
              replace b6 := (b6.past hbV8)
              refine hKx.out _ _ ⟨b4, b6⟩ ?_
              clear hKx Kx
              refine tk 11 44 (.int .i64 (1 + (cw : Int))) ⟨b4, b6⟩ ?_ (hy := fun w' _ => ((show _ = Result.ok (Next.value (.int .i64 (IntKind.wrap .i64 ((1 : Int) + ((cw : Nat) : Int))))) _ by kernel_rfl).trans (congrArg (fun z => Result.ok (Next.value (.int .i64 z)) _) (IntWalk.i64_in _ (by omega)))))
              refine sxr [12, 16] ?_
              refine rd2 (fun Kx hKx => ?_) ?_
              · skip
                replace hx := (hx.past (bthru (bthru (bthru hbV5 hbV6) hbV7) hbV8))
                replace b37 := (b37.past hbV8)
                replace hT := (hT.past (bthru (bthru (bthru hbV5 hbV6) hbV7) hbV8))
                refine sek 45 8 #[.agg #[.bool x.g, .slice x.p x.xs.length x.c, .slice (some ⟨V6.heap.size, 0, none⟩) 1 1, .int .i64 x.e], .agg #[.int .i64 g.rad, .int .i64 g.digs, .int .i64 g.lo, .int .i64 g.hi, .bool g.grad], .int .i64 (1 + (cw : Int))] ?_
                ((with_reducible refine ((HR1 _ _ hx b37 hT).out).mono ?_))
                rintro eV9 V9 ⟨p45, c45, rfl, ho45, hbV9⟩
                have hzV9 := hbV9.size
                refine ⟨.tuple #[.agg #[.bool v.neg, .slice p45 (dig B32 v.m).length c45, .int .i64 v.e], .bool true], rfl, ?_⟩
                replace b4 := (b4.past hbV9)
                replace b6 := (b6.past hbV9)
                refine hKx.out _ _ ⟨b4, b6⟩ ?_
                clear hKx Kx
                refine tk 13 32 (.tuple #[.agg #[.bool v.neg, .slice p45 (dig B32 v.m).length c45, .int .i64 v.e], .bool true]) ⟨b4, b6⟩ ?_
                refine tk 14 46 (.agg #[.bool v.neg, .slice p45 (dig B32 v.m).length c45, .int .i64 v.e]) ⟨b4, b6⟩ ?_
                refine tk 15 47 (.bool true) ⟨b4, b6⟩ ?_
                refine sxr [16] ?_
                refine rd1 (fun Kx hKx => ?_)
                refine snk 11 #[.bool false, .slice none 0 0, .int .i64 0] 30 (fun V10 hbV10 hzV10 b11 => ?_)
                replace b4 := (b4.past hbV10)
                replace b6 := (b6.past hbV10)
                refine hKx.out _ _ ⟨b4, b6⟩ ?_
                clear hKx Kx
                refine sxr [17] ?_
                refine rd1 (fun Kx hKx => ?_)
                refine ssk none b11 hT30 0 #[.bool v.neg, .slice p45 (dig B32 v.m).length c45, .int .i64 v.e] #[.bool v.neg, .slice p45 (dig B32 v.m).length c45, .int .i64 v.e] ?_
                have boV11 := b11
                clear b11
                intro V11 hOV11 b11
                have hzV11 := hOV11.size
                replace b4 := (b4.only hOV11 (by omega))
                replace b6 := (b6.only hOV11 (by omega))
                refine hKx.out _ _ ⟨b4, b6⟩ ?_
                clear hKx Kx
                refine tk 18 12 (.bool true) ⟨b4, b6⟩ ?_
                refine sx_done (by kernel_rfl) ?_
                replace b37 := (b37.past ((bthru hbV9 hbV10).trans (hOV11.below (by omega))))
                replace ho45 := (ho45.past (hbV10.trans (hOV11.below (by omega))))
                exact ⟨rfl, V6.heap.size, V9.heap.size, p45, c45, by kernel_rfl, b37, b11, (ho45.mono (by omega)), ((bthru (bthru (bthru (bthru hbV6 hbV7) hbV8) hbV9) hbV10).trans (hOV11.below (by omega))), by omega, by omega, by omega⟩
              refine rd1 (fun Kx hKx => ?_)
              refine snk 11 #[.bool false, .slice none 0 0, .int .i64 0] 30 (fun V9 hbV9 hzV9 b11 => ?_)
              replace b4 := (b4.past hbV9)
              replace b6 := (b6.past hbV9)
              refine hKx.out _ _ ⟨b4, b6⟩ ?_
              clear hKx Kx
              refine sxr [12] ?_
              refine rd1 (fun Kx hKx => ?_)
              replace hx := (hx.past (bthru (bthru (bthru (bthru hbV5 hbV6) hbV7) hbV8) hbV9))
              replace b37 := (b37.past (bthru hbV8 hbV9))
              replace hT := (hT.past (bthru (bthru (bthru (bthru hbV5 hbV6) hbV7) hbV8) hbV9))
              refine sek 45 8 #[.agg #[.bool x.g, .slice x.p x.xs.length x.c, .slice (some ⟨V6.heap.size, 0, none⟩) 1 1, .int .i64 x.e], .agg #[.int .i64 g.rad, .int .i64 g.digs, .int .i64 g.lo, .int .i64 g.hi, .bool g.grad], .int .i64 (1 + (cw : Int))] ?_
              ((with_reducible refine ((HR1 _ _ hx b37 hT).out).mono ?_))
              rintro eV10 V10 ⟨p45, c45, rfl, ho45, hbV10⟩
              have hzV10 := hbV10.size
              refine ⟨.tuple #[.agg #[.bool v.neg, .slice p45 (dig B32 v.m).length c45, .int .i64 v.e], .bool true], rfl, ?_⟩
              replace b4 := (b4.past hbV10)
              replace b6 := (b6.past hbV10)
              refine hKx.out _ _ ⟨b4, b6⟩ ?_
              clear hKx Kx
              refine tk 13 32 (.tuple #[.agg #[.bool v.neg, .slice p45 (dig B32 v.m).length c45, .int .i64 v.e], .bool true]) ⟨b4, b6⟩ ?_
              refine tk 14 46 (.agg #[.bool v.neg, .slice p45 (dig B32 v.m).length c45, .int .i64 v.e]) ⟨b4, b6⟩ ?_
              refine tk 15 47 (.bool true) ⟨b4, b6⟩ ?_
              refine sxr [17] ?_
              refine rd1 (fun Kx hKx => ?_)
              replace b11 := (b11.past hbV10)
              refine ssk none b11 hT30 0 #[.bool v.neg, .slice p45 (dig B32 v.m).length c45, .int .i64 v.e] #[.bool v.neg, .slice p45 (dig B32 v.m).length c45, .int .i64 v.e] ?_
              have boV11 := b11
              clear b11
              intro V11 hOV11 b11
              have hzV11 := hOV11.size
              replace b4 := (b4.only hOV11 (by omega))
              replace b6 := (b6.only hOV11 (by omega))
              refine hKx.out _ _ ⟨b4, b6⟩ ?_
              clear hKx Kx
              refine tk 18 12 (.bool true) ⟨b4, b6⟩ ?_
              refine sx_done (by kernel_rfl) ?_
              replace b37 := ((b37.past hbV10).only hOV11 (by omega))
              replace ho45 := (ho45.put boV11 hOV11 (by kernel_rfl))
              exact ⟨rfl, V6.heap.size, V8.heap.size, p45, c45, by kernel_rfl, b37, b11, (ho45.mono (by omega)), ((bthru (bthru (bthru (bthru hbV6 hbV7) hbV8) hbV9) hbV10).trans (hOV11.below (by omega))), by omega, by omega, by omega⟩
            refine rd1 (fun Kx hKx => ?_)
            refine snk 11 #[.bool false, .slice none 0 0, .int .i64 0] 30 (fun V8 hbV8 hzV8 b11 => ?_)
            replace b4 := (b4.past hbV8)
            replace b6 := (b6.past hbV8)
            refine hKx.out _ _ ⟨b4, b6⟩ ?_
            clear hKx Kx
            refine sxr [10] ?_
            refine rd1 (fun Kx hKx => ?_)
            refine sek 43 15 #[.int .i64 way, .int .i64 5] ?_
            ((with_reducible refine ((HC _).out).mono ?_))
            rintro eV9 V9 ⟨rfl, hbV9⟩
            have hzV9 := hbV9.size
            refine ⟨.int .i64 ((cw : Nat) : Int), rfl, ?_⟩
            replace b4 := (b4.past hbV9)
            replace b6 := (b6.past hbV9)
            refine hKx.out _ _ ⟨b4, b6⟩ ?_
            clear hKx Kx
            refine tk 11 44 (.int .i64 (1 + (cw : Int))) ⟨b4, b6⟩ ?_ (hy := fun w' _ => ((show _ = Result.ok (Next.value (.int .i64 (IntKind.wrap .i64 ((1 : Int) + ((cw : Nat) : Int))))) _ by kernel_rfl).trans (congrArg (fun z => Result.ok (Next.value (.int .i64 z)) _) (IntWalk.i64_in _ (by omega)))))
            refine sxr [12] ?_
            refine rd1 (fun Kx hKx => ?_)
            replace hx := (hx.past (bthru (bthru (bthru (bthru hbV5 hbV6) hbV7) hbV8) hbV9))
            replace b37 := (b37.past (bthru hbV8 hbV9))
            replace hT := (hT.past (bthru (bthru (bthru (bthru hbV5 hbV6) hbV7) hbV8) hbV9))
            refine sek 45 8 #[.agg #[.bool x.g, .slice x.p x.xs.length x.c, .slice (some ⟨V6.heap.size, 0, none⟩) 1 1, .int .i64 x.e], .agg #[.int .i64 g.rad, .int .i64 g.digs, .int .i64 g.lo, .int .i64 g.hi, .bool g.grad], .int .i64 (1 + (cw : Int))] ?_
            ((with_reducible refine ((HR1 _ _ hx b37 hT).out).mono ?_))
            rintro eV10 V10 ⟨p45, c45, rfl, ho45, hbV10⟩
            have hzV10 := hbV10.size
            refine ⟨.tuple #[.agg #[.bool v.neg, .slice p45 (dig B32 v.m).length c45, .int .i64 v.e], .bool true], rfl, ?_⟩
            replace b4 := (b4.past hbV10)
            replace b6 := (b6.past hbV10)
            refine hKx.out _ _ ⟨b4, b6⟩ ?_
            clear hKx Kx
            refine tk 13 32 (.tuple #[.agg #[.bool v.neg, .slice p45 (dig B32 v.m).length c45, .int .i64 v.e], .bool true]) ⟨b4, b6⟩ ?_
            refine tk 14 46 (.agg #[.bool v.neg, .slice p45 (dig B32 v.m).length c45, .int .i64 v.e]) ⟨b4, b6⟩ ?_
            refine tk 15 47 (.bool true) ⟨b4, b6⟩ ?_
            refine sxr [17] ?_
            refine rd1 (fun Kx hKx => ?_)
            replace b11 := (b11.past (bthru hbV9 hbV10))
            refine ssk none b11 hT30 0 #[.bool v.neg, .slice p45 (dig B32 v.m).length c45, .int .i64 v.e] #[.bool v.neg, .slice p45 (dig B32 v.m).length c45, .int .i64 v.e] ?_
            have boV11 := b11
            clear b11
            intro V11 hOV11 b11
            have hzV11 := hOV11.size
            replace b4 := (b4.only hOV11 (by omega))
            replace b6 := (b6.only hOV11 (by omega))
            refine hKx.out _ _ ⟨b4, b6⟩ ?_
            clear hKx Kx
            refine tk 18 12 (.bool true) ⟨b4, b6⟩ ?_
            refine sx_done (by kernel_rfl) ?_
            replace b37 := ((b37.past hbV10).only hOV11 (by omega))
            replace ho45 := (ho45.put boV11 hOV11 (by kernel_rfl))
            exact ⟨rfl, V6.heap.size, V7.heap.size, p45, c45, by kernel_rfl, b37, b11, (ho45.mono (by omega)), ((bthru (bthru (bthru (bthru hbV6 hbV7) hbV8) hbV9) hbV10).trans (hOV11.below (by omega))), by omega, by omega, by omega⟩
          refine rd2 (fun Kx hKx => ?_) ?_
          · skip
            refine sek 43 15 #[.int .i64 way, .int .i64 5] ?_
            ((with_reducible refine ((HC _).out).mono ?_))
            rintro eV7 V7 ⟨rfl, hbV7⟩
            have hzV7 := hbV7.size
            refine ⟨.int .i64 ((cw : Nat) : Int), rfl, ?_⟩
            replace b4 := (b4.past hbV7)
            replace b6 := (b6.past hbV7)
            refine hKx.out _ _ ⟨b4, b6⟩ ?_
            clear hKx Kx
            refine tk 11 44 (.int .i64 (1 + (cw : Int))) ⟨b4, b6⟩ ?_ (hy := fun w' _ => ((show _ = Result.ok (Next.value (.int .i64 (IntKind.wrap .i64 ((1 : Int) + ((cw : Nat) : Int))))) _ by kernel_rfl).trans (congrArg (fun z => Result.ok (Next.value (.int .i64 z)) _) (IntWalk.i64_in _ (by omega)))))
            refine sxr [4, 16] ?_
            refine rd2 (fun Kx hKx => ?_) ?_
            · skip
              refine snvk 37 (.slice (some ⟨V7.heap.size, 0, none⟩) 1 1) #[.int .u32 1] 46 (fun V8 hbV8 hzV8 b37 => ?_)
              replace b4 := (b4.past hbV8)
              replace b6 := (b6.past hbV8)
              refine hKx.out _ _ ⟨b4, b6⟩ ?_
              clear hKx Kx
              refine tk 7 40 (.agg #[.bool x.g, .slice x.p x.xs.length x.c, .slice (some ⟨V7.heap.size, 0, none⟩) 1 1, .int .i64 x.e]) ⟨b4, b6⟩ ?_
              refine sxr [12, 16] ?_
              refine rd2 (fun Kx hKx => ?_) ?_
              · skip
                replace hx := (hx.past (bthru (bthru (bthru hbV5 hbV6) hbV7) hbV8))
                replace hT := (hT.past (bthru (bthru (bthru hbV5 hbV6) hbV7) hbV8))
                refine sek 45 8 #[.agg #[.bool x.g, .slice x.p x.xs.length x.c, .slice (some ⟨V7.heap.size, 0, none⟩) 1 1, .int .i64 x.e], .agg #[.int .i64 g.rad, .int .i64 g.digs, .int .i64 g.lo, .int .i64 g.hi, .bool g.grad], .int .i64 (1 + (cw : Int))] ?_
                ((with_reducible refine ((HR1 _ _ hx b37 hT).out).mono ?_))
                rintro eV9 V9 ⟨p45, c45, rfl, ho45, hbV9⟩
                have hzV9 := hbV9.size
                refine ⟨.tuple #[.agg #[.bool v.neg, .slice p45 (dig B32 v.m).length c45, .int .i64 v.e], .bool true], rfl, ?_⟩
                replace b4 := (b4.past hbV9)
                replace b6 := (b6.past hbV9)
                refine hKx.out _ _ ⟨b4, b6⟩ ?_
                clear hKx Kx
                refine tk 13 32 (.tuple #[.agg #[.bool v.neg, .slice p45 (dig B32 v.m).length c45, .int .i64 v.e], .bool true]) ⟨b4, b6⟩ ?_
                refine tk 14 46 (.agg #[.bool v.neg, .slice p45 (dig B32 v.m).length c45, .int .i64 v.e]) ⟨b4, b6⟩ ?_
                refine tk 15 47 (.bool true) ⟨b4, b6⟩ ?_
                refine sxr [16] ?_
                refine rd1 (fun Kx hKx => ?_)
                refine snk 11 #[.bool false, .slice none 0 0, .int .i64 0] 30 (fun V10 hbV10 hzV10 b11 => ?_)
                replace b4 := (b4.past hbV10)
                replace b6 := (b6.past hbV10)
                refine hKx.out _ _ ⟨b4, b6⟩ ?_
                clear hKx Kx
                refine sxr [17] ?_
                refine rd1 (fun Kx hKx => ?_)
                refine ssk none b11 hT30 0 #[.bool v.neg, .slice p45 (dig B32 v.m).length c45, .int .i64 v.e] #[.bool v.neg, .slice p45 (dig B32 v.m).length c45, .int .i64 v.e] ?_
                have boV11 := b11
                clear b11
                intro V11 hOV11 b11
                have hzV11 := hOV11.size
                replace b4 := (b4.only hOV11 (by omega))
                replace b6 := (b6.only hOV11 (by omega))
                refine hKx.out _ _ ⟨b4, b6⟩ ?_
                clear hKx Kx
                refine tk 18 12 (.bool true) ⟨b4, b6⟩ ?_
                refine sx_done (by kernel_rfl) ?_
                replace b37 := (b37.past ((bthru hbV9 hbV10).trans (hOV11.below (by omega))))
                replace ho45 := (ho45.past (hbV10.trans (hOV11.below (by omega))))
                exact ⟨rfl, V7.heap.size, V9.heap.size, p45, c45, by kernel_rfl, b37, b11, (ho45.mono (by omega)), ((bthru (bthru (bthru (bthru hbV6 hbV7) hbV8) hbV9) hbV10).trans (hOV11.below (by omega))), by omega, by omega, by omega⟩
              refine rd1 (fun Kx hKx => ?_)
              refine snk 11 #[.bool false, .slice none 0 0, .int .i64 0] 30 (fun V9 hbV9 hzV9 b11 => ?_)
              replace b4 := (b4.past hbV9)
              replace b6 := (b6.past hbV9)
              refine hKx.out _ _ ⟨b4, b6⟩ ?_
              clear hKx Kx
              refine sxr [12] ?_
              refine rd1 (fun Kx hKx => ?_)
              replace hx := (hx.past (bthru (bthru (bthru (bthru hbV5 hbV6) hbV7) hbV8) hbV9))
              replace b37 := (b37.past hbV9)
              replace hT := (hT.past (bthru (bthru (bthru (bthru hbV5 hbV6) hbV7) hbV8) hbV9))
              refine sek 45 8 #[.agg #[.bool x.g, .slice x.p x.xs.length x.c, .slice (some ⟨V7.heap.size, 0, none⟩) 1 1, .int .i64 x.e], .agg #[.int .i64 g.rad, .int .i64 g.digs, .int .i64 g.lo, .int .i64 g.hi, .bool g.grad], .int .i64 (1 + (cw : Int))] ?_
              ((with_reducible refine ((HR1 _ _ hx b37 hT).out).mono ?_))
              rintro eV10 V10 ⟨p45, c45, rfl, ho45, hbV10⟩
              have hzV10 := hbV10.size
              refine ⟨.tuple #[.agg #[.bool v.neg, .slice p45 (dig B32 v.m).length c45, .int .i64 v.e], .bool true], rfl, ?_⟩
              replace b4 := (b4.past hbV10)
              replace b6 := (b6.past hbV10)
              refine hKx.out _ _ ⟨b4, b6⟩ ?_
              clear hKx Kx
              refine tk 13 32 (.tuple #[.agg #[.bool v.neg, .slice p45 (dig B32 v.m).length c45, .int .i64 v.e], .bool true]) ⟨b4, b6⟩ ?_
              refine tk 14 46 (.agg #[.bool v.neg, .slice p45 (dig B32 v.m).length c45, .int .i64 v.e]) ⟨b4, b6⟩ ?_
              refine tk 15 47 (.bool true) ⟨b4, b6⟩ ?_
              refine sxr [17] ?_
              refine rd1 (fun Kx hKx => ?_)
              replace b11 := (b11.past hbV10)
              refine ssk none b11 hT30 0 #[.bool v.neg, .slice p45 (dig B32 v.m).length c45, .int .i64 v.e] #[.bool v.neg, .slice p45 (dig B32 v.m).length c45, .int .i64 v.e] ?_
              have boV11 := b11
              clear b11
              intro V11 hOV11 b11
              have hzV11 := hOV11.size
              replace b4 := (b4.only hOV11 (by omega))
              replace b6 := (b6.only hOV11 (by omega))
              refine hKx.out _ _ ⟨b4, b6⟩ ?_
              clear hKx Kx
              refine tk 18 12 (.bool true) ⟨b4, b6⟩ ?_
              refine sx_done (by kernel_rfl) ?_
              replace b37 := ((b37.past hbV10).only hOV11 (by omega))
              replace ho45 := (ho45.put boV11 hOV11 (by kernel_rfl))
              exact ⟨rfl, V7.heap.size, V8.heap.size, p45, c45, by kernel_rfl, b37, b11, (ho45.mono (by omega)), ((bthru (bthru (bthru (bthru hbV6 hbV7) hbV8) hbV9) hbV10).trans (hOV11.below (by omega))), by omega, by omega, by omega⟩
            refine rd1 (fun Kx hKx => ?_)
            refine snk 11 #[.bool false, .slice none 0 0, .int .i64 0] 30 (fun V8 hbV8 hzV8 b11 => ?_)
            replace b4 := (b4.past hbV8)
            replace b6 := (b6.past hbV8)
            refine hKx.out _ _ ⟨b4, b6⟩ ?_
            clear hKx Kx
            refine sxr [4] ?_
            refine rd1 (fun Kx hKx => ?_)
            refine snvk 37 (.slice (some ⟨V8.heap.size, 0, none⟩) 1 1) #[.int .u32 1] 46 (fun V9 hbV9 hzV9 b37 => ?_)
            replace b4 := (b4.past hbV9)
            replace b6 := (b6.past hbV9)
            refine hKx.out _ _ ⟨b4, b6⟩ ?_
            clear hKx Kx
            refine tk 7 40 (.agg #[.bool x.g, .slice x.p x.xs.length x.c, .slice (some ⟨V8.heap.size, 0, none⟩) 1 1, .int .i64 x.e]) ⟨b4, b6⟩ ?_
            refine sxr [12] ?_
            refine rd1 (fun Kx hKx => ?_)
            replace hx := (hx.past (bthru (bthru (bthru (bthru hbV5 hbV6) hbV7) hbV8) hbV9))
            replace hT := (hT.past (bthru (bthru (bthru (bthru hbV5 hbV6) hbV7) hbV8) hbV9))
            refine sek 45 8 #[.agg #[.bool x.g, .slice x.p x.xs.length x.c, .slice (some ⟨V8.heap.size, 0, none⟩) 1 1, .int .i64 x.e], .agg #[.int .i64 g.rad, .int .i64 g.digs, .int .i64 g.lo, .int .i64 g.hi, .bool g.grad], .int .i64 (1 + (cw : Int))] ?_
            ((with_reducible refine ((HR1 _ _ hx b37 hT).out).mono ?_))
            rintro eV10 V10 ⟨p45, c45, rfl, ho45, hbV10⟩
            have hzV10 := hbV10.size
            refine ⟨.tuple #[.agg #[.bool v.neg, .slice p45 (dig B32 v.m).length c45, .int .i64 v.e], .bool true], rfl, ?_⟩
            replace b4 := (b4.past hbV10)
            replace b6 := (b6.past hbV10)
            refine hKx.out _ _ ⟨b4, b6⟩ ?_
            clear hKx Kx
            refine tk 13 32 (.tuple #[.agg #[.bool v.neg, .slice p45 (dig B32 v.m).length c45, .int .i64 v.e], .bool true]) ⟨b4, b6⟩ ?_
            refine tk 14 46 (.agg #[.bool v.neg, .slice p45 (dig B32 v.m).length c45, .int .i64 v.e]) ⟨b4, b6⟩ ?_
            refine tk 15 47 (.bool true) ⟨b4, b6⟩ ?_
            refine sxr [17] ?_
            refine rd1 (fun Kx hKx => ?_)
            replace b11 := (b11.past (bthru hbV9 hbV10))
            refine ssk none b11 hT30 0 #[.bool v.neg, .slice p45 (dig B32 v.m).length c45, .int .i64 v.e] #[.bool v.neg, .slice p45 (dig B32 v.m).length c45, .int .i64 v.e] ?_
            have boV11 := b11
            clear b11
            intro V11 hOV11 b11
            have hzV11 := hOV11.size
            replace b4 := (b4.only hOV11 (by omega))
            replace b6 := (b6.only hOV11 (by omega))
            refine hKx.out _ _ ⟨b4, b6⟩ ?_
            clear hKx Kx
            refine tk 18 12 (.bool true) ⟨b4, b6⟩ ?_
            refine sx_done (by kernel_rfl) ?_
            replace b37 := ((b37.past hbV10).only hOV11 (by omega))
            replace ho45 := (ho45.put boV11 hOV11 (by kernel_rfl))
            exact ⟨rfl, V8.heap.size, V7.heap.size, p45, c45, by kernel_rfl, b37, b11, (ho45.mono (by omega)), ((bthru (bthru (bthru (bthru hbV6 hbV7) hbV8) hbV9) hbV10).trans (hOV11.below (by omega))), by omega, by omega, by omega⟩
          refine rd1 (fun Kx hKx => ?_)
          refine snk 11 #[.bool false, .slice none 0 0, .int .i64 0] 30 (fun V7 hbV7 hzV7 b11 => ?_)
          replace b4 := (b4.past hbV7)
          replace b6 := (b6.past hbV7)
          refine hKx.out _ _ ⟨b4, b6⟩ ?_
          clear hKx Kx
          refine sxr [4, 10] ?_
          refine rd2 (fun Kx hKx => ?_) ?_
          · skip
            refine snvk 37 (.slice (some ⟨V7.heap.size, 0, none⟩) 1 1) #[.int .u32 1] 46 (fun V8 hbV8 hzV8 b37 => ?_)
            replace b4 := (b4.past hbV8)
            replace b6 := (b6.past hbV8)
            refine hKx.out _ _ ⟨b4, b6⟩ ?_
            clear hKx Kx
            refine tk 7 40 (.agg #[.bool x.g, .slice x.p x.xs.length x.c, .slice (some ⟨V7.heap.size, 0, none⟩) 1 1, .int .i64 x.e]) ⟨b4, b6⟩ ?_
            refine sxr [10] ?_
            refine rd1 (fun Kx hKx => ?_)
            refine sek 43 15 #[.int .i64 way, .int .i64 5] ?_
            ((with_reducible refine ((HC _).out).mono ?_))
            rintro eV9 V9 ⟨rfl, hbV9⟩
            have hzV9 := hbV9.size
            refine ⟨.int .i64 ((cw : Nat) : Int), rfl, ?_⟩
            replace b4 := (b4.past hbV9)
            replace b6 := (b6.past hbV9)
            refine hKx.out _ _ ⟨b4, b6⟩ ?_
            clear hKx Kx
            refine tk 11 44 (.int .i64 (1 + (cw : Int))) ⟨b4, b6⟩ ?_ (hy := fun w' _ => ((show _ = Result.ok (Next.value (.int .i64 (IntKind.wrap .i64 ((1 : Int) + ((cw : Nat) : Int))))) _ by kernel_rfl).trans (congrArg (fun z => Result.ok (Next.value (.int .i64 z)) _) (IntWalk.i64_in _ (by omega)))))
            refine sxr [12] ?_
            refine rd1 (fun Kx hKx => ?_)
            replace hx := (hx.past (bthru (bthru (bthru (bthru hbV5 hbV6) hbV7) hbV8) hbV9))
            replace b37 := (b37.past hbV9)
            replace hT := (hT.past (bthru (bthru (bthru (bthru hbV5 hbV6) hbV7) hbV8) hbV9))
            refine sek 45 8 #[.agg #[.bool x.g, .slice x.p x.xs.length x.c, .slice (some ⟨V7.heap.size, 0, none⟩) 1 1, .int .i64 x.e], .agg #[.int .i64 g.rad, .int .i64 g.digs, .int .i64 g.lo, .int .i64 g.hi, .bool g.grad], .int .i64 (1 + (cw : Int))] ?_
            ((with_reducible refine ((HR1 _ _ hx b37 hT).out).mono ?_))
            rintro eV10 V10 ⟨p45, c45, rfl, ho45, hbV10⟩
            have hzV10 := hbV10.size
            refine ⟨.tuple #[.agg #[.bool v.neg, .slice p45 (dig B32 v.m).length c45, .int .i64 v.e], .bool true], rfl, ?_⟩
            replace b4 := (b4.past hbV10)
            replace b6 := (b6.past hbV10)
            refine hKx.out _ _ ⟨b4, b6⟩ ?_
            clear hKx Kx
            refine tk 13 32 (.tuple #[.agg #[.bool v.neg, .slice p45 (dig B32 v.m).length c45, .int .i64 v.e], .bool true]) ⟨b4, b6⟩ ?_
            refine tk 14 46 (.agg #[.bool v.neg, .slice p45 (dig B32 v.m).length c45, .int .i64 v.e]) ⟨b4, b6⟩ ?_
            refine tk 15 47 (.bool true) ⟨b4, b6⟩ ?_
            refine sxr [17] ?_
            refine rd1 (fun Kx hKx => ?_)
            replace b11 := (b11.past (bthru (bthru hbV8 hbV9) hbV10))
            refine ssk none b11 hT30 0 #[.bool v.neg, .slice p45 (dig B32 v.m).length c45, .int .i64 v.e] #[.bool v.neg, .slice p45 (dig B32 v.m).length c45, .int .i64 v.e] ?_
            have boV11 := b11
            clear b11
            intro V11 hOV11 b11
            have hzV11 := hOV11.size
            replace b4 := (b4.only hOV11 (by omega))
            replace b6 := (b6.only hOV11 (by omega))
            refine hKx.out _ _ ⟨b4, b6⟩ ?_
            clear hKx Kx
            refine tk 18 12 (.bool true) ⟨b4, b6⟩ ?_
            refine sx_done (by kernel_rfl) ?_
            replace b37 := ((b37.past hbV10).only hOV11 (by omega))
            replace ho45 := (ho45.put boV11 hOV11 (by kernel_rfl))
            exact ⟨rfl, V7.heap.size, V6.heap.size, p45, c45, by kernel_rfl, b37, b11, (ho45.mono (by omega)), ((bthru (bthru (bthru (bthru hbV6 hbV7) hbV8) hbV9) hbV10).trans (hOV11.below (by omega))), by omega, by omega, by omega⟩
          refine rd1 (fun Kx hKx => ?_)
          refine sek 43 15 #[.int .i64 way, .int .i64 5] ?_
          ((with_reducible refine ((HC _).out).mono ?_))
          rintro eV8 V8 ⟨rfl, hbV8⟩
          have hzV8 := hbV8.size
          refine ⟨.int .i64 ((cw : Nat) : Int), rfl, ?_⟩
          replace b4 := (b4.past hbV8)
          replace b6 := (b6.past hbV8)
          refine hKx.out _ _ ⟨b4, b6⟩ ?_
          clear hKx Kx
          refine tk 11 44 (.int .i64 (1 + (cw : Int))) ⟨b4, b6⟩ ?_ (hy := fun w' _ => ((show _ = Result.ok (Next.value (.int .i64 (IntKind.wrap .i64 ((1 : Int) + ((cw : Nat) : Int))))) _ by kernel_rfl).trans (congrArg (fun z => Result.ok (Next.value (.int .i64 z)) _) (IntWalk.i64_in _ (by omega)))))
          refine sxr [4] ?_
          refine rd1 (fun Kx hKx => ?_)
          refine snvk 37 (.slice (some ⟨V8.heap.size, 0, none⟩) 1 1) #[.int .u32 1] 46 (fun V9 hbV9 hzV9 b37 => ?_)
          replace b4 := (b4.past hbV9)
          replace b6 := (b6.past hbV9)
          refine hKx.out _ _ ⟨b4, b6⟩ ?_
          clear hKx Kx
          refine tk 7 40 (.agg #[.bool x.g, .slice x.p x.xs.length x.c, .slice (some ⟨V8.heap.size, 0, none⟩) 1 1, .int .i64 x.e]) ⟨b4, b6⟩ ?_
          refine sxr [12] ?_
          refine rd1 (fun Kx hKx => ?_)
          replace hx := (hx.past (bthru (bthru (bthru (bthru hbV5 hbV6) hbV7) hbV8) hbV9))
          replace hT := (hT.past (bthru (bthru (bthru (bthru hbV5 hbV6) hbV7) hbV8) hbV9))
          refine sek 45 8 #[.agg #[.bool x.g, .slice x.p x.xs.length x.c, .slice (some ⟨V8.heap.size, 0, none⟩) 1 1, .int .i64 x.e], .agg #[.int .i64 g.rad, .int .i64 g.digs, .int .i64 g.lo, .int .i64 g.hi, .bool g.grad], .int .i64 (1 + (cw : Int))] ?_
          ((with_reducible refine ((HR1 _ _ hx b37 hT).out).mono ?_))
          rintro eV10 V10 ⟨p45, c45, rfl, ho45, hbV10⟩
          have hzV10 := hbV10.size
          refine ⟨.tuple #[.agg #[.bool v.neg, .slice p45 (dig B32 v.m).length c45, .int .i64 v.e], .bool true], rfl, ?_⟩
          replace b4 := (b4.past hbV10)
          replace b6 := (b6.past hbV10)
          refine hKx.out _ _ ⟨b4, b6⟩ ?_
          clear hKx Kx
          refine tk 13 32 (.tuple #[.agg #[.bool v.neg, .slice p45 (dig B32 v.m).length c45, .int .i64 v.e], .bool true]) ⟨b4, b6⟩ ?_
          refine tk 14 46 (.agg #[.bool v.neg, .slice p45 (dig B32 v.m).length c45, .int .i64 v.e]) ⟨b4, b6⟩ ?_
          refine tk 15 47 (.bool true) ⟨b4, b6⟩ ?_
          refine sxr [17] ?_
          refine rd1 (fun Kx hKx => ?_)
          replace b11 := (b11.past (bthru (bthru hbV8 hbV9) hbV10))
          refine ssk none b11 hT30 0 #[.bool v.neg, .slice p45 (dig B32 v.m).length c45, .int .i64 v.e] #[.bool v.neg, .slice p45 (dig B32 v.m).length c45, .int .i64 v.e] ?_
          have boV11 := b11
          clear b11
          intro V11 hOV11 b11
          have hzV11 := hOV11.size
          replace b4 := (b4.only hOV11 (by omega))
          replace b6 := (b6.only hOV11 (by omega))
          refine hKx.out _ _ ⟨b4, b6⟩ ?_
          clear hKx Kx
          refine tk 18 12 (.bool true) ⟨b4, b6⟩ ?_
          refine sx_done (by kernel_rfl) ?_
          replace b37 := ((b37.past hbV10).only hOV11 (by omega))
          replace ho45 := (ho45.put boV11 hOV11 (by kernel_rfl))
          exact ⟨rfl, V8.heap.size, V6.heap.size, p45, c45, by kernel_rfl, b37, b11, (ho45.mono (by omega)), ((bthru (bthru (bthru (bthru hbV6 hbV7) hbV8) hbV9) hbV10).trans (hOV11.below (by omega))), by omega, by omega, by omega⟩
        rintro _ V6 ⟨kb37, kb11, p45, c45, rfl, b37, b11, ho45, hbV6, hkb37, hkb11, hd_b11_b37⟩
        have hzV6 := hbV6.size
        have hlb37 := b37.lt
        have hlb11 := b11.lt
        refine sx_then ?_
        refine wp_seq ?_
        refine sx_region ?_
        replace b4 := (b4.past (bthru hbV5 hbV6))
        refine sv 49 (.agg #[.bool x.g, .slice x.p x.xs.length x.c, .int .i64 x.e]) ?_ (hr := (exec_ld (by kernel_rfl) (run_ld b4 hT30 0 [.bool x.g, .slice x.p x.xs.length x.c, .int .i64 x.e] (by kernel_rfl) (by kernel_rfl))))
        replace hx := (hx.past (bthru hbV5 hbV6))
        replace hT := (hT.past (bthru hbV5 hbV6))
        refine se 50 16 #[.agg #[.bool x.g, .slice x.p x.xs.length x.c, .int .i64 x.e]] ?_
        ((with_reducible refine ((HB _ hx hT).out).mono ?_))
        rintro eV7 V7 ⟨p50, c50, rfl, ho50, hbV7⟩
        have hzV7 := hbV7.size
        refine ⟨.tuple #[.agg #[.bool v.neg, .slice p50 (dig B32 v.m).length c50, .int .i64 v.e], .int .i64 0], rfl, ?_⟩
        refine sv 48 (.tuple #[.agg #[.bool v.neg, .slice p50 (dig B32 v.m).length c50, .int .i64 v.e], .int .i64 0]) ?_
        refine sv 51 (.agg #[.bool v.neg, .slice p50 (dig B32 v.m).length c50, .int .i64 v.e]) ?_
        refine sv 52 (.int .i64 0) ?_
        refine sn 13 #[.bool false, .slice none 0 0, .int .i64 0] 30 (fun V8 hbV8 hzV8 b13 => ?_)
        refine ss none b13 hT30 0 #[.bool v.neg, .slice p50 (dig B32 v.m).length c50, .int .i64 v.e] #[.bool v.neg, .slice p50 (dig B32 v.m).length c50, .int .i64 v.e] ?_
        have boV9 := b13
        clear b13
        intro V9 hOV9 b13
        have hzV9 := hOV9.size
        refine sv 14 (.int .i64 0) ?_
        refine sx_nil ?_
        refine sx_then ?_
        refine wp_seq ?_
        refine sx_region ?_
        refine sv 53 (.bool true) ?_
        refine sv 54 (.bool false) ?_
        refine sv 55 (.bool false) ?_
        refine sv 56 (.int .i64 0) ?_
        refine sv 57 (.bool false) ?_
        refine sv 58 (.bool false) ?_
        refine sv 59 (.bool false) ?_
        replace b11 := (b11.past ((bthru hbV7 hbV8).trans (hOV9.below (by omega))))
        refine sv 60 (.agg #[.bool v.neg, .slice p45 (dig B32 v.m).length c45, .int .i64 v.e]) ?_ (hr := (exec_ld (by kernel_rfl) (run_ld b11 hT30 0 [.bool v.neg, .slice p45 (dig B32 v.m).length c45, .int .i64 v.e] (by kernel_rfl) (by kernel_rfl))))
        refine sv 61 (.agg #[.bool v.neg, .slice p50 (dig B32 v.m).length c50, .int .i64 v.e]) ?_ (hr := (exec_ld (by kernel_rfl) (run_ld b13 hT30 0 [.bool v.neg, .slice p50 (dig B32 v.m).length c50, .int .i64 v.e] (by kernel_rfl) (by kernel_rfl))))
        replace ho45 := (ho45.past ((bthru hbV7 hbV8).trans (hOV9.below (by omega))))
        replace ho50 := (ho50.past (hbV8.trans (hOV9.below (by omega))))
        refine se 62 17 #[.agg #[.bool v.neg, .slice p45 (dig B32 v.m).length c45, .int .i64 v.e], .agg #[.bool v.neg, .slice p50 (dig B32 v.m).length c50, .int .i64 v.e]] ?_
        ((with_reducible refine ((HSM _ p45 c45 p50 c50 ho45.rd ho50.rd).out).mono ?_))
        rintro eV10 V10 ⟨rfl, hbV10⟩
        have hzV10 := hbV10.size
        refine ⟨.bool true, rfl, ?_⟩
        refine sv 63 (.bool false) ?_
        refine sv 64 (.bool false) ?_
        refine sx_nil ?_
        refine sx_then ?_
        refine wp_cond_false (by kernel_rfl) ?_
        refine wp_skip ?_
        refine sx_then ?_
        refine wp_seq ?_
        refine sx_region ?_
        replace b5 := (b5.past (bthru ((bthru (bthru (bthru (bthru (bthru hbV3 hbV4) hbV5) hbV6) hbV7) hbV8).trans (hOV9.below (by omega))) hbV10))
        refine sv 66 (.agg #[.bool q.g, .slice q.p q.xs.length q.c, .slice q.q q.ys.length q.d, .int .i64 q.e]) ?_ (hr := (exec_ld (by kernel_rfl) (run_ld b5 hT25 0 [.bool q.g, .slice q.p q.xs.length q.c, .slice q.q q.ys.length q.d, .int .i64 q.e] (by kernel_rfl) (by kernel_rfl))))
        replace b6 := (b6.past (bthru ((bthru (bthru (bthru hbV5 hbV6) hbV7) hbV8).trans (hOV9.below (by omega))) hbV10))
        refine sv 67 (.agg #[.int .i64 g.rad, .int .i64 g.digs, .int .i64 g.lo, .int .i64 g.hi, .bool g.grad]) ?_ (hr := (exec_ld (by kernel_rfl) (run_ld b6 hT27 0 [.int .i64 g.rad, .int .i64 g.digs, .int .i64 g.lo, .int .i64 g.hi, .bool g.grad] (by kernel_rfl) (by kernel_rfl))))
        refine sv 68 (.int .i64 way) ?_
        replace hq := (hq.past (bthru ((bthru (bthru (bthru (bthru (bthru (bthru (bthru hbV1 hbV2) hbV3) hbV4) hbV5) hbV6) hbV7) hbV8).trans (hOV9.below (by omega))) hbV10))
        replace hT := (hT.past (bthru ((bthru hbV7 hbV8).trans (hOV9.below (by omega))) hbV10))
        refine se 69 8 #[.agg #[.bool q.g, .slice q.p q.xs.length q.c, .slice q.q q.ys.length q.d, .int .i64 q.e], .agg #[.int .i64 g.rad, .int .i64 g.digs, .int .i64 g.lo, .int .i64 g.hi, .bool g.grad], .int .i64 way] ?_
        ((with_reducible refine ((HQ _ hq hT).out).mono ?_))
        rintro eV11 V11 ⟨p69, c69, rfl, ho69, hbV11⟩
        have hzV11 := hbV11.size
        refine ⟨.tuple #[.agg #[.bool z.neg, .slice p69 (dig B32 z.m).length c69, .int .i64 z.e], .bool true], rfl, ?_⟩
        refine sv 65 (.tuple #[.agg #[.bool z.neg, .slice p69 (dig B32 z.m).length c69, .int .i64 z.e], .bool true]) ?_
        refine sv 70 (.agg #[.bool z.neg, .slice p69 (dig B32 z.m).length c69, .int .i64 z.e]) ?_
        refine sv 71 (.bool true) ?_
        refine sn 15 #[.bool false, .slice none 0 0, .int .i64 0] 30 (fun V12 hbV12 hzV12 b15 => ?_)
        refine ss none b15 hT30 0 #[.bool z.neg, .slice p69 (dig B32 z.m).length c69, .int .i64 z.e] #[.bool z.neg, .slice p69 (dig B32 z.m).length c69, .int .i64 z.e] ?_
        have boV13 := b15
        clear b15
        intro V13 hOV13 b15
        have hzV13 := hOV13.size
        refine sv 16 (.bool true) ?_
        refine sx_nil ?_
        refine sx_then ?_
        refine wp_seq ?_
        refine wp_seq ?_
        refine sx_region ?_
        refine sv 72 (.bool true) ?_
        refine sv 73 (.bool false) ?_
        refine sx_nil ?_
        refine sx_then ?_
        refine wp_cond_false (by kernel_rfl) ?_
        refine wp_skip ?_
        refine sx_then ?_
        refine wp_seq ?_
        refine sx_region ?_
        refine sv 75 (.agg #[.bool z.neg, .slice p69 (dig B32 z.m).length c69, .int .i64 z.e]) ?_ (hr := (exec_ld (by kernel_rfl) (run_ld b15 hT30 0 [.bool z.neg, .slice p69 (dig B32 z.m).length c69, .int .i64 z.e] (by kernel_rfl) (by kernel_rfl))))
        replace b6 := (b6.past ((bthru hbV11 hbV12).trans (hOV13.below (by omega))))
        refine sv 76 (.agg #[.int .i64 g.rad, .int .i64 g.digs, .int .i64 g.lo, .int .i64 g.hi, .bool g.grad]) ?_ (hr := (exec_ld (by kernel_rfl) (run_ld b6 hT27 0 [.int .i64 g.rad, .int .i64 g.digs, .int .i64 g.lo, .int .i64 g.hi, .bool g.grad] (by kernel_rfl) (by kernel_rfl))))
        replace ho69 := (ho69.past (hbV12.trans (hOV13.below (by omega))))
        replace hT := (hT.past ((bthru hbV11 hbV12).trans (hOV13.below (by omega))))
        refine se 77 14 #[.agg #[.bool z.neg, .slice p69 (dig B32 z.m).length c69, .int .i64 z.e], .agg #[.int .i64 g.rad, .int .i64 g.digs, .int .i64 g.lo, .int .i64 g.hi, .bool g.grad]] ?_
        ((with_reducible refine ((HH2 _ _ p69 c69 ho69 hT).out).mono ?_))
        rintro eV14 V14 ⟨rfl, hbV14⟩
        have hzV14 := hbV14.size
        refine ⟨.tuple #[.bool true, .int .i64 0], rfl, ?_⟩
        refine sv 74 (.tuple #[.bool true, .int .i64 0]) ?_
        refine sv 78 (.bool true) ?_
        refine sv 79 (.int .i64 0) ?_
        refine sv 17 (.bool true) ?_
        refine sv 18 (.int .i64 0) ?_
        refine sx_nil ?_
        refine sx_then ?_
        refine wp_seq ?_
        refine sx_region ?_
        refine sv 80 (.int .i64 0) ?_
        refine sv 81 (.bool true) ?_
        refine sv 82 (.bool true) ?_
        refine sv 83 (.bool true) ?_
        refine sv 84 (.bool true) ?_
        refine sv 8 (.bool true) ?_
        refine sx_nil ?_
        refine sx_then ?_
        refine wp_ret ?_
        repeat (first | with_reducible refine sx_thenret ?_ | with_reducible refine sx_blockret ?_)
        refine bodyPost_ret (v := .bool true) (by simp [results, Tryd.results4, go_sem]) rfl ?_
        exact ⟨rfl, (bthru ((bthru (bthru (bthru ((bthru (bthru (bthru (bthru (bthru (bthru (bthru hbV1 hbV2) hbV3) hbV4) hbV5) hbV6) hbV7) hbV8).trans (hOV9.below (by omega))) hbV10) hbV11) hbV12).trans (hOV13.below (by omega))) hbV14)⟩
      · have hr' : rokB q g way = false := by simpa using hr
        rw [hr'] at HQ
        generalize rvalV q g way = z at *
        have hT3 : SxOne Tryd.prog 3 := sxOne_of (by kernel_rfl) (by kernel_rfl)
        have hT4 : SxOne Tryd.prog 4 := sxOne_of (by kernel_rfl) (by kernel_rfl)
        have hT23 : SxOne Tryd.prog 23 := sxOne_of (by kernel_rfl) (by kernel_rfl)
        have hT25 : SxAgg Tryd.prog 25 4 := sxAgg_of (by kernel_rfl) (by kernel_rfl)
        have hT27 : SxAgg Tryd.prog 27 5 := sxAgg_of (by kernel_rfl) (by kernel_rfl)
        have hT30 : SxAgg Tryd.prog 30 3 := sxAgg_of (by kernel_rfl) (by kernel_rfl)
        refine calls_of_wp Tryd.func4 rfl ?_
        refine sx_frame (a' := ⟨((.agg #[.bool x.g, .slice x.p x.xs.length x.c, .int .i64 x.e]) :: (.agg #[.bool q.g, .slice q.p q.xs.length q.c, .slice q.q q.ys.length q.d, .int .i64 q.e]) :: (.agg #[.int .i64 g.rad, .int .i64 g.digs, .int .i64 g.lo, .int .i64 g.hi, .bool g.grad]) :: (.int .i64 way) :: undef :: undef :: undef :: undef :: undef :: undef :: undef :: undef :: undef :: undef :: undef :: undef :: undef :: undef :: undef :: undef :: undef :: undef :: undef :: undef :: undef :: undef :: undef :: undef :: undef :: undef :: undef :: undef :: undef :: undef :: undef :: undef :: undef :: undef :: undef :: undef :: undef :: undef :: undef :: undef :: undef :: undef :: undef :: undef :: undef :: undef :: undef :: undef :: undef :: undef :: undef :: undef :: undef :: undef :: undef :: undef :: undef :: undef :: undef :: undef :: undef :: undef :: undef :: undef :: undef :: undef :: undef :: undef :: undef :: undef :: undef :: undef :: undef :: undef :: undef :: undef :: undef :: undef :: undef :: undef :: undef :: []).toArray, []⟩) (by kernel_rfl) ?_
        refine wp_seq ?_
        refine sx_region ?_
        refine sn 4 #[.bool x.g, .slice x.p x.xs.length x.c, .int .i64 x.e] 30 (fun V1 hbV1 hzV1 b4 => ?_)
        refine sn 5 #[.bool q.g, .slice q.p q.xs.length q.c, .slice q.q q.ys.length q.d, .int .i64 q.e] 25 (fun V2 hbV2 hzV2 b5 => ?_)
        refine sn 6 #[.int .i64 g.rad, .int .i64 g.digs, .int .i64 g.lo, .int .i64 g.hi, .bool g.grad] 27 (fun V3 hbV3 hzV3 b6 => ?_)
        refine sv 8 (.bool false) ?_
        refine sx_nil ?_
        refine sx_then ?_
        refine wp_seq ?_
        refine wp_seq ?_
        refine sx_region ?_
        refine se 19 7 #[] ?_
        ((with_reducible refine (gridBegun_any _).mono ?_))
        rintro eV4 V4 ⟨rfl, hbV4⟩
        have hzV4 := hbV4.size
        refine ⟨.bool true, rfl, ?_⟩
        refine sv 20 (.bool false) ?_
        refine sx_nil ?_
        refine sx_then ?_
        refine wp_cond_false (by kernel_rfl) ?_
        refine wp_skip ?_
        refine sx_then ?_
        refine wp_seq ?_
        refine wp_seq ?_
        refine sx_region ?_
        replace b4 := (b4.past (bthru (bthru hbV2 hbV3) hbV4))
        refine sv 22 (.agg #[.bool x.g, .slice x.p x.xs.length x.c, .int .i64 x.e]) ?_ (hr := (exec_ld (by kernel_rfl) (run_ld b4 hT30 0 [.bool x.g, .slice x.p x.xs.length x.c, .int .i64 x.e] (by kernel_rfl) (by kernel_rfl))))
        replace b6 := (b6.past hbV4)
        refine sv 23 (.agg #[.int .i64 g.rad, .int .i64 g.digs, .int .i64 g.lo, .int .i64 g.hi, .bool g.grad]) ?_ (hr := (exec_ld (by kernel_rfl) (run_ld b6 hT27 0 [.int .i64 g.rad, .int .i64 g.digs, .int .i64 g.lo, .int .i64 g.hi, .bool g.grad] (by kernel_rfl) (by kernel_rfl))))
        replace hx := (hx.past (bthru (bthru (bthru hbV1 hbV2) hbV3) hbV4))
        replace hT := (hT.past (bthru (bthru (bthru hbV1 hbV2) hbV3) hbV4))
        refine se 24 14 #[.agg #[.bool x.g, .slice x.p x.xs.length x.c, .int .i64 x.e], .agg #[.int .i64 g.rad, .int .i64 g.digs, .int .i64 g.lo, .int .i64 g.hi, .bool g.grad]] ?_
        ((with_reducible refine ((HH _ hx hT).out).mono ?_))
        rintro eV5 V5 ⟨rfl, hbV5⟩
        have hzV5 := hbV5.size
        refine ⟨.tuple #[.bool true, .int .i64 0], rfl, ?_⟩
        refine sv 21 (.tuple #[.bool true, .int .i64 0]) ?_
        refine sv 25 (.bool true) ?_
        refine sv 26 (.int .i64 0) ?_
        refine sv 9 (.bool true) ?_
        refine sv 10 (.int .i64 0) ?_
        refine sx_nil ?_
        refine sx_then ?_
        refine wp_seq ?_
        refine sx_region ?_
        refine sv 27 (.int .i64 0) ?_
        refine sv 28 (.bool true) ?_
        refine sv 29 (.bool true) ?_
        refine sv 30 (.bool true) ?_
        refine sv 31 (.bool true) ?_
        refine sx_nil ?_
        refine sx_then ?_
        refine wp_cond_true (by kernel_rfl) ?_
        refine wp_seq ?_
        refine sx_cut (R := fun a' w' => ∃ (kb37 : Nat) (kb11 : Nat) (p45 : Option Addr) (c45 : Nat), a' = ⟨((.agg #[.bool x.g, .slice x.p x.xs.length x.c, .int .i64 x.e]) :: (.agg #[.bool q.g, .slice q.p q.xs.length q.c, .slice q.q q.ys.length q.d, .int .i64 q.e]) :: (.agg #[.int .i64 g.rad, .int .i64 g.digs, .int .i64 g.lo, .int .i64 g.hi, .bool g.grad]) :: (.int .i64 way) :: (.pointer (some ⟨w.heap.size, 0, none⟩)) :: (.pointer (some ⟨V1.heap.size, 0, none⟩)) :: (.pointer (some ⟨V2.heap.size, 0, none⟩)) :: undef :: (.bool false) :: (.bool true) :: (.int .i64 0) :: (.pointer (some ⟨kb11, 0, none⟩)) :: (.bool true) :: undef :: undef :: undef :: undef :: undef :: undef :: (.bool true) :: (.bool false) :: (.tuple #[.bool true, .int .i64 0]) :: (.agg #[.bool x.g, .slice x.p x.xs.length x.c, .int .i64 x.e]) :: (.agg #[.int .i64 g.rad, .int .i64 g.digs, .int .i64 g.lo, .int .i64 g.hi, .bool g.grad]) :: (.tuple #[.bool true, .int .i64 0]) :: (.bool true) :: (.int .i64 0) :: (.int .i64 0) :: (.bool true) :: (.bool true) :: (.bool true) :: (.bool true) :: (.tuple #[.agg #[.bool v.neg, .slice p45 (dig B32 v.m).length c45, .int .i64 v.e], .bool true]) :: (.pointer (some ⟨w.heap.size, 0, none⟩)) :: (.bool x.g) :: (.pointer (some ⟨w.heap.size, 1, none⟩)) :: (.slice x.p x.xs.length x.c) :: (.slice (some ⟨kb37, 0, none⟩) 1 1) :: (.pointer (some ⟨w.heap.size, 2, none⟩)) :: (.int .i64 x.e) :: (.agg #[.bool x.g, .slice x.p x.xs.length x.c, .slice (some ⟨kb37, 0, none⟩) 1 1, .int .i64 x.e]) :: (.agg #[.int .i64 g.rad, .int .i64 g.digs, .int .i64 g.lo, .int .i64 g.hi, .bool g.grad]) :: (.int .i64 way) :: (.int .i64 ((cw : Nat) : Int)) :: (.int .i64 (1 + (cw : Int))) :: (.tuple #[.agg #[.bool v.neg, .slice p45 (dig B32 v.m).length c45, .int .i64 v.e], .bool true]) :: (.agg #[.bool v.neg, .slice p45 (dig B32 v.m).length c45, .int .i64 v.e]) :: (.bool true) :: undef :: undef :: undef :: undef :: undef :: undef :: undef :: undef :: undef :: undef :: undef :: undef :: undef :: undef :: undef :: undef :: undef :: undef :: undef :: undef :: undef :: undef :: undef :: undef :: undef :: undef :: undef :: undef :: undef :: undef :: undef :: undef :: undef :: undef :: undef :: undef :: undef :: []).toArray, []⟩ ∧ Bt w' kb37 46 #[.int .u32 1] ∧ Bt w' kb11 30 #[.bool v.neg, .slice p45 (dig B32 v.m).length c45, .int .i64 v.e] ∧ Own w' V5.heap.size .u32 46 p45 c45 (dig B32 v.m) ∧ Below V5.heap.size V5 w' ∧ V5.heap.size ≤ kb37 ∧ V5.heap.size ≤ kb11 ∧ kb11 ≠ kb37) ?_ ?_
        · skip
          replace b4 := (b4.past hbV5)
          replace b6 := (b6.past hbV5)
          obtain ⟨V6, hVV6⟩ : ∃ V, V = (V5).drew := ⟨_, rfl⟩
          have hbV6 : Below (V5).heap.size (V5) V6 := by rw [hVV6]; exact (Below.refl _ _).drew
          have hzV6 : V6.heap.size = (V5).heap.size := by rw [hVV6]; rfl
          replace b4 := (b4.past hbV6)
          replace b6 := (b6.past hbV6)
          refine sxd _ (fun w' => Bt w' w.heap.size 30 #[.bool x.g, .slice x.p x.xs.length x.c, .int .i64 x.e] ∧ Bt w' V2.heap.size 27 #[.int .i64 g.rad, .int .i64 g.digs, .int .i64 g.lo, .int .i64 g.hi, .bool g.grad]) hVV6 ⟨b4, b6⟩ ?_
          clear hVV6
          refine tk 0 33 (.pointer (some ⟨w.heap.size, 0, none⟩)) ⟨b4, b6⟩ ?_
          refine tk 1 34 (.bool x.g) ⟨b4, b6⟩ ?_ (hy := fun w' hS => (exec_ld (by kernel_rfl) (run_ld1 hS.1 hT4 0 (.bool x.g) (by kernel_rfl))))
          refine tk 2 35 (.pointer (some ⟨w.heap.size, 1, none⟩)) ⟨b4, b6⟩ ?_
          refine tk 3 36 (.slice x.p x.xs.length x.c) ⟨b4, b6⟩ ?_ (hy := fun w' hS => (exec_ld (by kernel_rfl) (run_ld1 hS.1 hT23 1 (.slice x.p x.xs.length x.c) (by kernel_rfl))))
          refine tk 5 38 (.pointer (some ⟨w.heap.size, 2, none⟩)) ⟨b4, b6⟩ ?_
          refine tk 6 39 (.int .i64 x.e) ⟨b4, b6⟩ ?_ (hy := fun w' hS => (exec_ld (by kernel_rfl) (run_ld1 hS.1 hT3 2 (.int .i64 x.e) (by kernel_rfl))))
          refine tk 8 41 (.agg #[.int .i64 g.rad, .int .i64 g.digs, .int .i64 g.lo, .int .i64 g.hi, .bool g.grad]) ⟨b4, b6⟩ ?_ (hy := fun w' hS => (exec_ld (by kernel_rfl) (run_ld hS.2 hT27 0 [.int .i64 g.rad, .int .i64 g.digs, .int .i64 g.lo, .int .i64 g.hi, .bool g.grad] (by kernel_rfl) (by kernel_rfl))))
          refine tk 9 42 (.int .i64 way) ⟨b4, b6⟩ ?_
          refine sxr [4, 10, 16] ?_
          refine rd2 (fun Kx hKx => ?_) ?_
          · skip
            refine snvk 37 (.slice (some ⟨V6.heap.size, 0, none⟩) 1 1) #[.int .u32 1] 46 (fun V7 hbV7 hzV7 b37 => ?_)
            replace b4 := (b4.past hbV7)
            replace b6 := (b6.past hbV7)
            refine hKx.out _ _ ⟨b4, b6⟩ ?_
            clear hKx Kx
            refine tk 7 40 (.agg #[.bool x.g, .slice x.p x.xs.length x.c, .slice (some ⟨V6.heap.size, 0, none⟩) 1 1, .int .i64 x.e]) ⟨b4, b6⟩ ?_
            refine sxr [10, 16] ?_
            refine rd2 (fun Kx hKx => ?_) ?_
            · skip
              refine sek 43 15 #[.int .i64 way, .int .i64 5] ?_
              ((with_reducible refine ((HC _).out).mono ?_))
              rintro eV8 V8 ⟨rfl, hbV8⟩
              have hzV8 := hbV8.size
              refine ⟨.int .i64 ((cw : Nat) : Int), rfl, ?_⟩
              replace b4 := (b4.past hbV8)
              replace b6 := (b6.past hbV8)
              refine hKx.out _ _ ⟨b4, b6⟩ ?_
              clear hKx Kx
              refine tk 11 44 (.int .i64 (1 + (cw : Int))) ⟨b4, b6⟩ ?_ (hy := fun w' _ => ((show _ = Result.ok (Next.value (.int .i64 (IntKind.wrap .i64 ((1 : Int) + ((cw : Nat) : Int))))) _ by kernel_rfl).trans (congrArg (fun z => Result.ok (Next.value (.int .i64 z)) _) (IntWalk.i64_in _ (by omega)))))
              refine sxr [12, 16] ?_
              refine rd2 (fun Kx hKx => ?_) ?_
              · skip
                replace hx := (hx.past (bthru (bthru (bthru hbV5 hbV6) hbV7) hbV8))
                replace b37 := (b37.past hbV8)
                replace hT := (hT.past (bthru (bthru (bthru hbV5 hbV6) hbV7) hbV8))
                refine sek 45 8 #[.agg #[.bool x.g, .slice x.p x.xs.length x.c, .slice (some ⟨V6.heap.size, 0, none⟩) 1 1, .int .i64 x.e], .agg #[.int .i64 g.rad, .int .i64 g.digs, .int .i64 g.lo, .int .i64 g.hi, .bool g.grad], .int .i64 (1 + (cw : Int))] ?_
                ((with_reducible refine ((HR1 _ _ hx b37 hT).out).mono ?_))
                rintro eV9 V9 ⟨p45, c45, rfl, ho45, hbV9⟩
                have hzV9 := hbV9.size
                refine ⟨.tuple #[.agg #[.bool v.neg, .slice p45 (dig B32 v.m).length c45, .int .i64 v.e], .bool true], rfl, ?_⟩
                replace b4 := (b4.past hbV9)
                replace b6 := (b6.past hbV9)
                refine hKx.out _ _ ⟨b4, b6⟩ ?_
                clear hKx Kx
                refine tk 13 32 (.tuple #[.agg #[.bool v.neg, .slice p45 (dig B32 v.m).length c45, .int .i64 v.e], .bool true]) ⟨b4, b6⟩ ?_
                refine tk 14 46 (.agg #[.bool v.neg, .slice p45 (dig B32 v.m).length c45, .int .i64 v.e]) ⟨b4, b6⟩ ?_
                refine tk 15 47 (.bool true) ⟨b4, b6⟩ ?_
                refine sxr [16] ?_
                refine rd1 (fun Kx hKx => ?_)
                refine snk 11 #[.bool false, .slice none 0 0, .int .i64 0] 30 (fun V10 hbV10 hzV10 b11 => ?_)
                replace b4 := (b4.past hbV10)
                replace b6 := (b6.past hbV10)
                refine hKx.out _ _ ⟨b4, b6⟩ ?_
                clear hKx Kx
                refine sxr [17] ?_
                refine rd1 (fun Kx hKx => ?_)
                refine ssk none b11 hT30 0 #[.bool v.neg, .slice p45 (dig B32 v.m).length c45, .int .i64 v.e] #[.bool v.neg, .slice p45 (dig B32 v.m).length c45, .int .i64 v.e] ?_
                have boV11 := b11
                clear b11
                intro V11 hOV11 b11
                have hzV11 := hOV11.size
                replace b4 := (b4.only hOV11 (by omega))
                replace b6 := (b6.only hOV11 (by omega))
                refine hKx.out _ _ ⟨b4, b6⟩ ?_
                clear hKx Kx
                refine tk 18 12 (.bool true) ⟨b4, b6⟩ ?_
                refine sx_done (by kernel_rfl) ?_
                replace b37 := (b37.past ((bthru hbV9 hbV10).trans (hOV11.below (by omega))))
                replace ho45 := (ho45.past (hbV10.trans (hOV11.below (by omega))))
                exact ⟨rfl, V6.heap.size, V9.heap.size, p45, c45, by kernel_rfl, b37, b11, (ho45.mono (by omega)), ((bthru (bthru (bthru (bthru hbV6 hbV7) hbV8) hbV9) hbV10).trans (hOV11.below (by omega))), by omega, by omega, by omega⟩
              refine rd1 (fun Kx hKx => ?_)
              refine snk 11 #[.bool false, .slice none 0 0, .int .i64 0] 30 (fun V9 hbV9 hzV9 b11 => ?_)
              replace b4 := (b4.past hbV9)
              replace b6 := (b6.past hbV9)
              refine hKx.out _ _ ⟨b4, b6⟩ ?_
              clear hKx Kx
              refine sxr [12] ?_
              refine rd1 (fun Kx hKx => ?_)
              replace hx := (hx.past (bthru (bthru (bthru (bthru hbV5 hbV6) hbV7) hbV8) hbV9))
              replace b37 := (b37.past (bthru hbV8 hbV9))
              replace hT := (hT.past (bthru (bthru (bthru (bthru hbV5 hbV6) hbV7) hbV8) hbV9))
              refine sek 45 8 #[.agg #[.bool x.g, .slice x.p x.xs.length x.c, .slice (some ⟨V6.heap.size, 0, none⟩) 1 1, .int .i64 x.e], .agg #[.int .i64 g.rad, .int .i64 g.digs, .int .i64 g.lo, .int .i64 g.hi, .bool g.grad], .int .i64 (1 + (cw : Int))] ?_
              ((with_reducible refine ((HR1 _ _ hx b37 hT).out).mono ?_))
              rintro eV10 V10 ⟨p45, c45, rfl, ho45, hbV10⟩
              have hzV10 := hbV10.size
              refine ⟨.tuple #[.agg #[.bool v.neg, .slice p45 (dig B32 v.m).length c45, .int .i64 v.e], .bool true], rfl, ?_⟩
              replace b4 := (b4.past hbV10)
              replace b6 := (b6.past hbV10)
              refine hKx.out _ _ ⟨b4, b6⟩ ?_
              clear hKx Kx
              refine tk 13 32 (.tuple #[.agg #[.bool v.neg, .slice p45 (dig B32 v.m).length c45, .int .i64 v.e], .bool true]) ⟨b4, b6⟩ ?_
              refine tk 14 46 (.agg #[.bool v.neg, .slice p45 (dig B32 v.m).length c45, .int .i64 v.e]) ⟨b4, b6⟩ ?_
              refine tk 15 47 (.bool true) ⟨b4, b6⟩ ?_
              refine sxr [17] ?_
              refine rd1 (fun Kx hKx => ?_)
              replace b11 := (b11.past hbV10)
              refine ssk none b11 hT30 0 #[.bool v.neg, .slice p45 (dig B32 v.m).length c45, .int .i64 v.e] #[.bool v.neg, .slice p45 (dig B32 v.m).length c45, .int .i64 v.e] ?_
              have boV11 := b11
              clear b11
              intro V11 hOV11 b11
              have hzV11 := hOV11.size
              replace b4 := (b4.only hOV11 (by omega))
              replace b6 := (b6.only hOV11 (by omega))
              refine hKx.out _ _ ⟨b4, b6⟩ ?_
              clear hKx Kx
              refine tk 18 12 (.bool true) ⟨b4, b6⟩ ?_
              refine sx_done (by kernel_rfl) ?_
              replace b37 := ((b37.past hbV10).only hOV11 (by omega))
              replace ho45 := (ho45.put boV11 hOV11 (by kernel_rfl))
              exact ⟨rfl, V6.heap.size, V8.heap.size, p45, c45, by kernel_rfl, b37, b11, (ho45.mono (by omega)), ((bthru (bthru (bthru (bthru hbV6 hbV7) hbV8) hbV9) hbV10).trans (hOV11.below (by omega))), by omega, by omega, by omega⟩
            refine rd1 (fun Kx hKx => ?_)
            refine snk 11 #[.bool false, .slice none 0 0, .int .i64 0] 30 (fun V8 hbV8 hzV8 b11 => ?_)
            replace b4 := (b4.past hbV8)
            replace b6 := (b6.past hbV8)
            refine hKx.out _ _ ⟨b4, b6⟩ ?_
            clear hKx Kx
            refine sxr [10] ?_
            refine rd1 (fun Kx hKx => ?_)
            refine sek 43 15 #[.int .i64 way, .int .i64 5] ?_
            ((with_reducible refine ((HC _).out).mono ?_))
            rintro eV9 V9 ⟨rfl, hbV9⟩
            have hzV9 := hbV9.size
            refine ⟨.int .i64 ((cw : Nat) : Int), rfl, ?_⟩
            replace b4 := (b4.past hbV9)
            replace b6 := (b6.past hbV9)
            refine hKx.out _ _ ⟨b4, b6⟩ ?_
            clear hKx Kx
            refine tk 11 44 (.int .i64 (1 + (cw : Int))) ⟨b4, b6⟩ ?_ (hy := fun w' _ => ((show _ = Result.ok (Next.value (.int .i64 (IntKind.wrap .i64 ((1 : Int) + ((cw : Nat) : Int))))) _ by kernel_rfl).trans (congrArg (fun z => Result.ok (Next.value (.int .i64 z)) _) (IntWalk.i64_in _ (by omega)))))
            refine sxr [12] ?_
            refine rd1 (fun Kx hKx => ?_)
            replace hx := (hx.past (bthru (bthru (bthru (bthru hbV5 hbV6) hbV7) hbV8) hbV9))
            replace b37 := (b37.past (bthru hbV8 hbV9))
            replace hT := (hT.past (bthru (bthru (bthru (bthru hbV5 hbV6) hbV7) hbV8) hbV9))
            refine sek 45 8 #[.agg #[.bool x.g, .slice x.p x.xs.length x.c, .slice (some ⟨V6.heap.size, 0, none⟩) 1 1, .int .i64 x.e], .agg #[.int .i64 g.rad, .int .i64 g.digs, .int .i64 g.lo, .int .i64 g.hi, .bool g.grad], .int .i64 (1 + (cw : Int))] ?_
            ((with_reducible refine ((HR1 _ _ hx b37 hT).out).mono ?_))
            rintro eV10 V10 ⟨p45, c45, rfl, ho45, hbV10⟩
            have hzV10 := hbV10.size
            refine ⟨.tuple #[.agg #[.bool v.neg, .slice p45 (dig B32 v.m).length c45, .int .i64 v.e], .bool true], rfl, ?_⟩
            replace b4 := (b4.past hbV10)
            replace b6 := (b6.past hbV10)
            refine hKx.out _ _ ⟨b4, b6⟩ ?_
            clear hKx Kx
            refine tk 13 32 (.tuple #[.agg #[.bool v.neg, .slice p45 (dig B32 v.m).length c45, .int .i64 v.e], .bool true]) ⟨b4, b6⟩ ?_
            refine tk 14 46 (.agg #[.bool v.neg, .slice p45 (dig B32 v.m).length c45, .int .i64 v.e]) ⟨b4, b6⟩ ?_
            refine tk 15 47 (.bool true) ⟨b4, b6⟩ ?_
            refine sxr [17] ?_
            refine rd1 (fun Kx hKx => ?_)
            replace b11 := (b11.past (bthru hbV9 hbV10))
            refine ssk none b11 hT30 0 #[.bool v.neg, .slice p45 (dig B32 v.m).length c45, .int .i64 v.e] #[.bool v.neg, .slice p45 (dig B32 v.m).length c45, .int .i64 v.e] ?_
            have boV11 := b11
            clear b11
            intro V11 hOV11 b11
            have hzV11 := hOV11.size
            replace b4 := (b4.only hOV11 (by omega))
            replace b6 := (b6.only hOV11 (by omega))
            refine hKx.out _ _ ⟨b4, b6⟩ ?_
            clear hKx Kx
            refine tk 18 12 (.bool true) ⟨b4, b6⟩ ?_
            refine sx_done (by kernel_rfl) ?_
            replace b37 := ((b37.past hbV10).only hOV11 (by omega))
            replace ho45 := (ho45.put boV11 hOV11 (by kernel_rfl))
            exact ⟨rfl, V6.heap.size, V7.heap.size, p45, c45, by kernel_rfl, b37, b11, (ho45.mono (by omega)), ((bthru (bthru (bthru (bthru hbV6 hbV7) hbV8) hbV9) hbV10).trans (hOV11.below (by omega))), by omega, by omega, by omega⟩
          refine rd2 (fun Kx hKx => ?_) ?_
          · skip
            refine sek 43 15 #[.int .i64 way, .int .i64 5] ?_
            ((with_reducible refine ((HC _).out).mono ?_))
            rintro eV7 V7 ⟨rfl, hbV7⟩
            have hzV7 := hbV7.size
            refine ⟨.int .i64 ((cw : Nat) : Int), rfl, ?_⟩
            replace b4 := (b4.past hbV7)
            replace b6 := (b6.past hbV7)
            refine hKx.out _ _ ⟨b4, b6⟩ ?_
            clear hKx Kx
            refine tk 11 44 (.int .i64 (1 + (cw : Int))) ⟨b4, b6⟩ ?_ (hy := fun w' _ => ((show _ = Result.ok (Next.value (.int .i64 (IntKind.wrap .i64 ((1 : Int) + ((cw : Nat) : Int))))) _ by kernel_rfl).trans (congrArg (fun z => Result.ok (Next.value (.int .i64 z)) _) (IntWalk.i64_in _ (by omega)))))
            refine sxr [4, 16] ?_
            refine rd2 (fun Kx hKx => ?_) ?_
            · skip
              refine snvk 37 (.slice (some ⟨V7.heap.size, 0, none⟩) 1 1) #[.int .u32 1] 46 (fun V8 hbV8 hzV8 b37 => ?_)
              replace b4 := (b4.past hbV8)
              replace b6 := (b6.past hbV8)
              refine hKx.out _ _ ⟨b4, b6⟩ ?_
              clear hKx Kx
              refine tk 7 40 (.agg #[.bool x.g, .slice x.p x.xs.length x.c, .slice (some ⟨V7.heap.size, 0, none⟩) 1 1, .int .i64 x.e]) ⟨b4, b6⟩ ?_
              refine sxr [12, 16] ?_
              refine rd2 (fun Kx hKx => ?_) ?_
              · skip
                replace hx := (hx.past (bthru (bthru (bthru hbV5 hbV6) hbV7) hbV8))
                replace hT := (hT.past (bthru (bthru (bthru hbV5 hbV6) hbV7) hbV8))
                refine sek 45 8 #[.agg #[.bool x.g, .slice x.p x.xs.length x.c, .slice (some ⟨V7.heap.size, 0, none⟩) 1 1, .int .i64 x.e], .agg #[.int .i64 g.rad, .int .i64 g.digs, .int .i64 g.lo, .int .i64 g.hi, .bool g.grad], .int .i64 (1 + (cw : Int))] ?_
                ((with_reducible refine ((HR1 _ _ hx b37 hT).out).mono ?_))
                rintro eV9 V9 ⟨p45, c45, rfl, ho45, hbV9⟩
                have hzV9 := hbV9.size
                refine ⟨.tuple #[.agg #[.bool v.neg, .slice p45 (dig B32 v.m).length c45, .int .i64 v.e], .bool true], rfl, ?_⟩
                replace b4 := (b4.past hbV9)
                replace b6 := (b6.past hbV9)
                refine hKx.out _ _ ⟨b4, b6⟩ ?_
                clear hKx Kx
                refine tk 13 32 (.tuple #[.agg #[.bool v.neg, .slice p45 (dig B32 v.m).length c45, .int .i64 v.e], .bool true]) ⟨b4, b6⟩ ?_
                refine tk 14 46 (.agg #[.bool v.neg, .slice p45 (dig B32 v.m).length c45, .int .i64 v.e]) ⟨b4, b6⟩ ?_
                refine tk 15 47 (.bool true) ⟨b4, b6⟩ ?_
                refine sxr [16] ?_
                refine rd1 (fun Kx hKx => ?_)
                refine snk 11 #[.bool false, .slice none 0 0, .int .i64 0] 30 (fun V10 hbV10 hzV10 b11 => ?_)
                replace b4 := (b4.past hbV10)
                replace b6 := (b6.past hbV10)
                refine hKx.out _ _ ⟨b4, b6⟩ ?_
                clear hKx Kx
                refine sxr [17] ?_
                refine rd1 (fun Kx hKx => ?_)
                refine ssk none b11 hT30 0 #[.bool v.neg, .slice p45 (dig B32 v.m).length c45, .int .i64 v.e] #[.bool v.neg, .slice p45 (dig B32 v.m).length c45, .int .i64 v.e] ?_
                have boV11 := b11
                clear b11
                intro V11 hOV11 b11
                have hzV11 := hOV11.size
                replace b4 := (b4.only hOV11 (by omega))
                replace b6 := (b6.only hOV11 (by omega))
                refine hKx.out _ _ ⟨b4, b6⟩ ?_
                clear hKx Kx
                refine tk 18 12 (.bool true) ⟨b4, b6⟩ ?_
                refine sx_done (by kernel_rfl) ?_
                replace b37 := (b37.past ((bthru hbV9 hbV10).trans (hOV11.below (by omega))))
                replace ho45 := (ho45.past (hbV10.trans (hOV11.below (by omega))))
                exact ⟨rfl, V7.heap.size, V9.heap.size, p45, c45, by kernel_rfl, b37, b11, (ho45.mono (by omega)), ((bthru (bthru (bthru (bthru hbV6 hbV7) hbV8) hbV9) hbV10).trans (hOV11.below (by omega))), by omega, by omega, by omega⟩
              refine rd1 (fun Kx hKx => ?_)
              refine snk 11 #[.bool false, .slice none 0 0, .int .i64 0] 30 (fun V9 hbV9 hzV9 b11 => ?_)
              replace b4 := (b4.past hbV9)
              replace b6 := (b6.past hbV9)
              refine hKx.out _ _ ⟨b4, b6⟩ ?_
              clear hKx Kx
              refine sxr [12] ?_
              refine rd1 (fun Kx hKx => ?_)
              replace hx := (hx.past (bthru (bthru (bthru (bthru hbV5 hbV6) hbV7) hbV8) hbV9))
              replace b37 := (b37.past hbV9)
              replace hT := (hT.past (bthru (bthru (bthru (bthru hbV5 hbV6) hbV7) hbV8) hbV9))
              refine sek 45 8 #[.agg #[.bool x.g, .slice x.p x.xs.length x.c, .slice (some ⟨V7.heap.size, 0, none⟩) 1 1, .int .i64 x.e], .agg #[.int .i64 g.rad, .int .i64 g.digs, .int .i64 g.lo, .int .i64 g.hi, .bool g.grad], .int .i64 (1 + (cw : Int))] ?_
              ((with_reducible refine ((HR1 _ _ hx b37 hT).out).mono ?_))
              rintro eV10 V10 ⟨p45, c45, rfl, ho45, hbV10⟩
              have hzV10 := hbV10.size
              refine ⟨.tuple #[.agg #[.bool v.neg, .slice p45 (dig B32 v.m).length c45, .int .i64 v.e], .bool true], rfl, ?_⟩
              replace b4 := (b4.past hbV10)
              replace b6 := (b6.past hbV10)
              refine hKx.out _ _ ⟨b4, b6⟩ ?_
              clear hKx Kx
              refine tk 13 32 (.tuple #[.agg #[.bool v.neg, .slice p45 (dig B32 v.m).length c45, .int .i64 v.e], .bool true]) ⟨b4, b6⟩ ?_
              refine tk 14 46 (.agg #[.bool v.neg, .slice p45 (dig B32 v.m).length c45, .int .i64 v.e]) ⟨b4, b6⟩ ?_
              refine tk 15 47 (.bool true) ⟨b4, b6⟩ ?_
              refine sxr [17] ?_
              refine rd1 (fun Kx hKx => ?_)
              replace b11 := (b11.past hbV10)
              refine ssk none b11 hT30 0 #[.bool v.neg, .slice p45 (dig B32 v.m).length c45, .int .i64 v.e] #[.bool v.neg, .slice p45 (dig B32 v.m).length c45, .int .i64 v.e] ?_
              have boV11 := b11
              clear b11
              intro V11 hOV11 b11
              have hzV11 := hOV11.size
              replace b4 := (b4.only hOV11 (by omega))
              replace b6 := (b6.only hOV11 (by omega))
              refine hKx.out _ _ ⟨b4, b6⟩ ?_
              clear hKx Kx
              refine tk 18 12 (.bool true) ⟨b4, b6⟩ ?_
              refine sx_done (by kernel_rfl) ?_
              replace b37 := ((b37.past hbV10).only hOV11 (by omega))
              replace ho45 := (ho45.put boV11 hOV11 (by kernel_rfl))
              exact ⟨rfl, V7.heap.size, V8.heap.size, p45, c45, by kernel_rfl, b37, b11, (ho45.mono (by omega)), ((bthru (bthru (bthru (bthru hbV6 hbV7) hbV8) hbV9) hbV10).trans (hOV11.below (by omega))), by omega, by omega, by omega⟩
            refine rd1 (fun Kx hKx => ?_)
            refine snk 11 #[.bool false, .slice none 0 0, .int .i64 0] 30 (fun V8 hbV8 hzV8 b11 => ?_)
            replace b4 := (b4.past hbV8)
            replace b6 := (b6.past hbV8)
            refine hKx.out _ _ ⟨b4, b6⟩ ?_
            clear hKx Kx
            refine sxr [4] ?_
            refine rd1 (fun Kx hKx => ?_)
            refine snvk 37 (.slice (some ⟨V8.heap.size, 0, none⟩) 1 1) #[.int .u32 1] 46 (fun V9 hbV9 hzV9 b37 => ?_)
            replace b4 := (b4.past hbV9)
            replace b6 := (b6.past hbV9)
            refine hKx.out _ _ ⟨b4, b6⟩ ?_
            clear hKx Kx
            refine tk 7 40 (.agg #[.bool x.g, .slice x.p x.xs.length x.c, .slice (some ⟨V8.heap.size, 0, none⟩) 1 1, .int .i64 x.e]) ⟨b4, b6⟩ ?_
            refine sxr [12] ?_
            refine rd1 (fun Kx hKx => ?_)
            replace hx := (hx.past (bthru (bthru (bthru (bthru hbV5 hbV6) hbV7) hbV8) hbV9))
            replace hT := (hT.past (bthru (bthru (bthru (bthru hbV5 hbV6) hbV7) hbV8) hbV9))
            refine sek 45 8 #[.agg #[.bool x.g, .slice x.p x.xs.length x.c, .slice (some ⟨V8.heap.size, 0, none⟩) 1 1, .int .i64 x.e], .agg #[.int .i64 g.rad, .int .i64 g.digs, .int .i64 g.lo, .int .i64 g.hi, .bool g.grad], .int .i64 (1 + (cw : Int))] ?_
            ((with_reducible refine ((HR1 _ _ hx b37 hT).out).mono ?_))
            rintro eV10 V10 ⟨p45, c45, rfl, ho45, hbV10⟩
            have hzV10 := hbV10.size
            refine ⟨.tuple #[.agg #[.bool v.neg, .slice p45 (dig B32 v.m).length c45, .int .i64 v.e], .bool true], rfl, ?_⟩
            replace b4 := (b4.past hbV10)
            replace b6 := (b6.past hbV10)
            refine hKx.out _ _ ⟨b4, b6⟩ ?_
            clear hKx Kx
            refine tk 13 32 (.tuple #[.agg #[.bool v.neg, .slice p45 (dig B32 v.m).length c45, .int .i64 v.e], .bool true]) ⟨b4, b6⟩ ?_
            refine tk 14 46 (.agg #[.bool v.neg, .slice p45 (dig B32 v.m).length c45, .int .i64 v.e]) ⟨b4, b6⟩ ?_
            refine tk 15 47 (.bool true) ⟨b4, b6⟩ ?_
            refine sxr [17] ?_
            refine rd1 (fun Kx hKx => ?_)
            replace b11 := (b11.past (bthru hbV9 hbV10))
            refine ssk none b11 hT30 0 #[.bool v.neg, .slice p45 (dig B32 v.m).length c45, .int .i64 v.e] #[.bool v.neg, .slice p45 (dig B32 v.m).length c45, .int .i64 v.e] ?_
            have boV11 := b11
            clear b11
            intro V11 hOV11 b11
            have hzV11 := hOV11.size
            replace b4 := (b4.only hOV11 (by omega))
            replace b6 := (b6.only hOV11 (by omega))
            refine hKx.out _ _ ⟨b4, b6⟩ ?_
            clear hKx Kx
            refine tk 18 12 (.bool true) ⟨b4, b6⟩ ?_
            refine sx_done (by kernel_rfl) ?_
            replace b37 := ((b37.past hbV10).only hOV11 (by omega))
            replace ho45 := (ho45.put boV11 hOV11 (by kernel_rfl))
            exact ⟨rfl, V8.heap.size, V7.heap.size, p45, c45, by kernel_rfl, b37, b11, (ho45.mono (by omega)), ((bthru (bthru (bthru (bthru hbV6 hbV7) hbV8) hbV9) hbV10).trans (hOV11.below (by omega))), by omega, by omega, by omega⟩
          refine rd1 (fun Kx hKx => ?_)
          refine snk 11 #[.bool false, .slice none 0 0, .int .i64 0] 30 (fun V7 hbV7 hzV7 b11 => ?_)
          replace b4 := (b4.past hbV7)
          replace b6 := (b6.past hbV7)
          refine hKx.out _ _ ⟨b4, b6⟩ ?_
          clear hKx Kx
          refine sxr [4, 10] ?_
          refine rd2 (fun Kx hKx => ?_) ?_
          · skip
            refine snvk 37 (.slice (some ⟨V7.heap.size, 0, none⟩) 1 1) #[.int .u32 1] 46 (fun V8 hbV8 hzV8 b37 => ?_)
            replace b4 := (b4.past hbV8)
            replace b6 := (b6.past hbV8)
            refine hKx.out _ _ ⟨b4, b6⟩ ?_
            clear hKx Kx
            refine tk 7 40 (.agg #[.bool x.g, .slice x.p x.xs.length x.c, .slice (some ⟨V7.heap.size, 0, none⟩) 1 1, .int .i64 x.e]) ⟨b4, b6⟩ ?_
            refine sxr [10] ?_
            refine rd1 (fun Kx hKx => ?_)
            refine sek 43 15 #[.int .i64 way, .int .i64 5] ?_
            ((with_reducible refine ((HC _).out).mono ?_))
            rintro eV9 V9 ⟨rfl, hbV9⟩
            have hzV9 := hbV9.size
            refine ⟨.int .i64 ((cw : Nat) : Int), rfl, ?_⟩
            replace b4 := (b4.past hbV9)
            replace b6 := (b6.past hbV9)
            refine hKx.out _ _ ⟨b4, b6⟩ ?_
            clear hKx Kx
            refine tk 11 44 (.int .i64 (1 + (cw : Int))) ⟨b4, b6⟩ ?_ (hy := fun w' _ => ((show _ = Result.ok (Next.value (.int .i64 (IntKind.wrap .i64 ((1 : Int) + ((cw : Nat) : Int))))) _ by kernel_rfl).trans (congrArg (fun z => Result.ok (Next.value (.int .i64 z)) _) (IntWalk.i64_in _ (by omega)))))
            refine sxr [12] ?_
            refine rd1 (fun Kx hKx => ?_)
            replace hx := (hx.past (bthru (bthru (bthru (bthru hbV5 hbV6) hbV7) hbV8) hbV9))
            replace b37 := (b37.past hbV9)
            replace hT := (hT.past (bthru (bthru (bthru (bthru hbV5 hbV6) hbV7) hbV8) hbV9))
            refine sek 45 8 #[.agg #[.bool x.g, .slice x.p x.xs.length x.c, .slice (some ⟨V7.heap.size, 0, none⟩) 1 1, .int .i64 x.e], .agg #[.int .i64 g.rad, .int .i64 g.digs, .int .i64 g.lo, .int .i64 g.hi, .bool g.grad], .int .i64 (1 + (cw : Int))] ?_
            ((with_reducible refine ((HR1 _ _ hx b37 hT).out).mono ?_))
            rintro eV10 V10 ⟨p45, c45, rfl, ho45, hbV10⟩
            have hzV10 := hbV10.size
            refine ⟨.tuple #[.agg #[.bool v.neg, .slice p45 (dig B32 v.m).length c45, .int .i64 v.e], .bool true], rfl, ?_⟩
            replace b4 := (b4.past hbV10)
            replace b6 := (b6.past hbV10)
            refine hKx.out _ _ ⟨b4, b6⟩ ?_
            clear hKx Kx
            refine tk 13 32 (.tuple #[.agg #[.bool v.neg, .slice p45 (dig B32 v.m).length c45, .int .i64 v.e], .bool true]) ⟨b4, b6⟩ ?_
            refine tk 14 46 (.agg #[.bool v.neg, .slice p45 (dig B32 v.m).length c45, .int .i64 v.e]) ⟨b4, b6⟩ ?_
            refine tk 15 47 (.bool true) ⟨b4, b6⟩ ?_
            refine sxr [17] ?_
            refine rd1 (fun Kx hKx => ?_)
            replace b11 := (b11.past (bthru (bthru hbV8 hbV9) hbV10))
            refine ssk none b11 hT30 0 #[.bool v.neg, .slice p45 (dig B32 v.m).length c45, .int .i64 v.e] #[.bool v.neg, .slice p45 (dig B32 v.m).length c45, .int .i64 v.e] ?_
            have boV11 := b11
            clear b11
            intro V11 hOV11 b11
            have hzV11 := hOV11.size
            replace b4 := (b4.only hOV11 (by omega))
            replace b6 := (b6.only hOV11 (by omega))
            refine hKx.out _ _ ⟨b4, b6⟩ ?_
            clear hKx Kx
            refine tk 18 12 (.bool true) ⟨b4, b6⟩ ?_
            refine sx_done (by kernel_rfl) ?_
            replace b37 := ((b37.past hbV10).only hOV11 (by omega))
            replace ho45 := (ho45.put boV11 hOV11 (by kernel_rfl))
            exact ⟨rfl, V7.heap.size, V6.heap.size, p45, c45, by kernel_rfl, b37, b11, (ho45.mono (by omega)), ((bthru (bthru (bthru (bthru hbV6 hbV7) hbV8) hbV9) hbV10).trans (hOV11.below (by omega))), by omega, by omega, by omega⟩
          refine rd1 (fun Kx hKx => ?_)
          refine sek 43 15 #[.int .i64 way, .int .i64 5] ?_
          ((with_reducible refine ((HC _).out).mono ?_))
          rintro eV8 V8 ⟨rfl, hbV8⟩
          have hzV8 := hbV8.size
          refine ⟨.int .i64 ((cw : Nat) : Int), rfl, ?_⟩
          replace b4 := (b4.past hbV8)
          replace b6 := (b6.past hbV8)
          refine hKx.out _ _ ⟨b4, b6⟩ ?_
          clear hKx Kx
          refine tk 11 44 (.int .i64 (1 + (cw : Int))) ⟨b4, b6⟩ ?_ (hy := fun w' _ => ((show _ = Result.ok (Next.value (.int .i64 (IntKind.wrap .i64 ((1 : Int) + ((cw : Nat) : Int))))) _ by kernel_rfl).trans (congrArg (fun z => Result.ok (Next.value (.int .i64 z)) _) (IntWalk.i64_in _ (by omega)))))
          refine sxr [4] ?_
          refine rd1 (fun Kx hKx => ?_)
          refine snvk 37 (.slice (some ⟨V8.heap.size, 0, none⟩) 1 1) #[.int .u32 1] 46 (fun V9 hbV9 hzV9 b37 => ?_)
          replace b4 := (b4.past hbV9)
          replace b6 := (b6.past hbV9)
          refine hKx.out _ _ ⟨b4, b6⟩ ?_
          clear hKx Kx
          refine tk 7 40 (.agg #[.bool x.g, .slice x.p x.xs.length x.c, .slice (some ⟨V8.heap.size, 0, none⟩) 1 1, .int .i64 x.e]) ⟨b4, b6⟩ ?_
          refine sxr [12] ?_
          refine rd1 (fun Kx hKx => ?_)
          replace hx := (hx.past (bthru (bthru (bthru (bthru hbV5 hbV6) hbV7) hbV8) hbV9))
          replace hT := (hT.past (bthru (bthru (bthru (bthru hbV5 hbV6) hbV7) hbV8) hbV9))
          refine sek 45 8 #[.agg #[.bool x.g, .slice x.p x.xs.length x.c, .slice (some ⟨V8.heap.size, 0, none⟩) 1 1, .int .i64 x.e], .agg #[.int .i64 g.rad, .int .i64 g.digs, .int .i64 g.lo, .int .i64 g.hi, .bool g.grad], .int .i64 (1 + (cw : Int))] ?_
          ((with_reducible refine ((HR1 _ _ hx b37 hT).out).mono ?_))
          rintro eV10 V10 ⟨p45, c45, rfl, ho45, hbV10⟩
          have hzV10 := hbV10.size
          refine ⟨.tuple #[.agg #[.bool v.neg, .slice p45 (dig B32 v.m).length c45, .int .i64 v.e], .bool true], rfl, ?_⟩
          replace b4 := (b4.past hbV10)
          replace b6 := (b6.past hbV10)
          refine hKx.out _ _ ⟨b4, b6⟩ ?_
          clear hKx Kx
          refine tk 13 32 (.tuple #[.agg #[.bool v.neg, .slice p45 (dig B32 v.m).length c45, .int .i64 v.e], .bool true]) ⟨b4, b6⟩ ?_
          refine tk 14 46 (.agg #[.bool v.neg, .slice p45 (dig B32 v.m).length c45, .int .i64 v.e]) ⟨b4, b6⟩ ?_
          refine tk 15 47 (.bool true) ⟨b4, b6⟩ ?_
          refine sxr [17] ?_
          refine rd1 (fun Kx hKx => ?_)
          replace b11 := (b11.past (bthru (bthru hbV8 hbV9) hbV10))
          refine ssk none b11 hT30 0 #[.bool v.neg, .slice p45 (dig B32 v.m).length c45, .int .i64 v.e] #[.bool v.neg, .slice p45 (dig B32 v.m).length c45, .int .i64 v.e] ?_
          have boV11 := b11
          clear b11
          intro V11 hOV11 b11
          have hzV11 := hOV11.size
          replace b4 := (b4.only hOV11 (by omega))
          replace b6 := (b6.only hOV11 (by omega))
          refine hKx.out _ _ ⟨b4, b6⟩ ?_
          clear hKx Kx
          refine tk 18 12 (.bool true) ⟨b4, b6⟩ ?_
          refine sx_done (by kernel_rfl) ?_
          replace b37 := ((b37.past hbV10).only hOV11 (by omega))
          replace ho45 := (ho45.put boV11 hOV11 (by kernel_rfl))
          exact ⟨rfl, V8.heap.size, V6.heap.size, p45, c45, by kernel_rfl, b37, b11, (ho45.mono (by omega)), ((bthru (bthru (bthru (bthru hbV6 hbV7) hbV8) hbV9) hbV10).trans (hOV11.below (by omega))), by omega, by omega, by omega⟩
        rintro _ V6 ⟨kb37, kb11, p45, c45, rfl, b37, b11, ho45, hbV6, hkb37, hkb11, hd_b11_b37⟩
        have hzV6 := hbV6.size
        have hlb37 := b37.lt
        have hlb11 := b11.lt
        refine sx_then ?_
        refine wp_seq ?_
        refine sx_region ?_
        replace b4 := (b4.past (bthru hbV5 hbV6))
        refine sv 49 (.agg #[.bool x.g, .slice x.p x.xs.length x.c, .int .i64 x.e]) ?_ (hr := (exec_ld (by kernel_rfl) (run_ld b4 hT30 0 [.bool x.g, .slice x.p x.xs.length x.c, .int .i64 x.e] (by kernel_rfl) (by kernel_rfl))))
        replace hx := (hx.past (bthru hbV5 hbV6))
        replace hT := (hT.past (bthru hbV5 hbV6))
        refine se 50 16 #[.agg #[.bool x.g, .slice x.p x.xs.length x.c, .int .i64 x.e]] ?_
        ((with_reducible refine ((HB _ hx hT).out).mono ?_))
        rintro eV7 V7 ⟨p50, c50, rfl, ho50, hbV7⟩
        have hzV7 := hbV7.size
        refine ⟨.tuple #[.agg #[.bool v.neg, .slice p50 (dig B32 v.m).length c50, .int .i64 v.e], .int .i64 0], rfl, ?_⟩
        refine sv 48 (.tuple #[.agg #[.bool v.neg, .slice p50 (dig B32 v.m).length c50, .int .i64 v.e], .int .i64 0]) ?_
        refine sv 51 (.agg #[.bool v.neg, .slice p50 (dig B32 v.m).length c50, .int .i64 v.e]) ?_
        refine sv 52 (.int .i64 0) ?_
        refine sn 13 #[.bool false, .slice none 0 0, .int .i64 0] 30 (fun V8 hbV8 hzV8 b13 => ?_)
        refine ss none b13 hT30 0 #[.bool v.neg, .slice p50 (dig B32 v.m).length c50, .int .i64 v.e] #[.bool v.neg, .slice p50 (dig B32 v.m).length c50, .int .i64 v.e] ?_
        have boV9 := b13
        clear b13
        intro V9 hOV9 b13
        have hzV9 := hOV9.size
        refine sv 14 (.int .i64 0) ?_
        refine sx_nil ?_
        refine sx_then ?_
        refine wp_seq ?_
        refine sx_region ?_
        refine sv 53 (.bool true) ?_
        refine sv 54 (.bool false) ?_
        refine sv 55 (.bool false) ?_
        refine sv 56 (.int .i64 0) ?_
        refine sv 57 (.bool false) ?_
        refine sv 58 (.bool false) ?_
        refine sv 59 (.bool false) ?_
        replace b11 := (b11.past ((bthru hbV7 hbV8).trans (hOV9.below (by omega))))
        refine sv 60 (.agg #[.bool v.neg, .slice p45 (dig B32 v.m).length c45, .int .i64 v.e]) ?_ (hr := (exec_ld (by kernel_rfl) (run_ld b11 hT30 0 [.bool v.neg, .slice p45 (dig B32 v.m).length c45, .int .i64 v.e] (by kernel_rfl) (by kernel_rfl))))
        refine sv 61 (.agg #[.bool v.neg, .slice p50 (dig B32 v.m).length c50, .int .i64 v.e]) ?_ (hr := (exec_ld (by kernel_rfl) (run_ld b13 hT30 0 [.bool v.neg, .slice p50 (dig B32 v.m).length c50, .int .i64 v.e] (by kernel_rfl) (by kernel_rfl))))
        replace ho45 := (ho45.past ((bthru hbV7 hbV8).trans (hOV9.below (by omega))))
        replace ho50 := (ho50.past (hbV8.trans (hOV9.below (by omega))))
        refine se 62 17 #[.agg #[.bool v.neg, .slice p45 (dig B32 v.m).length c45, .int .i64 v.e], .agg #[.bool v.neg, .slice p50 (dig B32 v.m).length c50, .int .i64 v.e]] ?_
        ((with_reducible refine ((HSM _ p45 c45 p50 c50 ho45.rd ho50.rd).out).mono ?_))
        rintro eV10 V10 ⟨rfl, hbV10⟩
        have hzV10 := hbV10.size
        refine ⟨.bool true, rfl, ?_⟩
        refine sv 63 (.bool false) ?_
        refine sv 64 (.bool false) ?_
        refine sx_nil ?_
        refine sx_then ?_
        refine wp_cond_false (by kernel_rfl) ?_
        refine wp_skip ?_
        refine sx_then ?_
        refine wp_seq ?_
        refine sx_region ?_
        replace b5 := (b5.past (bthru ((bthru (bthru (bthru (bthru (bthru hbV3 hbV4) hbV5) hbV6) hbV7) hbV8).trans (hOV9.below (by omega))) hbV10))
        refine sv 66 (.agg #[.bool q.g, .slice q.p q.xs.length q.c, .slice q.q q.ys.length q.d, .int .i64 q.e]) ?_ (hr := (exec_ld (by kernel_rfl) (run_ld b5 hT25 0 [.bool q.g, .slice q.p q.xs.length q.c, .slice q.q q.ys.length q.d, .int .i64 q.e] (by kernel_rfl) (by kernel_rfl))))
        replace b6 := (b6.past (bthru ((bthru (bthru (bthru hbV5 hbV6) hbV7) hbV8).trans (hOV9.below (by omega))) hbV10))
        refine sv 67 (.agg #[.int .i64 g.rad, .int .i64 g.digs, .int .i64 g.lo, .int .i64 g.hi, .bool g.grad]) ?_ (hr := (exec_ld (by kernel_rfl) (run_ld b6 hT27 0 [.int .i64 g.rad, .int .i64 g.digs, .int .i64 g.lo, .int .i64 g.hi, .bool g.grad] (by kernel_rfl) (by kernel_rfl))))
        refine sv 68 (.int .i64 way) ?_
        replace hq := (hq.past (bthru ((bthru (bthru (bthru (bthru (bthru (bthru (bthru hbV1 hbV2) hbV3) hbV4) hbV5) hbV6) hbV7) hbV8).trans (hOV9.below (by omega))) hbV10))
        replace hT := (hT.past (bthru ((bthru hbV7 hbV8).trans (hOV9.below (by omega))) hbV10))
        refine se 69 8 #[.agg #[.bool q.g, .slice q.p q.xs.length q.c, .slice q.q q.ys.length q.d, .int .i64 q.e], .agg #[.int .i64 g.rad, .int .i64 g.digs, .int .i64 g.lo, .int .i64 g.hi, .bool g.grad], .int .i64 way] ?_
        ((with_reducible refine ((HQ _ hq hT).out).mono ?_))
        rintro eV11 V11 ⟨p69, c69, rfl, ho69, hbV11⟩
        have hzV11 := hbV11.size
        refine ⟨.tuple #[.agg #[.bool z.neg, .slice p69 (dig B32 z.m).length c69, .int .i64 z.e], .bool false], rfl, ?_⟩
        refine sv 65 (.tuple #[.agg #[.bool z.neg, .slice p69 (dig B32 z.m).length c69, .int .i64 z.e], .bool false]) ?_
        refine sv 70 (.agg #[.bool z.neg, .slice p69 (dig B32 z.m).length c69, .int .i64 z.e]) ?_
        refine sv 71 (.bool false) ?_
        refine sn 15 #[.bool false, .slice none 0 0, .int .i64 0] 30 (fun V12 hbV12 hzV12 b15 => ?_)
        refine ss none b15 hT30 0 #[.bool z.neg, .slice p69 (dig B32 z.m).length c69, .int .i64 z.e] #[.bool z.neg, .slice p69 (dig B32 z.m).length c69, .int .i64 z.e] ?_
        have boV13 := b15
        clear b15
        intro V13 hOV13 b15
        have hzV13 := hOV13.size
        refine sv 16 (.bool false) ?_
        refine sx_nil ?_
        refine sx_then ?_
        refine wp_seq ?_
        refine wp_seq ?_
        refine sx_region ?_
        refine sv 72 (.bool false) ?_
        refine sv 73 (.bool true) ?_
        refine sx_nil ?_
        refine sx_then ?_
        refine wp_cond_true (by kernel_rfl) ?_
        refine wp_seq ?_
        refine sx_region ?_
        refine sv 8 (.bool true) ?_
        refine sx_nil ?_
        refine sx_then ?_
        refine wp_ret ?_
        repeat (first | with_reducible refine sx_thenret ?_ | with_reducible refine sx_blockret ?_)
        refine bodyPost_ret (v := .bool true) (by simp [results, Tryd.results4, go_sem]) rfl ?_
        exact ⟨rfl, ((bthru (bthru (bthru ((bthru (bthru (bthru (bthru (bthru (bthru (bthru hbV1 hbV2) hbV3) hbV4) hbV5) hbV6) hbV7) hbV8).trans (hOV9.below (by omega))) hbV10) hbV11) hbV12).trans (hOV13.below (by omega)))⟩
    · rw [show holdsB x g = false by unfold holdsB; rw [decide_eq_true h0, Bool.true_and, hki]; simpa using h1, h0] at HH
      by_cases hr : rokB q g way = true
      · have HH2 : ∀ W base p c (h : Own W base .u32 46 p c (dig B32 (rvalV q g way).m)) (hT : TabW W), Hid (Calls Tryd.prog 14 #[.agg #[.bool (rvalV q g way).neg, .slice p (dig B32 (rvalV q g way).m).length c, .int .i64 (rvalV q g way).e], .agg #[.int .i64 g.rad, .int .i64 g.digs, .int .i64 g.lo, .int .i64 g.hi, .bool g.grad]] W fun en w' => en = .returned (.tuple #[.bool true, .int .i64 0]) ∧ Below W.heap.size W w') := fun W base p c h hT => by
          obtain ⟨z1, z2, z3⟩ := keep_two hq hr p c
          have hR := holds_any (dinOf (rvalV q g way) p c) g W (dinOf_in h (by omega)) hT
          rw [z1, z2] at hR
          exact Lib.hid hR
        rw [hr] at HQ
        generalize rvalV q g way = z at *
        have hT25 : SxAgg Tryd.prog 25 4 := sxAgg_of (by kernel_rfl) (by kernel_rfl)
        have hT27 : SxAgg Tryd.prog 27 5 := sxAgg_of (by kernel_rfl) (by kernel_rfl)
        have hT30 : SxAgg Tryd.prog 30 3 := sxAgg_of (by kernel_rfl) (by kernel_rfl)
        refine calls_of_wp Tryd.func4 rfl ?_
        refine sx_frame (a' := ⟨((.agg #[.bool x.g, .slice x.p x.xs.length x.c, .int .i64 x.e]) :: (.agg #[.bool q.g, .slice q.p q.xs.length q.c, .slice q.q q.ys.length q.d, .int .i64 q.e]) :: (.agg #[.int .i64 g.rad, .int .i64 g.digs, .int .i64 g.lo, .int .i64 g.hi, .bool g.grad]) :: (.int .i64 way) :: undef :: undef :: undef :: undef :: undef :: undef :: undef :: undef :: undef :: undef :: undef :: undef :: undef :: undef :: undef :: undef :: undef :: undef :: undef :: undef :: undef :: undef :: undef :: undef :: undef :: undef :: undef :: undef :: undef :: undef :: undef :: undef :: undef :: undef :: undef :: undef :: undef :: undef :: undef :: undef :: undef :: undef :: undef :: undef :: undef :: undef :: undef :: undef :: undef :: undef :: undef :: undef :: undef :: undef :: undef :: undef :: undef :: undef :: undef :: undef :: undef :: undef :: undef :: undef :: undef :: undef :: undef :: undef :: undef :: undef :: undef :: undef :: undef :: undef :: undef :: undef :: undef :: undef :: undef :: undef :: undef :: []).toArray, []⟩) (by kernel_rfl) ?_
        refine wp_seq ?_
        refine sx_region ?_
        refine sn 4 #[.bool x.g, .slice x.p x.xs.length x.c, .int .i64 x.e] 30 (fun V1 hbV1 hzV1 b4 => ?_)
        refine sn 5 #[.bool q.g, .slice q.p q.xs.length q.c, .slice q.q q.ys.length q.d, .int .i64 q.e] 25 (fun V2 hbV2 hzV2 b5 => ?_)
        refine sn 6 #[.int .i64 g.rad, .int .i64 g.digs, .int .i64 g.lo, .int .i64 g.hi, .bool g.grad] 27 (fun V3 hbV3 hzV3 b6 => ?_)
        refine sv 8 (.bool false) ?_
        refine sx_nil ?_
        refine sx_then ?_
        refine wp_seq ?_
        refine wp_seq ?_
        refine sx_region ?_
        refine se 19 7 #[] ?_
        ((with_reducible refine (gridBegun_any _).mono ?_))
        rintro eV4 V4 ⟨rfl, hbV4⟩
        have hzV4 := hbV4.size
        refine ⟨.bool true, rfl, ?_⟩
        refine sv 20 (.bool false) ?_
        refine sx_nil ?_
        refine sx_then ?_
        refine wp_cond_false (by kernel_rfl) ?_
        refine wp_skip ?_
        refine sx_then ?_
        refine wp_seq ?_
        refine wp_seq ?_
        refine sx_region ?_
        replace b4 := (b4.past (bthru (bthru hbV2 hbV3) hbV4))
        refine sv 22 (.agg #[.bool x.g, .slice x.p x.xs.length x.c, .int .i64 x.e]) ?_ (hr := (exec_ld (by kernel_rfl) (run_ld b4 hT30 0 [.bool x.g, .slice x.p x.xs.length x.c, .int .i64 x.e] (by kernel_rfl) (by kernel_rfl))))
        replace b6 := (b6.past hbV4)
        refine sv 23 (.agg #[.int .i64 g.rad, .int .i64 g.digs, .int .i64 g.lo, .int .i64 g.hi, .bool g.grad]) ?_ (hr := (exec_ld (by kernel_rfl) (run_ld b6 hT27 0 [.int .i64 g.rad, .int .i64 g.digs, .int .i64 g.lo, .int .i64 g.hi, .bool g.grad] (by kernel_rfl) (by kernel_rfl))))
        replace hx := (hx.past (bthru (bthru (bthru hbV1 hbV2) hbV3) hbV4))
        replace hT := (hT.past (bthru (bthru (bthru hbV1 hbV2) hbV3) hbV4))
        refine se 24 14 #[.agg #[.bool x.g, .slice x.p x.xs.length x.c, .int .i64 x.e], .agg #[.int .i64 g.rad, .int .i64 g.digs, .int .i64 g.lo, .int .i64 g.hi, .bool g.grad]] ?_
        ((with_reducible refine ((HH _ hx hT).out).mono ?_))
        rintro eV5 V5 ⟨rfl, hbV5⟩
        have hzV5 := hbV5.size
        refine ⟨.tuple #[.bool false, .int .i64 0], rfl, ?_⟩
        refine sv 21 (.tuple #[.bool false, .int .i64 0]) ?_
        refine sv 25 (.bool false) ?_
        refine sv 26 (.int .i64 0) ?_
        refine sv 9 (.bool false) ?_
        refine sv 10 (.int .i64 0) ?_
        refine sx_nil ?_
        refine sx_then ?_
        refine wp_seq ?_
        refine sx_region ?_
        refine sv 27 (.int .i64 0) ?_
        refine sv 28 (.bool true) ?_
        refine sv 29 (.bool true) ?_
        refine sv 30 (.bool false) ?_
        refine sv 31 (.bool false) ?_
        refine sx_nil ?_
        refine sx_then ?_
        refine wp_cond_false (by kernel_rfl) ?_
        refine wp_skip ?_
        refine sx_then ?_
        refine wp_seq ?_
        refine sx_region ?_
        replace b5 := (b5.past (bthru (bthru hbV3 hbV4) hbV5))
        refine sv 66 (.agg #[.bool q.g, .slice q.p q.xs.length q.c, .slice q.q q.ys.length q.d, .int .i64 q.e]) ?_ (hr := (exec_ld (by kernel_rfl) (run_ld b5 hT25 0 [.bool q.g, .slice q.p q.xs.length q.c, .slice q.q q.ys.length q.d, .int .i64 q.e] (by kernel_rfl) (by kernel_rfl))))
        replace b6 := (b6.past hbV5)
        refine sv 67 (.agg #[.int .i64 g.rad, .int .i64 g.digs, .int .i64 g.lo, .int .i64 g.hi, .bool g.grad]) ?_ (hr := (exec_ld (by kernel_rfl) (run_ld b6 hT27 0 [.int .i64 g.rad, .int .i64 g.digs, .int .i64 g.lo, .int .i64 g.hi, .bool g.grad] (by kernel_rfl) (by kernel_rfl))))
        refine sv 68 (.int .i64 way) ?_
        replace hq := (hq.past (bthru (bthru (bthru (bthru hbV1 hbV2) hbV3) hbV4) hbV5))
        replace hT := (hT.past hbV5)
        refine se 69 8 #[.agg #[.bool q.g, .slice q.p q.xs.length q.c, .slice q.q q.ys.length q.d, .int .i64 q.e], .agg #[.int .i64 g.rad, .int .i64 g.digs, .int .i64 g.lo, .int .i64 g.hi, .bool g.grad], .int .i64 way] ?_
        ((with_reducible refine ((HQ _ hq hT).out).mono ?_))
        rintro eV6 V6 ⟨p69, c69, rfl, ho69, hbV6⟩
        have hzV6 := hbV6.size
        refine ⟨.tuple #[.agg #[.bool z.neg, .slice p69 (dig B32 z.m).length c69, .int .i64 z.e], .bool true], rfl, ?_⟩
        refine sv 65 (.tuple #[.agg #[.bool z.neg, .slice p69 (dig B32 z.m).length c69, .int .i64 z.e], .bool true]) ?_
        refine sv 70 (.agg #[.bool z.neg, .slice p69 (dig B32 z.m).length c69, .int .i64 z.e]) ?_
        refine sv 71 (.bool true) ?_
        refine sn 15 #[.bool false, .slice none 0 0, .int .i64 0] 30 (fun V7 hbV7 hzV7 b15 => ?_)
        refine ss none b15 hT30 0 #[.bool z.neg, .slice p69 (dig B32 z.m).length c69, .int .i64 z.e] #[.bool z.neg, .slice p69 (dig B32 z.m).length c69, .int .i64 z.e] ?_
        have boV8 := b15
        clear b15
        intro V8 hOV8 b15
        have hzV8 := hOV8.size
        refine sv 16 (.bool true) ?_
        refine sx_nil ?_
        refine sx_then ?_
        refine wp_seq ?_
        refine wp_seq ?_
        refine sx_region ?_
        refine sv 72 (.bool true) ?_
        refine sv 73 (.bool false) ?_
        refine sx_nil ?_
        refine sx_then ?_
        refine wp_cond_false (by kernel_rfl) ?_
        refine wp_skip ?_
        refine sx_then ?_
        refine wp_seq ?_
        refine sx_region ?_
        refine sv 75 (.agg #[.bool z.neg, .slice p69 (dig B32 z.m).length c69, .int .i64 z.e]) ?_ (hr := (exec_ld (by kernel_rfl) (run_ld b15 hT30 0 [.bool z.neg, .slice p69 (dig B32 z.m).length c69, .int .i64 z.e] (by kernel_rfl) (by kernel_rfl))))
        replace b6 := (b6.past ((bthru hbV6 hbV7).trans (hOV8.below (by omega))))
        refine sv 76 (.agg #[.int .i64 g.rad, .int .i64 g.digs, .int .i64 g.lo, .int .i64 g.hi, .bool g.grad]) ?_ (hr := (exec_ld (by kernel_rfl) (run_ld b6 hT27 0 [.int .i64 g.rad, .int .i64 g.digs, .int .i64 g.lo, .int .i64 g.hi, .bool g.grad] (by kernel_rfl) (by kernel_rfl))))
        replace ho69 := (ho69.past (hbV7.trans (hOV8.below (by omega))))
        replace hT := (hT.past ((bthru hbV6 hbV7).trans (hOV8.below (by omega))))
        refine se 77 14 #[.agg #[.bool z.neg, .slice p69 (dig B32 z.m).length c69, .int .i64 z.e], .agg #[.int .i64 g.rad, .int .i64 g.digs, .int .i64 g.lo, .int .i64 g.hi, .bool g.grad]] ?_
        ((with_reducible refine ((HH2 _ _ p69 c69 ho69 hT).out).mono ?_))
        rintro eV9 V9 ⟨rfl, hbV9⟩
        have hzV9 := hbV9.size
        refine ⟨.tuple #[.bool true, .int .i64 0], rfl, ?_⟩
        refine sv 74 (.tuple #[.bool true, .int .i64 0]) ?_
        refine sv 78 (.bool true) ?_
        refine sv 79 (.int .i64 0) ?_
        refine sv 17 (.bool true) ?_
        refine sv 18 (.int .i64 0) ?_
        refine sx_nil ?_
        refine sx_then ?_
        refine wp_seq ?_
        refine sx_region ?_
        refine sv 80 (.int .i64 0) ?_
        refine sv 81 (.bool true) ?_
        refine sv 82 (.bool true) ?_
        refine sv 83 (.bool true) ?_
        refine sv 84 (.bool true) ?_
        refine sv 8 (.bool true) ?_
        refine sx_nil ?_
        refine sx_then ?_
        refine wp_ret ?_
        repeat (first | with_reducible refine sx_thenret ?_ | with_reducible refine sx_blockret ?_)
        refine bodyPost_ret (v := .bool true) (by simp [results, Tryd.results4, go_sem]) rfl ?_
        exact ⟨rfl, (bthru ((bthru (bthru (bthru (bthru (bthru (bthru hbV1 hbV2) hbV3) hbV4) hbV5) hbV6) hbV7).trans (hOV8.below (by omega))) hbV9)⟩
      · have hr' : rokB q g way = false := by simpa using hr
        rw [hr'] at HQ
        generalize rvalV q g way = z at *
        have hT25 : SxAgg Tryd.prog 25 4 := sxAgg_of (by kernel_rfl) (by kernel_rfl)
        have hT27 : SxAgg Tryd.prog 27 5 := sxAgg_of (by kernel_rfl) (by kernel_rfl)
        have hT30 : SxAgg Tryd.prog 30 3 := sxAgg_of (by kernel_rfl) (by kernel_rfl)
        refine calls_of_wp Tryd.func4 rfl ?_
        refine sx_frame (a' := ⟨((.agg #[.bool x.g, .slice x.p x.xs.length x.c, .int .i64 x.e]) :: (.agg #[.bool q.g, .slice q.p q.xs.length q.c, .slice q.q q.ys.length q.d, .int .i64 q.e]) :: (.agg #[.int .i64 g.rad, .int .i64 g.digs, .int .i64 g.lo, .int .i64 g.hi, .bool g.grad]) :: (.int .i64 way) :: undef :: undef :: undef :: undef :: undef :: undef :: undef :: undef :: undef :: undef :: undef :: undef :: undef :: undef :: undef :: undef :: undef :: undef :: undef :: undef :: undef :: undef :: undef :: undef :: undef :: undef :: undef :: undef :: undef :: undef :: undef :: undef :: undef :: undef :: undef :: undef :: undef :: undef :: undef :: undef :: undef :: undef :: undef :: undef :: undef :: undef :: undef :: undef :: undef :: undef :: undef :: undef :: undef :: undef :: undef :: undef :: undef :: undef :: undef :: undef :: undef :: undef :: undef :: undef :: undef :: undef :: undef :: undef :: undef :: undef :: undef :: undef :: undef :: undef :: undef :: undef :: undef :: undef :: undef :: undef :: undef :: []).toArray, []⟩) (by kernel_rfl) ?_
        refine wp_seq ?_
        refine sx_region ?_
        refine sn 4 #[.bool x.g, .slice x.p x.xs.length x.c, .int .i64 x.e] 30 (fun V1 hbV1 hzV1 b4 => ?_)
        refine sn 5 #[.bool q.g, .slice q.p q.xs.length q.c, .slice q.q q.ys.length q.d, .int .i64 q.e] 25 (fun V2 hbV2 hzV2 b5 => ?_)
        refine sn 6 #[.int .i64 g.rad, .int .i64 g.digs, .int .i64 g.lo, .int .i64 g.hi, .bool g.grad] 27 (fun V3 hbV3 hzV3 b6 => ?_)
        refine sv 8 (.bool false) ?_
        refine sx_nil ?_
        refine sx_then ?_
        refine wp_seq ?_
        refine wp_seq ?_
        refine sx_region ?_
        refine se 19 7 #[] ?_
        ((with_reducible refine (gridBegun_any _).mono ?_))
        rintro eV4 V4 ⟨rfl, hbV4⟩
        have hzV4 := hbV4.size
        refine ⟨.bool true, rfl, ?_⟩
        refine sv 20 (.bool false) ?_
        refine sx_nil ?_
        refine sx_then ?_
        refine wp_cond_false (by kernel_rfl) ?_
        refine wp_skip ?_
        refine sx_then ?_
        refine wp_seq ?_
        refine wp_seq ?_
        refine sx_region ?_
        replace b4 := (b4.past (bthru (bthru hbV2 hbV3) hbV4))
        refine sv 22 (.agg #[.bool x.g, .slice x.p x.xs.length x.c, .int .i64 x.e]) ?_ (hr := (exec_ld (by kernel_rfl) (run_ld b4 hT30 0 [.bool x.g, .slice x.p x.xs.length x.c, .int .i64 x.e] (by kernel_rfl) (by kernel_rfl))))
        replace b6 := (b6.past hbV4)
        refine sv 23 (.agg #[.int .i64 g.rad, .int .i64 g.digs, .int .i64 g.lo, .int .i64 g.hi, .bool g.grad]) ?_ (hr := (exec_ld (by kernel_rfl) (run_ld b6 hT27 0 [.int .i64 g.rad, .int .i64 g.digs, .int .i64 g.lo, .int .i64 g.hi, .bool g.grad] (by kernel_rfl) (by kernel_rfl))))
        replace hx := (hx.past (bthru (bthru (bthru hbV1 hbV2) hbV3) hbV4))
        replace hT := (hT.past (bthru (bthru (bthru hbV1 hbV2) hbV3) hbV4))
        refine se 24 14 #[.agg #[.bool x.g, .slice x.p x.xs.length x.c, .int .i64 x.e], .agg #[.int .i64 g.rad, .int .i64 g.digs, .int .i64 g.lo, .int .i64 g.hi, .bool g.grad]] ?_
        ((with_reducible refine ((HH _ hx hT).out).mono ?_))
        rintro eV5 V5 ⟨rfl, hbV5⟩
        have hzV5 := hbV5.size
        refine ⟨.tuple #[.bool false, .int .i64 0], rfl, ?_⟩
        refine sv 21 (.tuple #[.bool false, .int .i64 0]) ?_
        refine sv 25 (.bool false) ?_
        refine sv 26 (.int .i64 0) ?_
        refine sv 9 (.bool false) ?_
        refine sv 10 (.int .i64 0) ?_
        refine sx_nil ?_
        refine sx_then ?_
        refine wp_seq ?_
        refine sx_region ?_
        refine sv 27 (.int .i64 0) ?_
        refine sv 28 (.bool true) ?_
        refine sv 29 (.bool true) ?_
        refine sv 30 (.bool false) ?_
        refine sv 31 (.bool false) ?_
        refine sx_nil ?_
        refine sx_then ?_
        refine wp_cond_false (by kernel_rfl) ?_
        refine wp_skip ?_
        refine sx_then ?_
        refine wp_seq ?_
        refine sx_region ?_
        replace b5 := (b5.past (bthru (bthru hbV3 hbV4) hbV5))
        refine sv 66 (.agg #[.bool q.g, .slice q.p q.xs.length q.c, .slice q.q q.ys.length q.d, .int .i64 q.e]) ?_ (hr := (exec_ld (by kernel_rfl) (run_ld b5 hT25 0 [.bool q.g, .slice q.p q.xs.length q.c, .slice q.q q.ys.length q.d, .int .i64 q.e] (by kernel_rfl) (by kernel_rfl))))
        replace b6 := (b6.past hbV5)
        refine sv 67 (.agg #[.int .i64 g.rad, .int .i64 g.digs, .int .i64 g.lo, .int .i64 g.hi, .bool g.grad]) ?_ (hr := (exec_ld (by kernel_rfl) (run_ld b6 hT27 0 [.int .i64 g.rad, .int .i64 g.digs, .int .i64 g.lo, .int .i64 g.hi, .bool g.grad] (by kernel_rfl) (by kernel_rfl))))
        refine sv 68 (.int .i64 way) ?_
        replace hq := (hq.past (bthru (bthru (bthru (bthru hbV1 hbV2) hbV3) hbV4) hbV5))
        replace hT := (hT.past hbV5)
        refine se 69 8 #[.agg #[.bool q.g, .slice q.p q.xs.length q.c, .slice q.q q.ys.length q.d, .int .i64 q.e], .agg #[.int .i64 g.rad, .int .i64 g.digs, .int .i64 g.lo, .int .i64 g.hi, .bool g.grad], .int .i64 way] ?_
        ((with_reducible refine ((HQ _ hq hT).out).mono ?_))
        rintro eV6 V6 ⟨p69, c69, rfl, ho69, hbV6⟩
        have hzV6 := hbV6.size
        refine ⟨.tuple #[.agg #[.bool z.neg, .slice p69 (dig B32 z.m).length c69, .int .i64 z.e], .bool false], rfl, ?_⟩
        refine sv 65 (.tuple #[.agg #[.bool z.neg, .slice p69 (dig B32 z.m).length c69, .int .i64 z.e], .bool false]) ?_
        refine sv 70 (.agg #[.bool z.neg, .slice p69 (dig B32 z.m).length c69, .int .i64 z.e]) ?_
        refine sv 71 (.bool false) ?_
        refine sn 15 #[.bool false, .slice none 0 0, .int .i64 0] 30 (fun V7 hbV7 hzV7 b15 => ?_)
        refine ss none b15 hT30 0 #[.bool z.neg, .slice p69 (dig B32 z.m).length c69, .int .i64 z.e] #[.bool z.neg, .slice p69 (dig B32 z.m).length c69, .int .i64 z.e] ?_
        have boV8 := b15
        clear b15
        intro V8 hOV8 b15
        have hzV8 := hOV8.size
        refine sv 16 (.bool false) ?_
        refine sx_nil ?_
        refine sx_then ?_
        refine wp_seq ?_
        refine wp_seq ?_
        refine sx_region ?_
        refine sv 72 (.bool false) ?_
        refine sv 73 (.bool true) ?_
        refine sx_nil ?_
        refine sx_then ?_
        refine wp_cond_true (by kernel_rfl) ?_
        refine wp_seq ?_
        refine sx_region ?_
        refine sv 8 (.bool true) ?_
        refine sx_nil ?_
        refine sx_then ?_
        refine wp_ret ?_
        repeat (first | with_reducible refine sx_thenret ?_ | with_reducible refine sx_blockret ?_)
        refine bodyPost_ret (v := .bool true) (by simp [results, Tryd.results4, go_sem]) rfl ?_
        exact ⟨rfl, ((bthru (bthru (bthru (bthru (bthru (bthru hbV1 hbV2) hbV3) hbV4) hbV5) hbV6) hbV7).trans (hOV8.below (by omega)))⟩
  · obtain ⟨ex, hex⟩ : ∃ ex, errOn x g = ex := ⟨_, rfl⟩
    rw [show holdsB x g = false by unfold holdsB; rw [decide_eq_false h0, Bool.false_and], hex] at HH
    have tex : (ex == 0) = false := beq_eq_false_iff_ne.2 (by rw [← hex]; exact h0)
    by_cases hr : rokB q g way = true
    · have HH2 : ∀ W base p c (h : Own W base .u32 46 p c (dig B32 (rvalV q g way).m)) (hT : TabW W), Hid (Calls Tryd.prog 14 #[.agg #[.bool (rvalV q g way).neg, .slice p (dig B32 (rvalV q g way).m).length c, .int .i64 (rvalV q g way).e], .agg #[.int .i64 g.rad, .int .i64 g.digs, .int .i64 g.lo, .int .i64 g.hi, .bool g.grad]] W fun en w' => en = .returned (.tuple #[.bool true, .int .i64 0]) ∧ Below W.heap.size W w') := fun W base p c h hT => by
        obtain ⟨z1, z2, z3⟩ := keep_two hq hr p c
        have hR := holds_any (dinOf (rvalV q g way) p c) g W (dinOf_in h (by omega)) hT
        rw [z1, z2] at hR
        exact Lib.hid hR
      rw [hr] at HQ
      generalize rvalV q g way = z at *
      have hT25 : SxAgg Tryd.prog 25 4 := sxAgg_of (by kernel_rfl) (by kernel_rfl)
      have hT27 : SxAgg Tryd.prog 27 5 := sxAgg_of (by kernel_rfl) (by kernel_rfl)
      have hT30 : SxAgg Tryd.prog 30 3 := sxAgg_of (by kernel_rfl) (by kernel_rfl)
      refine calls_of_wp Tryd.func4 rfl ?_
      refine sx_frame (a' := ⟨((.agg #[.bool x.g, .slice x.p x.xs.length x.c, .int .i64 x.e]) :: (.agg #[.bool q.g, .slice q.p q.xs.length q.c, .slice q.q q.ys.length q.d, .int .i64 q.e]) :: (.agg #[.int .i64 g.rad, .int .i64 g.digs, .int .i64 g.lo, .int .i64 g.hi, .bool g.grad]) :: (.int .i64 way) :: undef :: undef :: undef :: undef :: undef :: undef :: undef :: undef :: undef :: undef :: undef :: undef :: undef :: undef :: undef :: undef :: undef :: undef :: undef :: undef :: undef :: undef :: undef :: undef :: undef :: undef :: undef :: undef :: undef :: undef :: undef :: undef :: undef :: undef :: undef :: undef :: undef :: undef :: undef :: undef :: undef :: undef :: undef :: undef :: undef :: undef :: undef :: undef :: undef :: undef :: undef :: undef :: undef :: undef :: undef :: undef :: undef :: undef :: undef :: undef :: undef :: undef :: undef :: undef :: undef :: undef :: undef :: undef :: undef :: undef :: undef :: undef :: undef :: undef :: undef :: undef :: undef :: undef :: undef :: undef :: undef :: []).toArray, []⟩) (by kernel_rfl) ?_
      refine wp_seq ?_
      refine sx_region ?_
      refine sn 4 #[.bool x.g, .slice x.p x.xs.length x.c, .int .i64 x.e] 30 (fun V1 hbV1 hzV1 b4 => ?_)
      refine sn 5 #[.bool q.g, .slice q.p q.xs.length q.c, .slice q.q q.ys.length q.d, .int .i64 q.e] 25 (fun V2 hbV2 hzV2 b5 => ?_)
      refine sn 6 #[.int .i64 g.rad, .int .i64 g.digs, .int .i64 g.lo, .int .i64 g.hi, .bool g.grad] 27 (fun V3 hbV3 hzV3 b6 => ?_)
      refine sv 8 (.bool false) ?_
      refine sx_nil ?_
      refine sx_then ?_
      refine wp_seq ?_
      refine wp_seq ?_
      refine sx_region ?_
      refine se 19 7 #[] ?_
      ((with_reducible refine (gridBegun_any _).mono ?_))
      rintro eV4 V4 ⟨rfl, hbV4⟩
      have hzV4 := hbV4.size
      refine ⟨.bool true, rfl, ?_⟩
      refine sv 20 (.bool false) ?_
      refine sx_nil ?_
      refine sx_then ?_
      refine wp_cond_false (by kernel_rfl) ?_
      refine wp_skip ?_
      refine sx_then ?_
      refine wp_seq ?_
      refine wp_seq ?_
      refine sx_region ?_
      replace b4 := (b4.past (bthru (bthru hbV2 hbV3) hbV4))
      refine sv 22 (.agg #[.bool x.g, .slice x.p x.xs.length x.c, .int .i64 x.e]) ?_ (hr := (exec_ld (by kernel_rfl) (run_ld b4 hT30 0 [.bool x.g, .slice x.p x.xs.length x.c, .int .i64 x.e] (by kernel_rfl) (by kernel_rfl))))
      replace b6 := (b6.past hbV4)
      refine sv 23 (.agg #[.int .i64 g.rad, .int .i64 g.digs, .int .i64 g.lo, .int .i64 g.hi, .bool g.grad]) ?_ (hr := (exec_ld (by kernel_rfl) (run_ld b6 hT27 0 [.int .i64 g.rad, .int .i64 g.digs, .int .i64 g.lo, .int .i64 g.hi, .bool g.grad] (by kernel_rfl) (by kernel_rfl))))
      replace hx := (hx.past (bthru (bthru (bthru hbV1 hbV2) hbV3) hbV4))
      replace hT := (hT.past (bthru (bthru (bthru hbV1 hbV2) hbV3) hbV4))
      refine se 24 14 #[.agg #[.bool x.g, .slice x.p x.xs.length x.c, .int .i64 x.e], .agg #[.int .i64 g.rad, .int .i64 g.digs, .int .i64 g.lo, .int .i64 g.hi, .bool g.grad]] ?_
      ((with_reducible refine ((HH _ hx hT).out).mono ?_))
      rintro eV5 V5 ⟨rfl, hbV5⟩
      have hzV5 := hbV5.size
      refine ⟨.tuple #[.bool false, .int .i64 ex], rfl, ?_⟩
      refine sv 21 (.tuple #[.bool false, .int .i64 ex]) ?_
      refine sv 25 (.bool false) ?_
      refine sv 26 (.int .i64 ex) ?_
      refine sv 9 (.bool false) ?_
      refine sv 10 (.int .i64 ex) ?_
      refine sx_nil ?_
      refine sx_then ?_
      refine wp_seq ?_
      refine sx_region ?_
      refine sv 27 (.int .i64 ex) ?_
      refine sv 28 (.bool false) ?_ (hr := ((show _ = Result.ok (Next.value (.bool (ex == 0))) _ from (by kernel_rfl)).trans (congrArg (fun z => Result.ok (Next.value (.bool z)) _) (show (ex == 0) = false from tex))))
      refine sv 29 (.bool false) ?_
      refine so (some 30) ?_
      refine sv 31 (.bool false) ?_
      refine sx_nil ?_
      refine sx_then ?_
      refine wp_cond_false (by kernel_rfl) ?_
      refine wp_skip ?_
      refine sx_then ?_
      refine wp_seq ?_
      refine sx_region ?_
      replace b5 := (b5.past (bthru (bthru hbV3 hbV4) hbV5))
      refine sv 66 (.agg #[.bool q.g, .slice q.p q.xs.length q.c, .slice q.q q.ys.length q.d, .int .i64 q.e]) ?_ (hr := (exec_ld (by kernel_rfl) (run_ld b5 hT25 0 [.bool q.g, .slice q.p q.xs.length q.c, .slice q.q q.ys.length q.d, .int .i64 q.e] (by kernel_rfl) (by kernel_rfl))))
      replace b6 := (b6.past hbV5)
      refine sv 67 (.agg #[.int .i64 g.rad, .int .i64 g.digs, .int .i64 g.lo, .int .i64 g.hi, .bool g.grad]) ?_ (hr := (exec_ld (by kernel_rfl) (run_ld b6 hT27 0 [.int .i64 g.rad, .int .i64 g.digs, .int .i64 g.lo, .int .i64 g.hi, .bool g.grad] (by kernel_rfl) (by kernel_rfl))))
      refine sv 68 (.int .i64 way) ?_
      replace hq := (hq.past (bthru (bthru (bthru (bthru hbV1 hbV2) hbV3) hbV4) hbV5))
      replace hT := (hT.past hbV5)
      refine se 69 8 #[.agg #[.bool q.g, .slice q.p q.xs.length q.c, .slice q.q q.ys.length q.d, .int .i64 q.e], .agg #[.int .i64 g.rad, .int .i64 g.digs, .int .i64 g.lo, .int .i64 g.hi, .bool g.grad], .int .i64 way] ?_
      ((with_reducible refine ((HQ _ hq hT).out).mono ?_))
      rintro eV6 V6 ⟨p69, c69, rfl, ho69, hbV6⟩
      have hzV6 := hbV6.size
      refine ⟨.tuple #[.agg #[.bool z.neg, .slice p69 (dig B32 z.m).length c69, .int .i64 z.e], .bool true], rfl, ?_⟩
      refine sv 65 (.tuple #[.agg #[.bool z.neg, .slice p69 (dig B32 z.m).length c69, .int .i64 z.e], .bool true]) ?_
      refine sv 70 (.agg #[.bool z.neg, .slice p69 (dig B32 z.m).length c69, .int .i64 z.e]) ?_
      refine sv 71 (.bool true) ?_
      refine sn 15 #[.bool false, .slice none 0 0, .int .i64 0] 30 (fun V7 hbV7 hzV7 b15 => ?_)
      refine ss none b15 hT30 0 #[.bool z.neg, .slice p69 (dig B32 z.m).length c69, .int .i64 z.e] #[.bool z.neg, .slice p69 (dig B32 z.m).length c69, .int .i64 z.e] ?_
      have boV8 := b15
      clear b15
      intro V8 hOV8 b15
      have hzV8 := hOV8.size
      refine sv 16 (.bool true) ?_
      refine sx_nil ?_
      refine sx_then ?_
      refine wp_seq ?_
      refine wp_seq ?_
      refine sx_region ?_
      refine sv 72 (.bool true) ?_
      refine sv 73 (.bool false) ?_
      refine sx_nil ?_
      refine sx_then ?_
      refine wp_cond_false (by kernel_rfl) ?_
      refine wp_skip ?_
      refine sx_then ?_
      refine wp_seq ?_
      refine sx_region ?_
      refine sv 75 (.agg #[.bool z.neg, .slice p69 (dig B32 z.m).length c69, .int .i64 z.e]) ?_ (hr := (exec_ld (by kernel_rfl) (run_ld b15 hT30 0 [.bool z.neg, .slice p69 (dig B32 z.m).length c69, .int .i64 z.e] (by kernel_rfl) (by kernel_rfl))))
      replace b6 := (b6.past ((bthru hbV6 hbV7).trans (hOV8.below (by omega))))
      refine sv 76 (.agg #[.int .i64 g.rad, .int .i64 g.digs, .int .i64 g.lo, .int .i64 g.hi, .bool g.grad]) ?_ (hr := (exec_ld (by kernel_rfl) (run_ld b6 hT27 0 [.int .i64 g.rad, .int .i64 g.digs, .int .i64 g.lo, .int .i64 g.hi, .bool g.grad] (by kernel_rfl) (by kernel_rfl))))
      replace ho69 := (ho69.past (hbV7.trans (hOV8.below (by omega))))
      replace hT := (hT.past ((bthru hbV6 hbV7).trans (hOV8.below (by omega))))
      refine se 77 14 #[.agg #[.bool z.neg, .slice p69 (dig B32 z.m).length c69, .int .i64 z.e], .agg #[.int .i64 g.rad, .int .i64 g.digs, .int .i64 g.lo, .int .i64 g.hi, .bool g.grad]] ?_
      ((with_reducible refine ((HH2 _ _ p69 c69 ho69 hT).out).mono ?_))
      rintro eV9 V9 ⟨rfl, hbV9⟩
      have hzV9 := hbV9.size
      refine ⟨.tuple #[.bool true, .int .i64 0], rfl, ?_⟩
      refine sv 74 (.tuple #[.bool true, .int .i64 0]) ?_
      refine sv 78 (.bool true) ?_
      refine sv 79 (.int .i64 0) ?_
      refine sv 17 (.bool true) ?_
      refine sv 18 (.int .i64 0) ?_
      refine sx_nil ?_
      refine sx_then ?_
      refine wp_seq ?_
      refine sx_region ?_
      refine sv 80 (.int .i64 0) ?_
      refine sv 81 (.bool true) ?_
      refine sv 82 (.bool true) ?_
      refine sv 83 (.bool true) ?_
      refine sv 84 (.bool true) ?_
      refine sv 8 (.bool true) ?_
      refine sx_nil ?_
      refine sx_then ?_
      refine wp_ret ?_
      repeat (first | with_reducible refine sx_thenret ?_ | with_reducible refine sx_blockret ?_)
      refine bodyPost_ret (v := .bool true) (by simp [results, Tryd.results4, go_sem]) rfl ?_
      exact ⟨rfl, (bthru ((bthru (bthru (bthru (bthru (bthru (bthru hbV1 hbV2) hbV3) hbV4) hbV5) hbV6) hbV7).trans (hOV8.below (by omega))) hbV9)⟩
    · have hr' : rokB q g way = false := by simpa using hr
      rw [hr'] at HQ
      generalize rvalV q g way = z at *
      have hT25 : SxAgg Tryd.prog 25 4 := sxAgg_of (by kernel_rfl) (by kernel_rfl)
      have hT27 : SxAgg Tryd.prog 27 5 := sxAgg_of (by kernel_rfl) (by kernel_rfl)
      have hT30 : SxAgg Tryd.prog 30 3 := sxAgg_of (by kernel_rfl) (by kernel_rfl)
      refine calls_of_wp Tryd.func4 rfl ?_
      refine sx_frame (a' := ⟨((.agg #[.bool x.g, .slice x.p x.xs.length x.c, .int .i64 x.e]) :: (.agg #[.bool q.g, .slice q.p q.xs.length q.c, .slice q.q q.ys.length q.d, .int .i64 q.e]) :: (.agg #[.int .i64 g.rad, .int .i64 g.digs, .int .i64 g.lo, .int .i64 g.hi, .bool g.grad]) :: (.int .i64 way) :: undef :: undef :: undef :: undef :: undef :: undef :: undef :: undef :: undef :: undef :: undef :: undef :: undef :: undef :: undef :: undef :: undef :: undef :: undef :: undef :: undef :: undef :: undef :: undef :: undef :: undef :: undef :: undef :: undef :: undef :: undef :: undef :: undef :: undef :: undef :: undef :: undef :: undef :: undef :: undef :: undef :: undef :: undef :: undef :: undef :: undef :: undef :: undef :: undef :: undef :: undef :: undef :: undef :: undef :: undef :: undef :: undef :: undef :: undef :: undef :: undef :: undef :: undef :: undef :: undef :: undef :: undef :: undef :: undef :: undef :: undef :: undef :: undef :: undef :: undef :: undef :: undef :: undef :: undef :: undef :: undef :: []).toArray, []⟩) (by kernel_rfl) ?_
      refine wp_seq ?_
      refine sx_region ?_
      refine sn 4 #[.bool x.g, .slice x.p x.xs.length x.c, .int .i64 x.e] 30 (fun V1 hbV1 hzV1 b4 => ?_)
      refine sn 5 #[.bool q.g, .slice q.p q.xs.length q.c, .slice q.q q.ys.length q.d, .int .i64 q.e] 25 (fun V2 hbV2 hzV2 b5 => ?_)
      refine sn 6 #[.int .i64 g.rad, .int .i64 g.digs, .int .i64 g.lo, .int .i64 g.hi, .bool g.grad] 27 (fun V3 hbV3 hzV3 b6 => ?_)
      refine sv 8 (.bool false) ?_
      refine sx_nil ?_
      refine sx_then ?_
      refine wp_seq ?_
      refine wp_seq ?_
      refine sx_region ?_
      refine se 19 7 #[] ?_
      ((with_reducible refine (gridBegun_any _).mono ?_))
      rintro eV4 V4 ⟨rfl, hbV4⟩
      have hzV4 := hbV4.size
      refine ⟨.bool true, rfl, ?_⟩
      refine sv 20 (.bool false) ?_
      refine sx_nil ?_
      refine sx_then ?_
      refine wp_cond_false (by kernel_rfl) ?_
      refine wp_skip ?_
      refine sx_then ?_
      refine wp_seq ?_
      refine wp_seq ?_
      refine sx_region ?_
      replace b4 := (b4.past (bthru (bthru hbV2 hbV3) hbV4))
      refine sv 22 (.agg #[.bool x.g, .slice x.p x.xs.length x.c, .int .i64 x.e]) ?_ (hr := (exec_ld (by kernel_rfl) (run_ld b4 hT30 0 [.bool x.g, .slice x.p x.xs.length x.c, .int .i64 x.e] (by kernel_rfl) (by kernel_rfl))))
      replace b6 := (b6.past hbV4)
      refine sv 23 (.agg #[.int .i64 g.rad, .int .i64 g.digs, .int .i64 g.lo, .int .i64 g.hi, .bool g.grad]) ?_ (hr := (exec_ld (by kernel_rfl) (run_ld b6 hT27 0 [.int .i64 g.rad, .int .i64 g.digs, .int .i64 g.lo, .int .i64 g.hi, .bool g.grad] (by kernel_rfl) (by kernel_rfl))))
      replace hx := (hx.past (bthru (bthru (bthru hbV1 hbV2) hbV3) hbV4))
      replace hT := (hT.past (bthru (bthru (bthru hbV1 hbV2) hbV3) hbV4))
      refine se 24 14 #[.agg #[.bool x.g, .slice x.p x.xs.length x.c, .int .i64 x.e], .agg #[.int .i64 g.rad, .int .i64 g.digs, .int .i64 g.lo, .int .i64 g.hi, .bool g.grad]] ?_
      ((with_reducible refine ((HH _ hx hT).out).mono ?_))
      rintro eV5 V5 ⟨rfl, hbV5⟩
      have hzV5 := hbV5.size
      refine ⟨.tuple #[.bool false, .int .i64 ex], rfl, ?_⟩
      refine sv 21 (.tuple #[.bool false, .int .i64 ex]) ?_
      refine sv 25 (.bool false) ?_
      refine sv 26 (.int .i64 ex) ?_
      refine sv 9 (.bool false) ?_
      refine sv 10 (.int .i64 ex) ?_
      refine sx_nil ?_
      refine sx_then ?_
      refine wp_seq ?_
      refine sx_region ?_
      refine sv 27 (.int .i64 ex) ?_
      refine sv 28 (.bool false) ?_ (hr := ((show _ = Result.ok (Next.value (.bool (ex == 0))) _ from (by kernel_rfl)).trans (congrArg (fun z => Result.ok (Next.value (.bool z)) _) (show (ex == 0) = false from tex))))
      refine sv 29 (.bool false) ?_
      refine so (some 30) ?_
      refine sv 31 (.bool false) ?_
      refine sx_nil ?_
      refine sx_then ?_
      refine wp_cond_false (by kernel_rfl) ?_
      refine wp_skip ?_
      refine sx_then ?_
      refine wp_seq ?_
      refine sx_region ?_
      replace b5 := (b5.past (bthru (bthru hbV3 hbV4) hbV5))
      refine sv 66 (.agg #[.bool q.g, .slice q.p q.xs.length q.c, .slice q.q q.ys.length q.d, .int .i64 q.e]) ?_ (hr := (exec_ld (by kernel_rfl) (run_ld b5 hT25 0 [.bool q.g, .slice q.p q.xs.length q.c, .slice q.q q.ys.length q.d, .int .i64 q.e] (by kernel_rfl) (by kernel_rfl))))
      replace b6 := (b6.past hbV5)
      refine sv 67 (.agg #[.int .i64 g.rad, .int .i64 g.digs, .int .i64 g.lo, .int .i64 g.hi, .bool g.grad]) ?_ (hr := (exec_ld (by kernel_rfl) (run_ld b6 hT27 0 [.int .i64 g.rad, .int .i64 g.digs, .int .i64 g.lo, .int .i64 g.hi, .bool g.grad] (by kernel_rfl) (by kernel_rfl))))
      refine sv 68 (.int .i64 way) ?_
      replace hq := (hq.past (bthru (bthru (bthru (bthru hbV1 hbV2) hbV3) hbV4) hbV5))
      replace hT := (hT.past hbV5)
      refine se 69 8 #[.agg #[.bool q.g, .slice q.p q.xs.length q.c, .slice q.q q.ys.length q.d, .int .i64 q.e], .agg #[.int .i64 g.rad, .int .i64 g.digs, .int .i64 g.lo, .int .i64 g.hi, .bool g.grad], .int .i64 way] ?_
      ((with_reducible refine ((HQ _ hq hT).out).mono ?_))
      rintro eV6 V6 ⟨p69, c69, rfl, ho69, hbV6⟩
      have hzV6 := hbV6.size
      refine ⟨.tuple #[.agg #[.bool z.neg, .slice p69 (dig B32 z.m).length c69, .int .i64 z.e], .bool false], rfl, ?_⟩
      refine sv 65 (.tuple #[.agg #[.bool z.neg, .slice p69 (dig B32 z.m).length c69, .int .i64 z.e], .bool false]) ?_
      refine sv 70 (.agg #[.bool z.neg, .slice p69 (dig B32 z.m).length c69, .int .i64 z.e]) ?_
      refine sv 71 (.bool false) ?_
      refine sn 15 #[.bool false, .slice none 0 0, .int .i64 0] 30 (fun V7 hbV7 hzV7 b15 => ?_)
      refine ss none b15 hT30 0 #[.bool z.neg, .slice p69 (dig B32 z.m).length c69, .int .i64 z.e] #[.bool z.neg, .slice p69 (dig B32 z.m).length c69, .int .i64 z.e] ?_
      have boV8 := b15
      clear b15
      intro V8 hOV8 b15
      have hzV8 := hOV8.size
      refine sv 16 (.bool false) ?_
      refine sx_nil ?_
      refine sx_then ?_
      refine wp_seq ?_
      refine wp_seq ?_
      refine sx_region ?_
      refine sv 72 (.bool false) ?_
      refine sv 73 (.bool true) ?_
      refine sx_nil ?_
      refine sx_then ?_
      refine wp_cond_true (by kernel_rfl) ?_
      refine wp_seq ?_
      refine sx_region ?_
      refine sv 8 (.bool true) ?_
      refine sx_nil ?_
      refine sx_then ?_
      refine wp_ret ?_
      repeat (first | with_reducible refine sx_thenret ?_ | with_reducible refine sx_blockret ?_)
      refine bodyPost_ret (v := .bool true) (by simp [results, Tryd.results4, go_sem]) rfl ?_
      exact ⟨rfl, ((bthru (bthru (bthru (bthru (bthru (bthru hbV1 hbV2) hbV3) hbV4) hbV5) hbV6) hbV7).trans (hOV8.below (by omega)))⟩

end Go.Proofs.YtlegnbigddhmlaaDoor
