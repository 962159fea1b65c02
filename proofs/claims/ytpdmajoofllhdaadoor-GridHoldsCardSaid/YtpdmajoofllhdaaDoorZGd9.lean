/- grid: check, Holds; the laws' onGrid. -/
import Derived.Test.YtpdmajoofllhdaaDoorZGd8
import Derived.Test.YtpdmajoofllhdaaDoorZRGd5
import Derived.Test.YtpdmajoofllhdaaDoorZRDy1
import Derived.Test.YtpdmajoofllhdaaDoorZE
namespace Go.Proofs.YtpdmajoofllhdaaDoor
open Go.RowKit Go.Slip

/-- What is wrong with a number, and a grid. -/
def errOn (a : Din) (g : Gd) : Int := if errDy a = 0 then errG g else errDy a

set_option maxHeartbeats 2000000 in
theorem gcheck_any (a : Din) (g : Gd) (w : World) (ha : InD w a) :
    Calls Tryd.prog 44 #[.agg #[.bool a.g, .slice a.p a.xs.length a.c, .int .i64 a.e], .agg #[.int .i64 g.rad, .int .i64 g.digs, .int .i64 g.lo, .int .i64 g.hi, .bool g.grad]] w fun en w' => en = .returned (.int .i64 (errOn a g)) ∧ Below w.heap.size w w' := by
  have HC := fun W (h : InD W a) => Lib.hid (dyCheckOne_any a W h.rd h.len)
  have HG := fun W => Lib.hid (gridCheck_any g W)
  unfold errOn
  obtain ⟨e1, he1⟩ : ∃ e1, errDy a = e1 := ⟨_, rfl⟩
  obtain ⟨e2, he2⟩ : ∃ e2, errG g = e2 := ⟨_, rfl⟩
  rw [he1] at HC ⊢
  rw [he2] at HG ⊢
  clear he1 he2
  by_cases h1 : e1 = 0
  · subst h1
    rw [if_pos rfl]
    go_enter Tryd.func44, Tryd.ntmps44
    go_wp2_with fail
    refine calls_lay2 (fun W1 hb1 hz1 A B => ?_)
    replace ha := ha.past hb1
    have hs1 := hb1
    ((with_reducible refine ((HC _ ha).out).mono ?_))
    rintro e2 w2 ⟨rfl, hb2⟩
    replace A := A.past hb2
    replace B := B.past hb2
    replace ha := ha.past hb2
    have hs2 := hs1.trans (hb2.mono hs1.size)
    obtain ⟨B_0, B_1, B_2, B_3, B_4⟩ := B.e5
    go_wp2_with fail
    clear B_0 B_1 B_2 B_3 B_4
    ((with_reducible refine ((HG _).out).mono ?_))
    rintro e3 w3 ⟨rfl, hb3⟩
    replace A := A.past hb3
    replace B := B.past hb3
    replace ha := ha.past hb3
    have hs3 := hs2.trans (hb3.mono hs2.size)
    go_wp2
    go_ret
    exact ⟨rfl, hs3⟩
  · have t1 : (e1 == 0) = false := beq_eq_false_iff_ne.2 h1
    have t2 : (e1 != 0) = true := by rw [bne, t1]; rfl
    rw [if_neg h1]
    clear h1
    go_enter Tryd.func44, Tryd.ntmps44
    go_wp2_with fail
    refine calls_lay2 (fun W1 hb1 hz1 A B => ?_)
    replace ha := ha.past hb1
    have hs1 := hb1
    ((with_reducible refine ((HC _ ha).out).mono ?_))
    rintro e2 w2 ⟨rfl, hb2⟩
    replace A := A.past hb2
    replace B := B.past hb2
    replace ha := ha.past hb2
    have hs2 := hs1.trans (hb2.mono hs1.size)
    go_wp2
    go_ret
    exact ⟨rfl, hs2⟩

set_option maxHeartbeats 2000000 in
theorem onGrid_any (a : Din) (g : Gd) (w : World) (ha : InD w a) :
    Calls Tryd.prog 18 #[.agg #[.bool a.g, .slice a.p a.xs.length a.c, .int .i64 a.e], .agg #[.int .i64 g.rad, .int .i64 g.digs, .int .i64 g.lo, .int .i64 g.hi, .bool g.grad]] w fun en w' => en = .returned (.int .i64 (errOn a g)) ∧ Below w.heap.size w w' := by
  have HC := fun W (h : InD W a) => Lib.hid (refCheckDyad_any a W h.rd h.len)
  have HG := fun W => Lib.hid (refCheckGrid_any g W)
  unfold errOn
  obtain ⟨e1, he1⟩ : ∃ e1, errDy a = e1 := ⟨_, rfl⟩
  obtain ⟨e2, he2⟩ : ∃ e2, errG g = e2 := ⟨_, rfl⟩
  rw [he1] at HC ⊢
  rw [he2] at HG ⊢
  clear he1 he2
  by_cases h1 : e1 = 0
  · subst h1
    rw [if_pos rfl]
    go_enter Tryd.func18, Tryd.ntmps18
    go_wp2_with fail
    refine calls_lay2 (fun W1 hb1 hz1 A B => ?_)
    replace ha := ha.past hb1
    have hs1 := hb1
    ((with_reducible refine ((HC _ ha).out).mono ?_))
    rintro e2 w2 ⟨rfl, hb2⟩
    replace A := A.past hb2
    replace B := B.past hb2
    replace ha := ha.past hb2
    have hs2 := hs1.trans (hb2.mono hs1.size)
    obtain ⟨B_0, B_1, B_2, B_3, B_4⟩ := B.e5
    go_wp2_with fail
    clear B_0 B_1 B_2 B_3 B_4
    ((with_reducible refine ((HG _).out).mono ?_))
    rintro e3 w3 ⟨rfl, hb3⟩
    replace A := A.past hb3
    replace B := B.past hb3
    replace ha := ha.past hb3
    have hs3 := hs2.trans (hb3.mono hs2.size)
    go_wp2
    go_ret
    exact ⟨rfl, hs3⟩
  · have t1 : (e1 == 0) = false := beq_eq_false_iff_ne.2 h1
    have t2 : (e1 != 0) = true := by rw [bne, t1]; rfl
    rw [if_neg h1]
    clear h1
    go_enter Tryd.func18, Tryd.ntmps18
    go_wp2_with fail
    refine calls_lay2 (fun W1 hb1 hz1 A B => ?_)
    replace ha := ha.past hb1
    have hs1 := hb1
    ((with_reducible refine ((HC _ ha).out).mono ?_))
    rintro e2 w2 ⟨rfl, hb2⟩
    replace A := A.past hb2
    replace B := B.past hb2
    replace ha := ha.past hb2
    have hs2 := hs1.trans (hb2.mono hs1.size)
    go_wp2
    go_ret
    exact ⟨rfl, hs2⟩

theorem errOn_ok {a : Din} {g : Gd} (h : errOn a g = 0) : errDy a = 0 ∧ errG g = 0 := by
  unfold errOn at h
  by_cases h1 : errDy a = 0
  · rw [if_pos h1] at h; exact ⟨h1, h⟩
  · rw [if_neg h1] at h; exact absurd h h1

/-- What Holds answers. -/
def holdsB (a : Din) (g : Gd) : Bool := decide (errOn a g = 0) && keepsD (dyV a) g

set_option maxHeartbeats 4000000 in
set_option maxRecDepth 100000 in
theorem holds_any (a : Din) (g : Gd) (w : World) (ha : InD w a) (hT : TabW w) :
    Calls Tryd.prog 17 #[.agg #[.bool a.g, .slice a.p a.xs.length a.c, .int .i64 a.e], .agg #[.int .i64 g.rad, .int .i64 g.digs, .int .i64 g.lo, .int .i64 g.hi, .bool g.grad]] w fun en w' => en = .returned (.tuple #[.bool (holdsB a g), .int .i64 (errOn a g)]) ∧ Below w.heap.size w w' := by
  have HC := fun W h => Lib.hid (gcheck_any a g W h)
  unfold holdsB
  by_cases h0 : errOn a g = 0
  · obtain ⟨hd0, hg0⟩ := errOn_ok h0
    obtain ⟨hla, hea, hea2⟩ := dyV_bd ha hd0
    obtain ⟨ma, exa, eva, la, e1a, e2a⟩ := ha.ok hd0
    have HVA := Lib.hid (show bare ⟨a.g, ma, a.e⟩ = dyV a by unfold dyV; rw [eva])
    have hca := ha.cap
    have HO := fun W (h : InD W a) hT => Lib.hid (ofD_any a.g a.p a.xs.length a.c a.e ma W (by rw [← exa]; exact h.rd) (by rw [exa]) hca (by omega) (by omega) hT)
    rw [HVA.out] at HO
    have hk : keepsD (dyV a) g = keepsD ⟨(dyV a).neg, (dyV a).m, (dyV a).e⟩ g := rfl
    rw [h0] at HC ⊢
    rw [hk, decide_eq_true rfl, Bool.true_and]
    generalize dyV a = va at *
    have HK := fun W p c (h : Rd W .u32 p (dig B32 va.m)) => Lib.hid (gkeeps_any va.neg p c va.e va.m g W h (by omega) (by omega) (goodG_of hg0))
    generalize keepsD ⟨va.neg, va.m, va.e⟩ g = kb at *
    clear h0 hd0 hg0 exa eva hk
    go_enter Tryd.func17, Tryd.ntmps17
    go_wp2_with fail
    refine calls_lay2 (fun W1 hb1 hz1 A B => ?_)
    replace ha := ha.past hb1
    replace hT := hT.past hb1
    have hs1 := hb1
    ((with_reducible refine ((HC _ ha).out).mono ?_))
    rintro e2 w2 ⟨rfl, hb2⟩
    replace A := A.past hb2
    replace B := B.past hb2
    replace ha := ha.past hb2
    replace hT := hT.past hb2
    have hs2 := hs1.trans (hb2.mono hs1.size)
    go_wp2_with fail
    go_region_held3 (fun w' => (w'.cell? ⟨w.heap.size, 0, none⟩ = some (.bool a.g) ∧ w'.cell? ⟨w.heap.size, 1, none⟩ = some (.slice a.p a.xs.length a.c) ∧ w'.cell? ⟨w.heap.size, 2, none⟩ = some (.int .i64 a.e)) ∧
        (w'.cell? ⟨w.heap.size + 1, 0, none⟩ = some (.int .i64 g.rad) ∧ w'.cell? ⟨w.heap.size + 1, 1, none⟩ = some (.int .i64 g.digs) ∧ w'.cell? ⟨w.heap.size + 1, 2, none⟩ = some (.int .i64 g.lo) ∧ w'.cell? ⟨w.heap.size + 1, 3, none⟩ = some (.int .i64 g.hi) ∧ w'.cell? ⟨w.heap.size + 1, 4, none⟩ = some (.bool g.grad)))
      (first
      | with_reducible exact ⟨A.e3, B.e5⟩
      | with_reducible exact ⟨A.drew.e3, B.drew.e5⟩
      | with_reducible exact ⟨(A.drew.past hbx).e3, (B.drew.past hbx).e5⟩
      | with_reducible exact ⟨((A.drew.past hbx).past hby).e3, ((B.drew.past hbx).past hby).e5⟩)
      (first
        | (go_at_call 46; ((with_reducible refine (HO _ ha.drew hT.drew).out.mono ?_)); rintro ex wx ⟨px, cx, rfl, hox, hbx⟩)
        | (go_at_call 45; ((with_reducible refine (HK _ px cx hox.rd).out.mono ?_)); rintro ey wy ⟨rfl, hby⟩))
    all_goals (go_wp2_with fail)
    refine bodyPost_ret (v := .tuple #[.bool kb, .int .i64 0]) (by simp [results, Tryd.results17, go_sem]) rfl ?_
    exact ⟨rfl, (hs2.drew.trans (hbx.mono hs2.size)).trans (hby.mono (Nat.le_trans hs2.size hbx.size))⟩
  · obtain ⟨e1, he1⟩ : ∃ e1, errOn a g = e1 := ⟨_, rfl⟩
    rw [he1] at HC h0 ⊢
    rw [decide_eq_false h0, Bool.false_and]
    have t1 : (e1 == 0) = false := beq_eq_false_iff_ne.2 h0
    have t2 : (e1 != 0) = true := by rw [bne, t1]; rfl
    clear he1 h0
    go_enter Tryd.func17, Tryd.ntmps17
    go_wp2_with fail
    refine calls_lay2 (fun W1 hb1 hz1 A B => ?_)
    replace ha := ha.past hb1
    replace hT := hT.past hb1
    have hs1 := hb1
    ((with_reducible refine ((HC _ ha).out).mono ?_))
    rintro e2 w2 ⟨rfl, hb2⟩
    replace A := A.past hb2
    replace B := B.past hb2
    replace ha := ha.past hb2
    replace hT := hT.past hb2
    have hs2 := hs1.trans (hb2.mono hs1.size)
    go_wp2
    refine bodyPost_ret (v := .tuple #[.bool false, .int .i64 e1]) (by simp [results, Tryd.results17, go_sem]) rfl ?_
    exact ⟨rfl, hs2⟩

end Go.Proofs.YtpdmajoofllhdaaDoor
