/- The law GridHolds: its walk. -/
import Derived.Test.YtpdmajoofllhdaaDoorZGd9
import Derived.Test.YtpdmajoofllhdaaDoorZLawG0
import Derived.Test.YtpdmajoofllhdaaDoorZRDy2
namespace Go.Proofs.YtpdmajoofllhdaaDoor
open Go.RowKit Go.Slip


set_option maxHeartbeats 4000000 in
set_option maxRecDepth 100000 in
theorem lawGHold_row (a : Din) (g : Gd) (w : World) (ha : InD w a) (hT : TabW w) :
    Calls Tryd.prog 4 #[.agg #[.bool a.g, .slice a.p a.xs.length a.c, .int .i64 a.e], .agg #[.int .i64 g.rad, .int .i64 g.digs, .int .i64 g.lo, .int .i64 g.hi, .bool g.grad]] w fun e w' => e = .returned (.bool true) ∧ Below w.heap.size w w' := by
  have HH := fun W h1 h2 => Lib.hid (holds_any a g W h1 h2)
  have HG := fun W h => Lib.hid (onGrid_any a g W h)
  by_cases h0 : errOn a g = 0
  · obtain ⟨hd0, hg0⟩ := errOn_ok h0
    obtain ⟨hla, hea, hea2⟩ := dyV_bd ha hd0
    have lv16 := B16_len32 (dyV a).m
    have HO := fun W h => Lib.hid (refOfDyad_any a W h hd0)
    have hkk : holdsB a g = inGridD (dyV a) g := by unfold holdsB; rw [decide_eq_true h0, Bool.true_and, keeps_eq (dyV_bare a) (goodG_of hg0)]
    have hk : inGridD (dyV a) g = inGridD ⟨(dyV a).neg, (dyV a).m, (dyV a).e⟩ g := rfl
    rw [hkk, h0, hk] at HH
    rw [h0] at HG
    generalize dyV a = va at *
    have HI := fun W p c (h : Rd W .i64 p (dig B16 va.m)) => Lib.hid (refInGrid_any va.neg p _ c va.e va.m g W h rfl (by omega) (by omega) (goodG_of hg0))
    generalize inGridD ⟨va.neg, va.m, va.e⟩ g = kb at *
    have t1 : (kb == kb) = true := by simp
    clear h0 hd0 hg0 hkk hk
    go_enter Tryd.func4, Tryd.ntmps4
    go_wp2_with fail
    refine calls_lay2 (fun W1 hb1 hz1 A B => ?_)
    replace ha := ha.past hb1
    replace hT := hT.past hb1
    have hs1 := hb1
    ((with_reducible refine ((HH _ ha hT).out).mono ?_))
    rintro e2 w2 ⟨rfl, hb2⟩
    replace A := A.past hb2
    replace B := B.past hb2
    replace ha := ha.past hb2
    replace hT := hT.past hb2
    have hs2 := hs1.trans (hb2.mono hs1.size)
    obtain ⟨A_0, A_1, A_2⟩ := A.e3
    obtain ⟨B_0, B_1, B_2, B_3, B_4⟩ := B.e5
    go_wp2_with fail
    clear A_0 A_1 A_2 B_0 B_1 B_2 B_3 B_4
    ((with_reducible refine ((HG _ ha).out).mono ?_))
    rintro e3 w3 ⟨rfl, hb3⟩
    replace A := A.past hb3
    replace B := B.past hb3
    replace ha := ha.past hb3
    replace hT := hT.past hb3
    have hs3 := hs2.trans (hb3.mono hs2.size)
    go_wp2_with fail
    go_region_held3 (fun w' => (w'.cell? ⟨w.heap.size, 0, none⟩ = some (.bool a.g) ∧ w'.cell? ⟨w.heap.size, 1, none⟩ = some (.slice a.p a.xs.length a.c) ∧ w'.cell? ⟨w.heap.size, 2, none⟩ = some (.int .i64 a.e)) ∧
        (w'.cell? ⟨w.heap.size + 1, 0, none⟩ = some (.int .i64 g.rad) ∧ w'.cell? ⟨w.heap.size + 1, 1, none⟩ = some (.int .i64 g.digs) ∧ w'.cell? ⟨w.heap.size + 1, 2, none⟩ = some (.int .i64 g.lo) ∧ w'.cell? ⟨w.heap.size + 1, 3, none⟩ = some (.int .i64 g.hi) ∧ w'.cell? ⟨w.heap.size + 1, 4, none⟩ = some (.bool g.grad)))
      (first
      | with_reducible exact ⟨A.e3, B.e5⟩
      | with_reducible exact ⟨A.drew.e3, B.drew.e5⟩
      | with_reducible exact ⟨(A.drew.past hbx).e3, (B.drew.past hbx).e5⟩
      | with_reducible exact ⟨((A.drew.past hbx).past hby).e3, ((B.drew.past hbx).past hby).e5⟩
      | with_reducible exact ⟨(((A.drew.past hbx).past hby).past hbz).e3, (((B.drew.past hbx).past hby).past hbz).e5⟩)
      (first
        | (go_at_call 15; ((with_reducible refine (gridBegun_any _).mono ?_)); rintro ex wx ⟨rfl, hbx⟩)
        | (go_at_call 20; ((with_reducible refine (HO _ (ha.drew.past hbx)).out.mono ?_)); rintro ey wy ⟨py, cy, rfl, hry, hcy, hfy, hby⟩)
        | (go_at_call 19; ((with_reducible refine (HI _ py cy hry).out.mono ?_)); rintro ez wz ⟨rfl, hbz⟩))
    all_goals (go_wp2_with fail)
    all_goals go_ret
    all_goals (exact ⟨by simp, ((hs3.drew.trans (hbx.mono hs3.size)).trans (hby.mono (Nat.le_trans hs3.size hbx.size))).trans (hbz.mono (Nat.le_trans (Nat.le_trans hs3.size hbx.size) hby.size))⟩)
  · have hkk : holdsB a g = false := by unfold holdsB; rw [decide_eq_false h0, Bool.false_and]
    rw [hkk] at HH
    obtain ⟨e1, he1⟩ : ∃ e1, errOn a g = e1 := ⟨_, rfl⟩
    rw [he1] at HH HG h0
    have t1 : (e1 == 0) = false := beq_eq_false_iff_ne.2 h0
    have t2 : (e1 == e1) = true := by simp
    clear he1 h0 hkk
    go_enter Tryd.func4, Tryd.ntmps4
    go_wp2_with fail
    refine calls_lay2 (fun W1 hb1 hz1 A B => ?_)
    replace ha := ha.past hb1
    replace hT := hT.past hb1
    have hs1 := hb1
    ((with_reducible refine ((HH _ ha hT).out).mono ?_))
    rintro e2 w2 ⟨rfl, hb2⟩
    replace A := A.past hb2
    replace B := B.past hb2
    replace ha := ha.past hb2
    replace hT := hT.past hb2
    have hs2 := hs1.trans (hb2.mono hs1.size)
    obtain ⟨A_0, A_1, A_2⟩ := A.e3
    obtain ⟨B_0, B_1, B_2, B_3, B_4⟩ := B.e5
    go_wp2_with fail
    clear A_0 A_1 A_2 B_0 B_1 B_2 B_3 B_4
    ((with_reducible refine ((HG _ ha).out).mono ?_))
    rintro e3 w3 ⟨rfl, hb3⟩
    replace A := A.past hb3
    replace B := B.past hb3
    replace ha := ha.past hb3
    replace hT := hT.past hb3
    have hs3 := hs2.trans (hb3.mono hs2.size)
    go_wp2_with fail
    refine wp_region_held_drew (S := fun _ => True) (by kernel_rfl) True.intro (fun hHeld => ?_)
    refine wpAnyH_ready (rs := [0]) (by kernel_rfl) (by simp) ?_
    refine AllReadyH.cons rfl (fun K hK => ?_) AllReadyH.nil
    go_simp
    (go_at_call 15; ((with_reducible refine (gridBegun_any _).mono ?_)); rintro ex wx ⟨rfl, hbx⟩)
    try (go_wp2_with fail)
    refine hK.out _ _ True.intro (fun hHeld2 => ?_)
    clear hK K
    try simp only [List.getElem_toArray, List.getElem_cons_succ, List.getElem_cons_zero, Act.put, List.setIfInBounds_toArray, List.set_cons_zero, List.set_cons_succ]
    refine wpAnyH_take (i := 1) (v := .bool true) rfl (by kernel_rfl) (by kernel_rfl) (by kernel_rfl) (fun _ _ _ h => h) (.inl ⟨by rfl, fun w hSw => ?_⟩) True.intro ?_
    · first | (go_simp; done) | (go_simp; with_reducible rfl)
    try simp only [List.getElem_toArray, List.getElem_cons_succ, List.getElem_cons_zero, Act.put, List.setIfInBounds_toArray, List.set_cons_zero, List.set_cons_succ]
    refine wpAnyH_take (i := 2) (v := .int .i64 e1) rfl (by kernel_rfl) (by kernel_rfl) (by kernel_rfl) (fun _ _ _ h => h) (.inl ⟨by rfl, fun w hSw => ?_⟩) True.intro ?_
    · first | (go_simp; done) | (go_simp; with_reducible rfl)
    try simp only [List.getElem_toArray, List.getElem_cons_succ, List.getElem_cons_zero, Act.put, List.setIfInBounds_toArray, List.set_cons_zero, List.set_cons_succ]
    refine wpAnyH_take (i := 3) (v := .int .i64 e1) rfl (by kernel_rfl) (by kernel_rfl) (by kernel_rfl) (fun _ _ _ h => h) (.inl ⟨by rfl, fun w hSw => ?_⟩) True.intro ?_
    · first | (go_simp; done) | (go_simp; with_reducible rfl)
    try simp only [List.getElem_toArray, List.getElem_cons_succ, List.getElem_cons_zero, Act.put, List.setIfInBounds_toArray, List.set_cons_zero, List.set_cons_succ]
    refine wpAnyH_take (i := 4) (v := .bool true) rfl (by kernel_rfl) (by kernel_rfl) (by kernel_rfl) (fun _ _ _ h => h) (.inl ⟨by rfl, fun w hSw => ?_⟩) True.intro ?_
    · first | (go_simp; done) | (go_simp; with_reducible rfl)
    try simp only [List.getElem_toArray, List.getElem_cons_succ, List.getElem_cons_zero, Act.put, List.setIfInBounds_toArray, List.set_cons_zero, List.set_cons_succ]
    refine wpAnyH_take (i := 5) (v := .bool true) rfl (by kernel_rfl) (by kernel_rfl) (by kernel_rfl) (fun _ _ _ h => h) (.inl ⟨by rfl, fun w hSw => ?_⟩) True.intro ?_
    · first | (go_simp; done) | (go_simp; with_reducible rfl)
    try simp only [List.getElem_toArray, List.getElem_cons_succ, List.getElem_cons_zero, Act.put, List.setIfInBounds_toArray, List.set_cons_zero, List.set_cons_succ]
    refine wpAnyH_take (i := 6) (v := .bool true) rfl (by kernel_rfl) (by kernel_rfl) (by kernel_rfl) (fun _ _ _ h => h) (.inl ⟨by rfl, fun w hSw => ?_⟩) True.intro ?_
    · first | (go_simp; done) | (go_simp; with_reducible rfl)
    try simp only [List.getElem_toArray, List.getElem_cons_succ, List.getElem_cons_zero, Act.put, List.setIfInBounds_toArray, List.set_cons_zero, List.set_cons_succ]
    refine wpAnyH_take (i := 7) (v := .bool false) rfl (by kernel_rfl) (by kernel_rfl) (by kernel_rfl) (fun _ _ _ h => h) (.inl ⟨by rfl, fun w hSw => ?_⟩) True.intro ?_
    · first | (go_simp; done) | (go_simp; with_reducible rfl)
    try simp only [List.getElem_toArray, List.getElem_cons_succ, List.getElem_cons_zero, Act.put, List.setIfInBounds_toArray, List.set_cons_zero, List.set_cons_succ]
    refine wpAnyH_take (i := 8) (v := .int .i64 e1) rfl (by kernel_rfl) (by kernel_rfl) (by kernel_rfl) (fun _ _ _ h => h) (.inl ⟨by rfl, fun w hSw => ?_⟩) True.intro ?_
    · first | (go_simp; done) | (go_simp; with_reducible rfl)
    try simp only [List.getElem_toArray, List.getElem_cons_succ, List.getElem_cons_zero, Act.put, List.setIfInBounds_toArray, List.set_cons_zero, List.set_cons_succ]
    refine wpAnyH_take (i := 9) (v := .bool false) rfl (by kernel_rfl) (by kernel_rfl) (by kernel_rfl) (fun _ _ _ h => h) (.inl ⟨by rfl, fun w hSw => ?_⟩) True.intro ?_
    · first | (go_simp; done) | (go_simp; with_reducible rfl)
    try simp only [List.getElem_toArray, List.getElem_cons_succ, List.getElem_cons_zero, Act.put, List.setIfInBounds_toArray, List.set_cons_zero, List.set_cons_succ]
    refine wpAnyH_take (i := 10) (v := .bool false) rfl (by kernel_rfl) (by kernel_rfl) (by kernel_rfl) (fun _ _ _ h => h) (.inl ⟨by rfl, fun w hSw => ?_⟩) True.intro ?_
    · first | (go_simp; done) | (go_simp; with_reducible rfl)
    try simp only [List.getElem_toArray, List.getElem_cons_succ, List.getElem_cons_zero, Act.put, List.setIfInBounds_toArray, List.set_cons_zero, List.set_cons_succ]
    refine wpAnyH_take (i := 11) (v := undef) rfl (by kernel_rfl) (by kernel_rfl) (by kernel_rfl) (fun _ _ _ h => h) (.inr ⟨by rfl, rfl⟩) True.intro ?_
    try simp only [List.getElem_toArray, List.getElem_cons_succ, List.getElem_cons_zero, Act.put, List.setIfInBounds_toArray, List.set_cons_zero, List.set_cons_succ]
    refine wpAnyH_take (i := 12) (v := undef) rfl (by kernel_rfl) (by kernel_rfl) (by kernel_rfl) (fun _ _ _ h => h) (.inr ⟨by rfl, rfl⟩) True.intro ?_
    try simp only [List.getElem_toArray, List.getElem_cons_succ, List.getElem_cons_zero, Act.put, List.setIfInBounds_toArray, List.set_cons_zero, List.set_cons_succ]
    refine wpAnyH_take (i := 13) (v := undef) rfl (by kernel_rfl) (by kernel_rfl) (by kernel_rfl) (fun _ _ _ h => h) (.inr ⟨by rfl, rfl⟩) True.intro ?_
    try simp only [List.getElem_toArray, List.getElem_cons_succ, List.getElem_cons_zero, Act.put, List.setIfInBounds_toArray, List.set_cons_zero, List.set_cons_succ]
    refine wpAnyH_take (i := 14) (v := undef) rfl (by kernel_rfl) (by kernel_rfl) (by kernel_rfl) (fun _ _ _ h => h) (.inr ⟨by rfl, rfl⟩) True.intro ?_
    try simp only [List.getElem_toArray, List.getElem_cons_succ, List.getElem_cons_zero, Act.put, List.setIfInBounds_toArray, List.set_cons_zero, List.set_cons_succ]
    refine wpAnyH_take (i := 15) (v := .bool false) rfl (by kernel_rfl) (by kernel_rfl) (by kernel_rfl) (fun _ _ _ h => h) (.inl ⟨by rfl, fun w hSw => ?_⟩) True.intro ?_
    · first | (go_simp; done) | (go_simp; with_reducible rfl)
    try simp only [List.getElem_toArray, List.getElem_cons_succ, List.getElem_cons_zero, Act.put, List.setIfInBounds_toArray, List.set_cons_zero, List.set_cons_succ]
    refine wpAnyH_take (i := 16) (v := .bool true) rfl (by kernel_rfl) (by kernel_rfl) (by kernel_rfl) (fun _ _ _ h => h) (.inl ⟨by rfl, fun w hSw => ?_⟩) True.intro ?_
    · first | (go_simp; done) | (go_simp; with_reducible rfl)
    try simp only [List.getElem_toArray, List.getElem_cons_succ, List.getElem_cons_zero, Act.put, List.setIfInBounds_toArray, List.set_cons_zero, List.set_cons_succ]
    refine wpAnyH_take (i := 17) (v := .bool true) rfl (by kernel_rfl) (by kernel_rfl) (by kernel_rfl) (fun _ _ _ h => h) (.inl ⟨by rfl, fun w hSw => ?_⟩) True.intro ?_
    · first | (go_simp; done) | (go_simp; with_reducible rfl)
    try simp only [List.getElem_toArray, List.getElem_cons_succ, List.getElem_cons_zero, Act.put, List.setIfInBounds_toArray, List.set_cons_zero, List.set_cons_succ]
    refine wpAnyH_take (i := 18) (v := .bool true) rfl (by kernel_rfl) (by kernel_rfl) (by kernel_rfl) (fun _ _ _ h => h) (.inl ⟨by rfl, fun w hSw => ?_⟩) True.intro ?_
    · first | (go_simp; done) | (go_simp; with_reducible rfl)
    try simp only [List.getElem_toArray, List.getElem_cons_succ, List.getElem_cons_zero, Act.put, List.setIfInBounds_toArray, List.set_cons_zero, List.set_cons_succ]
    refine wpAnyH_done (by kernel_rfl) ?_ _
    all_goals (go_wp2_with fail)
    all_goals go_ret
    all_goals (exact ⟨by simp, hs3.drew.trans (hbx.mono hs3.size)⟩)

end Go.Proofs.YtpdmajoofllhdaaDoor
