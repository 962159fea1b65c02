/- The references on balls: CheckBall, SameBall, ToBall; the laws' twoBalls. -/
import Derived.Test.YtehodhanojgkgaaDoorZL
import Derived.Test.YtehodhanojgkgaaDoorZI
import Derived.Test.YtehodhanojgkgaaDoorZBall12
import Derived.Test.YtehodhanojgkgaaDoorZA
namespace Go.Proofs.YtehodhanojgkgaaDoor
open Go.RowKit Go.Slip

set_option maxHeartbeats 4000000 in
set_option maxRecDepth 100000 in
theorem refCheckBall_any (a b : Din) (w : World) (ha : InD w a) (hb : InD w b) :
    Calls Tryd.prog 22 #[.agg #[.bool a.g, .slice a.p a.xs.length a.c, .int .i64 a.e, .bool b.g, .slice b.p b.xs.length b.c, .int .i64 b.e]] w fun en w' => en = .returned (.int .i64 (errBall a b)) ∧ Below w.heap.size w w' := by
  have HT := fun W h1 h2 => Lib.hid (show Calls Tryd.prog 55 #[.agg #[.bool a.g, .slice a.p a.xs.length a.c, .int .i64 a.e], .agg #[.bool b.g, .slice b.p b.xs.length b.c, .int .i64 b.e]] W fun en w' => en = .returned (.int .i64 (errDy2 a b)) ∧ Below W.heap.size W w' from refTwoDyads_any a b W (InD.rd h1) ha.len (InD.rd h2) hb.len)
  have HE := Lib.hid (show errBall a b = if errDy2 a b = 0 then (if 0 < pCmp (dyV a) (dyV b) then 4 else 0) else errDy2 a b from rfl)
  have HPR := Lib.hid (rCmp_eq (dyV_bare a) (dyV_bare b))
  have HOK := Lib.hid (fun h : errDy2 a b = 0 => errDy2_ok h)
  generalize errDy2 a b = e2 at *
  by_cases h0 : e2 = 0
  · obtain ⟨q1, q2⟩ := HOK.out h0
    have t1 : (e2 == 0) = true := by simpa using h0
    have HOA := fun W h => Lib.hid (ofDyadF_any a W h q1)
    have HOB := fun W h => Lib.hid (ofDyadF_any b W h q2)
    have HEE := Lib.hid (HE.out.trans (if_pos h0))
    clear HE HOK q1 q2 h0
    rw [HPR.out] at HEE
    obtain ⟨C, hC⟩ : ∃ C, rCmp (dyV a) (dyV b) = C := ⟨_, rfl⟩
    rw [hC] at HEE
    have HC := Lib.hid hC
    clear hC HPR
    generalize dyV a = va at *
    generalize dyV b = vb at *
    go_enter Tryd.func22, Tryd.ntmps22
    go_wp2_with fail
    refine calls_lay1 (fun W1 hb1 hz1 A => ?_)
    replace ha := ha.past hb1
    replace hb := hb.past hb1
    have hs1 := hb1
    ((with_reducible refine ((HT _ ha hb).out).mono ?_))
    rintro e2 w2 ⟨rfl, hb2⟩
    replace A := A.past hb2
    replace ha := ha.past hb2
    replace hb := hb.past hb2
    have hs2 := hs1.trans (hb2.mono hs1.size)
    go_upto_region 2 with (fail)
    go_region_held3 (fun w' => w'.cell? ⟨w.heap.size, 0, none⟩ = some (.bool a.g) ∧ w'.cell? ⟨w.heap.size, 1, none⟩ = some (.slice a.p a.xs.length a.c) ∧ w'.cell? ⟨w.heap.size, 2, none⟩ = some (.int .i64 a.e) ∧ w'.cell? ⟨w.heap.size, 3, none⟩ = some (.bool b.g) ∧ w'.cell? ⟨w.heap.size, 4, none⟩ = some (.slice b.p b.xs.length b.c) ∧ w'.cell? ⟨w.heap.size, 5, none⟩ = some (.int .i64 b.e))
      (first
        | with_reducible exact A.e6
        | with_reducible exact A.drew.e6
        | with_reducible exact (A.drew.past hbx).e6
        | with_reducible exact ((A.drew.past hbx).past hby).e6
        | with_reducible exact (((A.drew.past hbx).past hby).past hbz).e6)
      (first
        | (go_at_call_of 36 (Value.agg #[.bool a.g, .slice a.p a.xs.length a.c, .int .i64 a.e]); ((with_reducible refine (HOA _ ha.drew).out.mono ?_)); rintro ex wx ⟨rx, hrx, rfl, hfx, hbx⟩; have HRX := Lib.hid hrx; clear hrx)
        | (go_at_call_of 36 (Value.agg #[.bool b.g, .slice b.p b.xs.length b.c, .int .i64 b.e]); ((with_reducible refine (HOB _ (hb.drew.past hbx)).out.mono ?_)); rintro ey wy ⟨ry, hry, rfl, hfy, hby⟩; have HRY := Lib.hid hry; clear hry)
        | (go_at_call 26; ((with_reducible refine (dcmpF_any rx ry _ _ _ (hfx.past hby) hfy).mono ?_)); rw [HRX.out, HRY.out, HC.out]; rintro ez wz ⟨rfl, hbz⟩))
    have hsz := ((hs2.drew.trans (hbx.mono hs2.size)).trans (hby.mono (Nat.le_trans hs2.size hbx.size))).trans (hbz.mono (Nat.le_trans (Nat.le_trans hs2.size hbx.size) hby.size))
    by_cases hC : 0 < C
    · have HEF := Lib.hid (HEE.out.trans (if_pos hC))
      go_wp2
      go_ret
      exact ⟨ret_int HEF.out.symm, hsz⟩
    · have HEF := Lib.hid (HEE.out.trans (if_neg hC))
      have t3 : e2 = 0 := by simpa using t1
      go_wp2
      go_ret
      exact ⟨ret_int HEF.out.symm, hsz⟩
  · have t1 : (e2 == 0) = false := beq_eq_false_iff_ne.2 h0
    have HEE := Lib.hid (HE.out.trans (if_neg h0))
    clear HE HOK h0 HPR
    go_enter Tryd.func22, Tryd.ntmps22
    go_wp2_with fail
    refine calls_lay1 (fun W1 hb1 hz1 A => ?_)
    replace ha := ha.past hb1
    replace hb := hb.past hb1
    have hs1 := hb1
    ((with_reducible refine ((HT _ ha hb).out).mono ?_))
    rintro e2 w2 ⟨rfl, hb2⟩
    replace A := A.past hb2
    replace ha := ha.past hb2
    replace hb := hb.past hb2
    have hs2 := hs1.trans (hb2.mono hs1.size)
    go_upto_region 2 with (fail)
    refine wp_region_held_drew (S := fun _ => True) (by kernel_rfl) True.intro (fun hHeld => ?_)
    refine wpAnyH_take (i := 0) (v := .int .i64 e2) rfl (by kernel_rfl) (by kernel_rfl) (by kernel_rfl) (fun _ _ _ h => h) (.inl ⟨by rfl, fun w hSw => ?_⟩) True.intro ?_
    · first | (go_simp; done) | (go_simp; with_reducible rfl)
    try simp only [List.getElem_toArray, List.getElem_cons_zero, Act.put, List.setIfInBounds_toArray, List.set_cons_zero, List.set_cons_succ]
    refine wpAnyH_take (i := 1) (v := .bool false) rfl (by kernel_rfl) (by kernel_rfl) (by kernel_rfl) (fun _ _ _ h => h) (.inl ⟨by rfl, fun w hSw => ?_⟩) True.intro ?_
    · first | (go_simp; done) | (go_simp; with_reducible rfl)
    try simp only [List.getElem_toArray, List.getElem_cons_succ, List.getElem_cons_zero, Act.put, List.setIfInBounds_toArray, List.set_cons_zero, List.set_cons_succ]
    refine wpAnyH_take (i := 2) (v := .bool false) rfl (by kernel_rfl) (by kernel_rfl) (by kernel_rfl) (fun _ _ _ h => h) (.inl ⟨by rfl, fun w hSw => ?_⟩) True.intro ?_
    · first | (go_simp; done) | (go_simp; with_reducible rfl)
    try simp only [List.getElem_toArray, List.getElem_cons_succ, List.getElem_cons_zero, Act.put, List.setIfInBounds_toArray, List.set_cons_zero, List.set_cons_succ]
    refine wpAnyH_take (i := 3) (v := undef) rfl (by kernel_rfl) (by kernel_rfl) (by kernel_rfl) (fun _ _ _ h => h) (.inr ⟨by rfl, rfl⟩) True.intro ?_
    try simp only [List.getElem_toArray, List.getElem_cons_succ, List.getElem_cons_zero, Act.put, List.setIfInBounds_toArray, List.set_cons_zero, List.set_cons_succ]
    refine wpAnyH_take (i := 4) (v := undef) rfl (by kernel_rfl) (by kernel_rfl) (by kernel_rfl) (fun _ _ _ h => h) (.inr ⟨by rfl, rfl⟩) True.intro ?_
    try simp only [List.getElem_toArray, List.getElem_cons_succ, List.getElem_cons_zero, Act.put, List.setIfInBounds_toArray, List.set_cons_zero, List.set_cons_succ]
    refine wpAnyH_take (i := 5) (v := undef) rfl (by kernel_rfl) (by kernel_rfl) (by kernel_rfl) (fun _ _ _ h => h) (.inr ⟨by rfl, rfl⟩) True.intro ?_
    try simp only [List.getElem_toArray, List.getElem_cons_succ, List.getElem_cons_zero, Act.put, List.setIfInBounds_toArray, List.set_cons_zero, List.set_cons_succ]
    refine wpAnyH_take (i := 6) (v := undef) rfl (by kernel_rfl) (by kernel_rfl) (by kernel_rfl) (fun _ _ _ h => h) (.inr ⟨by rfl, rfl⟩) True.intro ?_
    try simp only [List.getElem_toArray, List.getElem_cons_succ, List.getElem_cons_zero, Act.put, List.setIfInBounds_toArray, List.set_cons_zero, List.set_cons_succ]
    refine wpAnyH_take (i := 7) (v := undef) rfl (by kernel_rfl) (by kernel_rfl) (by kernel_rfl) (fun _ _ _ h => h) (.inr ⟨by rfl, rfl⟩) True.intro ?_
    try simp only [List.getElem_toArray, List.getElem_cons_succ, List.getElem_cons_zero, Act.put, List.setIfInBounds_toArray, List.set_cons_zero, List.set_cons_succ]
    refine wpAnyH_take (i := 8) (v := undef) rfl (by kernel_rfl) (by kernel_rfl) (by kernel_rfl) (fun _ _ _ h => h) (.inr ⟨by rfl, rfl⟩) True.intro ?_
    try simp only [List.getElem_toArray, List.getElem_cons_succ, List.getElem_cons_zero, Act.put, List.setIfInBounds_toArray, List.set_cons_zero, List.set_cons_succ]
    refine wpAnyH_take (i := 9) (v := undef) rfl (by kernel_rfl) (by kernel_rfl) (by kernel_rfl) (fun _ _ _ h => h) (.inr ⟨by rfl, rfl⟩) True.intro ?_
    try simp only [List.getElem_toArray, List.getElem_cons_succ, List.getElem_cons_zero, Act.put, List.setIfInBounds_toArray, List.set_cons_zero, List.set_cons_succ]
    refine wpAnyH_take (i := 10) (v := undef) rfl (by kernel_rfl) (by kernel_rfl) (by kernel_rfl) (fun _ _ _ h => h) (.inr ⟨by rfl, rfl⟩) True.intro ?_
    try simp only [List.getElem_toArray, List.getElem_cons_succ, List.getElem_cons_zero, Act.put, List.setIfInBounds_toArray, List.set_cons_zero, List.set_cons_succ]
    refine wpAnyH_take (i := 11) (v := .bool false) rfl (by kernel_rfl) (by kernel_rfl) (by kernel_rfl) (fun _ _ _ h => h) (.inl ⟨by rfl, fun w hSw => ?_⟩) True.intro ?_
    · first | (go_simp; done) | (go_simp; with_reducible rfl)
    try simp only [List.getElem_toArray, List.getElem_cons_succ, List.getElem_cons_zero, Act.put, List.setIfInBounds_toArray, List.set_cons_zero, List.set_cons_succ]
    refine wpAnyH_done (by kernel_rfl) ?_ _
    go_wp2_with fail
    go_ret
    exact ⟨ret_int HEE.out.symm, hs2.drew⟩

end Go.Proofs.YtehodhanojgkgaaDoor
