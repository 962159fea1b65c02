/- dyad: Bare, Scale. -/
import Derived.Test.YtcbjidcpcompoaaDoorZDyad9
import Derived.Test.YtcbjidcpcompoaaDoorZE
namespace Go.Proofs.YtcbjidcpcompoaaDoor
open Go.RowKit Go.Slip

theorem Box3.put2 {w : World} {b : Nat} {v0 v1 v2 : Value} (h : Box3 w b v0 v1 v2) (u : Value) : Box3 (w.setCell ⟨b, 2, none⟩ u) b v0 v1 u :=
  ⟨(World.cell?_setCell_other _ _ _ _ (by simp)).trans h.c0, (World.cell?_setCell_other _ _ _ _ (by simp)).trans h.c1, World.cell?_setCell_same _ _ _ h.c2, by simpa using h.f0, by simpa using h.f1, by simpa using h.f2, by simpa using h.lt⟩

/-- What a call tells that may be wrong ahead of its work. -/
def errOne (e0 : Int) (r : Dv) : Int := if e0 = 0 then errD r else e0
def doneOne (e0 : Int) (r : Dv) : Dv := if e0 = 0 then doneD r else ⟨false, 0, 0⟩

theorem givesDE_put0 {w wk : World} {base b : Nat} {er : Int} (hs : Below w.heap.size w wk) (hB : w.heap.size ≤ b) :
    GivesDE w base ⟨false, 0, 0⟩ er (.returned (.tuple #[.agg #[.bool false, .slice none 0 0, .int .i64 0], .int .i64 er])) (((wk.setCell ⟨b, 0, none⟩ (.bool false)).setCell ⟨b, 1, none⟩ (.slice none 0 0)).setCell ⟨b, 2, none⟩ (.int .i64 0)) :=
  ⟨none, 0, by rw [dig_zero]; rfl, by rw [dig_zero]; exact Own.nil _ _ _ _, Below.beside hs hB _ _ _⟩


set_option maxHeartbeats 2000000 in
theorem dyBare_any (a : Din) (w : World) (ha : InD w a) (hT : TabW w) :
    Calls Tryd.prog 21 #[.agg #[.bool a.g, .slice a.p a.xs.length a.c, .int .i64 a.e]] w (GivesDE w w.heap.size (doneOne (errDy a) (dyV a)) (errOne (errDy a) (dyV a))) := by
  obtain ⟨W1, hW1, hs1, A1, R1, hz1⟩ := box2s w (.bool a.g) (.slice a.p a.xs.length a.c) (.int .i64 a.e) (.bool false) (.slice none 0 0) (.int .i64 0) 25 25
  have ha1 := ha.past hs1
  have hT1 := hT.past hs1
  have HW1 := Lib.hid hW1
  clear hW1
  unfold doneOne errOne
  by_cases he : errDy a = 0
  · rw [if_pos he, if_pos he]
    obtain ⟨hla, hea, hea2⟩ := dyV_bd ha he
    obtain ⟨ma, exa, eva, la, e1a, e2a⟩ := ha.ok he
    have HVA := Lib.hid (show bare ⟨a.g, ma, a.e⟩ = dyV a by unfold dyV; rw [eva])
    have HXA := Lib.hid exa
    have hca := ha.cap
    have HE := Lib.hid he
    clear he exa eva
    generalize dyV a = va at *
    obtain ⟨gv, mv, fv⟩ := va
    simp only at hla hea hea2
    go_enter Tryd.func21, Tryd.ntmps21
    go_wp2_with fail
    rw [← HW1.out]
    ((with_reducible refine (dyCheck1_new a _ _ hz1.symm ha1.rd ha1.len).mono ?_))
    rintro e2 w2 ⟨rfl, hb2⟩
    have hb3 : Below W1.heap.size W1 w2 := ((Below.refl _ _).alloc (Nat.le_refl _) _).trans (hb2.mono (by simp))
    have hs2 := hs1.trans (hb3.mono hs1.size)
    replace A1 := A1.past hb3
    replace R1 := R1.past hb3
    replace ha1 := ha1.past hb3
    replace hT1 := hT1.past hb3
    clear hb2 HW1 hs1 hb3
    rw [HE.out]
    have ra1 : Rd w2 .u32 a.p (dig B32 ma) := by rw [← HXA.out]; exact ha1.rd
    have a0 := A1.c0
    have a1 := A1.c1
    have a2 := A1.c2
    go_wp2_with fail
    ((with_reducible refine (ofD_any a.g a.p _ a.c a.e ma _ ra1 (by rw [HXA.out]) hca (by omega) (by omega) hT1).mono ?_))
    rw [HVA.out]
    rintro e4 w4 ⟨p4, c4, rfl, ho4, hb4⟩
    go_wp2_with fail
    ((with_reducible refine (doneR_any gv p4 _ c4 _ fv mv _ ho4 rfl (by omega)).mono ?_))
    rintro e5 w5 ⟨p5, c5, rfl, ho5, hb5⟩
    obtain ⟨d0, d1, d2, f0, f1, f2, dlt⟩ := (R1.past hb4).past hb5
    go_wp2_with fail
    refine bodyPost_ret (v := .tuple #[.agg #[.bool (doneD ⟨gv, mv, fv⟩).neg, .slice p5 (dig B32 (doneD ⟨gv, mv, fv⟩).m).length c5, .int .i64 (doneD ⟨gv, mv, fv⟩).e], .int .i64 (errD ⟨gv, mv, fv⟩)]) (by simp [results, Tryd.results21, go_sem, d0, d1, d2]) rfl ?_
    have hs4 := hs2.trans (hb4.mono hs2.size)
    have hzR := R1.lt
    exact givesDE_close (hs4.trans (hb5.mono hs4.size)) ho5 hs2.size (by omega) (fun h => by have := (ho5.blk_lt h).1; omega)
  · rw [if_neg he, if_neg he]
    have HE := Lib.hid he
    obtain ⟨er, her⟩ : ∃ er, errDy a = er := ⟨_, rfl⟩
    have HC := fun W bk h1 h2 => Lib.hid (dyCheck1_new a W bk h1 h2 ha.len)
    simp only [her] at HC
    rw [her] at HE ⊢
    have hz0 : (er == 0) = false := beq_eq_false_iff_ne.2 HE.out
    have hz2 : (er != 0) = true := by rw [bne, hz0]; rfl
    clear he her
    go_enter Tryd.func21, Tryd.ntmps21
    go_wp2_with fail
    rw [← HW1.out]
    ((with_reducible refine (HC _ _ hz1.symm ha1.rd).out.mono ?_))
    rintro e2 w2 ⟨rfl, hb2⟩
    have hb3 : Below W1.heap.size W1 w2 := ((Below.refl _ _).alloc (Nat.le_refl _) _).trans (hb2.mono (by simp))
    have hs2 := hs1.trans (hb3.mono hs1.size)
    obtain ⟨d0, d1, d2, f0, f1, f2, dlt⟩ := R1.past hb3
    clear hb2 HW1 hs1 hb3
    go_wp2_with fail
    refine bodyPost_ret (v := .tuple #[.agg #[.bool false, .slice none 0 0, .int .i64 0], .int .i64 er]) (by simp [results, Tryd.results21, go_sem, d0, d1, d2]) rfl ?_
    exact givesDE_put0 hs2 (by omega)

/-- Times a power of 2. -/
def scaleV (v : Dv) (n : Int) : Dv := if v.m = 0 then v else ⟨v.neg, v.m, v.e + n⟩
/-- What is wrong ahead. -/
def errFar (e0 : Int) (far : Prop) [Decidable far] : Int := if e0 = 0 then (if far then 3 else 0) else e0

set_option maxHeartbeats 4000000 in
theorem dyScale_any (a : Din) (n : Int) (w : World) (ha : InD w a) (hT : TabW w) :
    Calls Tryd.prog 22 #[.agg #[.bool a.g, .slice a.p a.xs.length a.c, .int .i64 a.e], .int .i64 n] w
      (GivesDE w w.heap.size (doneOne (errFar (errDy a) (n < -40000 ∨ 40000 < n)) (scaleV (dyV a) n)) (errOne (errFar (errDy a) (n < -40000 ∨ 40000 < n)) (scaleV (dyV a) n))) := by
  obtain ⟨W1, hW1, hs1, A1, R1, hz1⟩ := box2s w (.bool a.g) (.slice a.p a.xs.length a.c) (.int .i64 a.e) (.bool false) (.slice none 0 0) (.int .i64 0) 25 25
  have ha1 := ha.past hs1
  have hT1 := hT.past hs1
  have HW1 := Lib.hid hW1
  clear hW1
  by_cases he : errDy a = 0
  · by_cases hn : n < -40000 ∨ 40000 < n
    · have e0 : errFar (errDy a) (n < -40000 ∨ 40000 < n) = 3 := by unfold errFar; rw [if_pos he, if_pos hn]
      rw [e0]
      unfold doneOne errOne
      rw [if_neg (by omega), if_neg (by omega)]
      clear e0
      have HE := Lib.hid he
      clear he
      rcases hn with hn | hn
      · go_enter Tryd.func22, Tryd.ntmps22
        go_wp2_with fail
        rw [← HW1.out]
        ((with_reducible refine (dyCheck1_new a _ _ hz1.symm ha1.rd ha1.len).mono ?_))
        rintro e2 w2 ⟨rfl, hb2⟩
        have hb3 : Below W1.heap.size W1 w2 := ((Below.refl _ _).alloc (Nat.le_refl _) _).trans (hb2.mono (by simp))
        have hs2 := hs1.trans (hb3.mono hs1.size)
        replace A1 := A1.past hb3
        replace R1 := R1.past hb3
        replace ha1 := ha1.past hb3
        replace hT1 := hT1.past hb3
        clear hb2 HW1 hs1 hb3
        rw [HE.out]
        obtain ⟨d0, d1, d2, f0, f1, f2, dlt⟩ := R1
        go_wp2_with fail
        refine bodyPost_ret (v := .tuple #[.agg #[.bool false, .slice none 0 0, .int .i64 0], .int .i64 3]) (by simp [results, Tryd.results22, go_sem, d0, d1, d2]) rfl ?_
        exact givesDE_put0 hs2 (by omega)
      · have hn2 : ¬ n < -40000 := by omega
        go_enter Tryd.func22, Tryd.ntmps22
        go_wp2_with fail
        rw [← HW1.out]
        ((with_reducible refine (dyCheck1_new a _ _ hz1.symm ha1.rd ha1.len).mono ?_))
        rintro e2 w2 ⟨rfl, hb2⟩
        have hb3 : Below W1.heap.size W1 w2 := ((Below.refl _ _).alloc (Nat.le_refl _) _).trans (hb2.mono (by simp))
        have hs2 := hs1.trans (hb3.mono hs1.size)
        replace A1 := A1.past hb3
        replace R1 := R1.past hb3
        replace ha1 := ha1.past hb3
        replace hT1 := hT1.past hb3
        clear hb2 HW1 hs1 hb3
        rw [HE.out]
        obtain ⟨d0, d1, d2, f0, f1, f2, dlt⟩ := R1
        go_wp2_with fail
        refine bodyPost_ret (v := .tuple #[.agg #[.bool false, .slice none 0 0, .int .i64 0], .int .i64 3]) (by simp [results, Tryd.results22, go_sem, d0, d1, d2]) rfl ?_
        exact givesDE_put0 hs2 (by omega)
    · have e0 : errFar (errDy a) (n < -40000 ∨ 40000 < n) = 0 := by unfold errFar; rw [if_pos he, if_neg hn]
      rw [e0]
      unfold doneOne errOne
      rw [if_pos rfl, if_pos rfl]
      clear e0
      have hn1 : ¬ n < -40000 := by omega
      have hn2 : ¬ 40000 < n := by omega
      clear hn
      obtain ⟨hla, hea, hea2⟩ := dyV_bd ha he
      obtain ⟨ma, exa, eva, la, e1a, e2a⟩ := ha.ok he
      have HVA := Lib.hid (show bare ⟨a.g, ma, a.e⟩ = dyV a by unfold dyV; rw [eva])
      have HXA := Lib.hid exa
      have hca := ha.cap
      have HE := Lib.hid he
      clear he exa eva
      generalize dyV a = va at *
      obtain ⟨gv, mv, fv⟩ := va
      simp only at hla hea hea2
      by_cases h0 : mv = 0
      · have hr : scaleV ⟨gv, mv, fv⟩ n = ⟨gv, mv, fv⟩ := by unfold scaleV; rw [if_pos h0]
        have HS := Lib.hid (show dSign ⟨gv, mv, fv⟩ = 0 by unfold dSign; rw [if_pos h0])
        rw [hr]
        clear hr h0
        go_enter Tryd.func22, Tryd.ntmps22
        go_wp2_with fail
        rw [← HW1.out]
        ((with_reducible refine (dyCheck1_new a _ _ hz1.symm ha1.rd ha1.len).mono ?_))
        rintro e2 w2 ⟨rfl, hb2⟩
        have hb3 : Below W1.heap.size W1 w2 := ((Below.refl _ _).alloc (Nat.le_refl _) _).trans (hb2.mono (by simp))
        have hs2 := hs1.trans (hb3.mono hs1.size)
        replace A1 := A1.past hb3
        replace R1 := R1.past hb3
        replace ha1 := ha1.past hb3
        replace hT1 := hT1.past hb3
        clear hb2 HW1 hs1 hb3
        rw [HE.out]
        have ra1 : Rd w2 .u32 a.p (dig B32 ma) := by rw [← HXA.out]; exact ha1.rd
        have a0 := A1.c0
        have a1 := A1.c1
        have a2 := A1.c2
        go_wp2_with fail
        ((with_reducible refine (ofD_any a.g a.p _ a.c a.e ma _ ra1 (by rw [HXA.out]) hca (by omega) (by omega) hT1).mono ?_))
        rw [HVA.out]
        rintro e4 w4 ⟨p4, c4, rfl, ho4, hb4⟩
        have hs4 := hs2.trans (hb4.mono hs2.size)
        have hzR := R1.lt
        replace R1 := R1.past hb4
        replace hT1 := hT1.past hb4
        have hb5 : Below w4.heap.size w4 (w4.alloc (.cells #[.bool gv, .slice p4 (dig B32 mv).length c4, .int .i64 fv] 60)) := (Below.refl _ _).alloc (Nat.le_refl _) _
        have X1 := box3_new w4 (.bool gv) (.slice p4 (dig B32 mv).length c4) (.int .i64 fv) 60
        have hs5 := hs4.trans (hb5.mono hs4.size)
        replace R1 := R1.past hb5
        replace hT1 := hT1.past hb5
        replace ho4 := ho4.past hb5
        clear a0 a1 a2
        go_wp2_with fail
        ((with_reducible refine (signD_any gv p4 _ c4 fv mv _ rfl).mono ?_))
        rintro e6 w6 ⟨rfl, hb6⟩
        rw [HS.out]
        have hs6 := hs5.trans (hb6.mono hs5.size)
        replace R1 := R1.past hb6
        replace X1 := X1.past hb6
        replace ho4 := ho4.past hb6
        obtain ⟨x0, x1, x2, y0, y1, y2, xlt⟩ := X1
        go_wp2_with fail
        ((with_reducible refine (doneR_any gv p4 _ c4 _ fv mv _ ho4 rfl (by omega)).mono ?_))
        rintro e7 w7 ⟨p7, c7, rfl, ho7, hb7⟩
        obtain ⟨d0, d1, d2, f0, f1, f2, dlt⟩ := R1.past hb7
        go_wp2_with fail
        refine bodyPost_ret (v := .tuple #[.agg #[.bool (doneD ⟨gv, mv, fv⟩).neg, .slice p7 (dig B32 (doneD ⟨gv, mv, fv⟩).m).length c7, .int .i64 (doneD ⟨gv, mv, fv⟩).e], .int .i64 (errD ⟨gv, mv, fv⟩)]) (by simp [results, Tryd.results22, go_sem, d0, d1, d2]) rfl ?_
        exact givesDE_close (hs6.trans (hb7.mono hs6.size)) ho7 hs2.size (by omega) (fun h => by have := (ho7.blk_lt h).1; omega)
      · have hr : scaleV ⟨gv, mv, fv⟩ n = ⟨gv, mv, fv + n⟩ := by unfold scaleV; rw [if_neg h0]
        have hsg := dSign_pos (g := gv) (e := fv) (show 0 < mv by omega)
        have hsg2 : (dSign ⟨gv, mv, fv⟩ != 0) = true := by rw [bne, hsg]; rfl
        rw [hr]
        clear hr h0
        have hn3 : -40000 ≤ n := by omega
        have hn4 : n ≤ 40000 := by omega
        go_enter Tryd.func22, Tryd.ntmps22
        go_wp2_with fail
        rw [← HW1.out]
        ((with_reducible refine (dyCheck1_new a _ _ hz1.symm ha1.rd ha1.len).mono ?_))
        rintro e2 w2 ⟨rfl, hb2⟩
        have hb3 : Below W1.heap.size W1 w2 := ((Below.refl _ _).alloc (Nat.le_refl _) _).trans (hb2.mono (by simp))
        have hs2 := hs1.trans (hb3.mono hs1.size)
        replace A1 := A1.past hb3
        replace R1 := R1.past hb3
        replace ha1 := ha1.past hb3
        replace hT1 := hT1.past hb3
        clear hb2 HW1 hs1 hb3
        rw [HE.out]
        have ra1 : Rd w2 .u32 a.p (dig B32 ma) := by rw [← HXA.out]; exact ha1.rd
        have a0 := A1.c0
        have a1 := A1.c1
        have a2 := A1.c2
        go_wp2_with fail
        ((with_reducible refine (ofD_any a.g a.p _ a.c a.e ma _ ra1 (by rw [HXA.out]) hca (by omega) (by omega) hT1).mono ?_))
        rw [HVA.out]
        rintro e4 w4 ⟨p4, c4, rfl, ho4, hb4⟩
        have hs4 := hs2.trans (hb4.mono hs2.size)
        have hp4 : p4.isSome = true → blk p4 < w4.heap.size := fun h => (ho4.blk_lt h).2
        have hz4 := hb4.size
        have hzR := R1.lt
        replace R1 := R1.past hb4
        replace hT1 := hT1.past hb4
        have hb5 : Below w4.heap.size w4 (w4.alloc (.cells #[.bool gv, .slice p4 (dig B32 mv).length c4, .int .i64 fv] 60)) := (Below.refl _ _).alloc (Nat.le_refl _) _
        have X1 := box3_new w4 (.bool gv) (.slice p4 (dig B32 mv).length c4) (.int .i64 fv) 60
        have hs5 := hs4.trans (hb5.mono hs4.size)
        replace R1 := R1.past hb5
        replace hT1 := hT1.past hb5
        replace ho4 := ho4.past hb5
        clear a0 a1 a2
        go_wp2_with fail
        ((with_reducible refine (signD_any gv p4 _ c4 fv mv _ rfl).mono ?_))
        rintro e6 w6 ⟨rfl, hb6⟩
        generalize dSign ⟨gv, mv, fv⟩ = sg0 at *
        have hs6 := hs5.trans (hb6.mono hs5.size)
        replace R1 := R1.past hb6
        replace X1 := X1.past hb6
        replace ho4 := ho4.past hb6
        obtain ⟨x0, x1, x2, y0, y1, y2, xlt⟩ := X1
        go_wp2_with fail
        have ho6 : Own (w6.setCell ⟨w4.heap.size, 2, none⟩ (.int .i64 (fv + n))) w2.heap.size .u32 66 p4 c4 (dig B32 mv) := ho4.same (fun h => Below.heap_setCell _ _ _ _ (Nat.ne_of_lt (hp4 h)))
        have R6 := R1.set (k := w4.heap.size) (o := 2) (u := .int .i64 (fv + n)) (by omega)
        have hs7 : Below w.heap.size w (w6.setCell ⟨w4.heap.size, 2, none⟩ (.int .i64 (fv + n))) := hs6.setCell hs4.size _
        ((with_reducible refine (doneR_any gv p4 _ c4 _ (fv + n) mv _ ho6 rfl (by omega)).mono ?_))
        rintro e7 w7 ⟨p7, c7, rfl, ho7, hb7⟩
        obtain ⟨d0, d1, d2, f0, f1, f2, dlt⟩ := R6.past hb7
        go_wp2_with fail
        refine bodyPost_ret (v := .tuple #[.agg #[.bool (doneD ⟨gv, mv, fv + n⟩).neg, .slice p7 (dig B32 (doneD ⟨gv, mv, fv + n⟩).m).length c7, .int .i64 (doneD ⟨gv, mv, fv + n⟩).e], .int .i64 (errD ⟨gv, mv, fv + n⟩)]) (by simp [results, Tryd.results22, go_sem, d0, d1, d2]) rfl ?_
        exact givesDE_close (hs7.trans (hb7.mono hs7.size)) ho7 hs2.size (by omega) (fun h => by have := (ho7.blk_lt h).1; omega)
  · have e0 : errFar (errDy a) (n < -40000 ∨ 40000 < n) = errDy a := by unfold errFar; rw [if_neg he]
    rw [e0]
    unfold doneOne errOne
    rw [if_neg he, if_neg he]
    clear e0
    have HE := Lib.hid he
    obtain ⟨er, her⟩ : ∃ er, errDy a = er := ⟨_, rfl⟩
    have HC := fun W bk h1 h2 => Lib.hid (dyCheck1_new a W bk h1 h2 ha.len)
    simp only [her] at HC
    rw [her] at HE ⊢
    have hz0 : (er == 0) = false := beq_eq_false_iff_ne.2 HE.out
    have hz2 : (er != 0) = true := by rw [bne, hz0]; rfl
    clear he her
    go_enter Tryd.func22, Tryd.ntmps22
    go_wp2_with fail
    rw [← HW1.out]
    ((with_reducible refine (HC _ _ hz1.symm ha1.rd).out.mono ?_))
    rintro e2 w2 ⟨rfl, hb2⟩
    have hb3 : Below W1.heap.size W1 w2 := ((Below.refl _ _).alloc (Nat.le_refl _) _).trans (hb2.mono (by simp))
    have hs2 := hs1.trans (hb3.mono hs1.size)
    obtain ⟨d0, d1, d2, f0, f1, f2, dlt⟩ := R1.past hb3
    clear hb2 HW1 hs1 hb3
    go_wp2_with fail
    refine bodyPost_ret (v := .tuple #[.agg #[.bool false, .slice none 0 0, .int .i64 0], .int .i64 er]) (by simp [results, Tryd.results22, go_sem, d0, d1, d2]) rfl ?_
    exact givesDE_put0 hs2 (by omega)

end Go.Proofs.YtcbjidcpcompoaaDoor
