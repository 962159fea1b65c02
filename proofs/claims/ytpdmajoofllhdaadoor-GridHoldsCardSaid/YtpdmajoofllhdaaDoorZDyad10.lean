/- dyad: Bare, Scale. -/
import Derived.Test.YtpdmajoofllhdaaDoorZDyad9
import Derived.Test.YtpdmajoofllhdaaDoorZE
namespace Go.Proofs.YtpdmajoofllhdaaDoor
open Go.RowKit Go.Slip

theorem Box3.put2 {w : World} {b : Nat} {v0 v1 v2 : Value} (h : Box3 w b v0 v1 v2) (u : Value) : Box3 (w.setCell ⟨b, 2, none⟩ u) b v0 v1 u :=
  ⟨(World.cell?_setCell_other _ _ _ _ (by simp)).trans h.c0, (World.cell?_setCell_other _ _ _ _ (by simp)).trans h.c1, World.cell?_setCell_same _ _ _ h.c2, by simpa using h.f0, by simpa using h.f1, by simpa using h.f2, by simpa using h.lt⟩

/-- What a call tells that may be wrong ahead of its work. -/
def errOne (e0 : Int) (r : Dv) : Int := if e0 = 0 then errD r else e0
def doneOne (e0 : Int) (r : Dv) : Dv := if e0 = 0 then doneD r else ⟨false, 0, 0⟩

theorem givesDE_put0 {w wk : World} {base b : Nat} {er : Int} (hs : Below w.heap.size w wk) (hB : w.heap.size ≤ b) :
    GivesDE w base ⟨false, 0, 0⟩ er (.returned (.tuple #[.agg #[.bool false, .slice none 0 0, .int .i64 0], .int .i64 er])) (((wk.setCell ⟨b, 0, none⟩ (.bool false)).setCell ⟨b, 1, none⟩ (.slice none 0 0)).setCell ⟨b, 2, none⟩ (.int .i64 0)) :=
  ⟨none, 0, by rw [dig_zero]; rfl, by rw [dig_zero]; exact Own.nil _ _ _ _, Below.beside hs hB _ _ _⟩


set_option maxHeartbeats 2000000 in
theorem dyBare_any (a : Din) (w : World) (ha : InD w a) (hT : TabW w) :
    Calls Tryd.prog 26 #[.agg #[.bool a.g, .slice a.p a.xs.length a.c, .int .i64 a.e]] w (GivesDE w w.heap.size (doneOne (errDy a) (dyV a)) (errOne (errDy a) (dyV a))) := by
  obtain ⟨W1, hW1, hs1, A1, R1, hz1⟩ := box2s w (.bool a.g) (.slice a.p a.xs.length a.c) (.int .i64 a.e) (.bool false) (.slice none 0 0) (.int .i64 0) 29 29
  have ha1 := ha.past hs1
  have hT1 := hT.past hs1
  have HW1 := Lib.hid hW1
  clear hW1
  unfold doneOne errOne
  by_cases he : errDy a = 0
  · rw [if_pos he, if_pos he]
    obtain ⟨hla, hea, hea2⟩ := dyV_bd ha he
    obtain ⟨ma, exa, eva, la, e1a, e2a⟩ := ha.ok he
    have HVA := Lib.hid (show bare ⟨a.g, ma, a.e⟩ = dyV a by unfold dyV; rw [eva])
    have HXA := Lib.hid exa
    have hca := ha.cap
    have HE := Lib.hid he
    clear he exa eva
    generalize dyV a = va at *
    obtain ⟨gv, mv, fv⟩ := va
    simp only at hla hea hea2
    go_enter Tryd.func26, Tryd.ntmps26
    go_wp2_with fail
    rw [← HW1.out]
    ((with_reducible refine (dyCheck1_new a _ _ hz1.symm ha1.rd ha1.len).mono ?_))
    rintro e2 w2 ⟨rfl, hb2⟩
    have hb3 : Below W1.heap.size W1 w2 := ((Below.refl _ _).alloc (Nat.le_refl _) _).trans (hb2.mono (by simp))
    have hs2 := hs1.trans (hb3.mono hs1.size)
    replace A1 := A1.past hb3
    replace R1 := R1.past hb3
    replace ha1 := ha1.past hb3
    replace hT1 := hT1.past hb3
    clear hb2 HW1 hs1 hb3
    rw [HE.out]
    have ra1 : Rd w2 .u32 a.p (dig B32 ma) := by rw [← HXA.out]; exact ha1.rd
    have a0 := A1.c0
    have a1 := A1.c1
    have a2 := A1.c2
    go_wp2_with fail
    ((with_reducible refine (ofD_any a.g a.p _ a.c a.e ma _ ra1 (by rw [HXA.out]) hca (by omega) (by omega) hT1).mono ?_))
    rw [HVA.out]
    rintro e4 w4 ⟨p4, c4, rfl, ho4, hb4⟩
    go_wp2_with fail
    ((with_reducible refine (doneR_any gv p4 _ c4 _ fv mv _ ho4 rfl (by omega)).mono ?_))
    rintro e5 w5 ⟨p5, c5, rfl, ho5, hb5⟩
    obtain ⟨d0, d1, d2, f0, f1, f2, dlt⟩ := (R1.past hb4).past hb5
    go_wp2_with fail
    refine bodyPost_ret (v := .tuple #[.agg #[.bool (doneD ⟨gv, mv, fv⟩).neg, .slice p5 (dig B32 (doneD ⟨gv, mv, fv⟩).m).length c5, .int .i64 (doneD ⟨gv, mv, fv⟩).e], .int .i64 (errD ⟨gv, mv, fv⟩)]) (by simp [results, Tryd.results26, go_sem, d0, d1, d2]) rfl ?_
    have hs4 := hs2.trans (hb4.mono hs2.size)
    have hzR := R1.lt
    exact givesDE_close (hs4.trans (hb5.mono hs4.size)) ho5 hs2.size (by omega) (fun h => by have := (ho5.blk_lt h).1; omega)
  · rw [if_neg he, if_neg he]
    have HE := Lib.hid he
    obtain ⟨er, her⟩ : ∃ er, errDy a = er := ⟨_, rfl⟩
    have HC := fun W bk h1 h2 => Lib.hid (dyCheck1_new a W bk h1 h2 ha.len)
    simp only [her] at HC
    rw [her] at HE ⊢
    have hz0 : (er == 0) = false := beq_eq_false_iff_ne.2 HE.out
    have hz2 : (er != 0) = true := by rw [bne, hz0]; rfl
    clear he her
    go_enter Tryd.func26, Tryd.ntmps26
    go_wp2_with fail
    rw [← HW1.out]
    ((with_reducible refine (HC _ _ hz1.symm ha1.rd).out.mono ?_))
    rintro e2 w2 ⟨rfl, hb2⟩
    have hb3 : Below W1.heap.size W1 w2 := ((Below.refl _ _).alloc (Nat.le_refl _) _).trans (hb2.mono (by simp))
    have hs2 := hs1.trans (hb3.mono hs1.size)
    obtain ⟨d0, d1, d2, f0, f1, f2, dlt⟩ := R1.past hb3
    clear hb2 HW1 hs1 hb3
    go_wp2_with fail
    refine bodyPost_ret (v := .tuple #[.agg #[.bool false, .slice none 0 0, .int .i64 0], .int .i64 er]) (by simp [results, Tryd.results26, go_sem, d0, d1, d2]) rfl ?_
    exact givesDE_put0 hs2 (by omega)

/-- Times a power of 2. -/
def scaleV (v : Dv) (n : Int) : Dv := if v.m = 0 then v else ⟨v.neg, v.m, v.e + n⟩
/-- What is wrong ahead. -/
def errFar (e0 : Int) (far : Prop) [Decidable far] : Int := if e0 = 0 then (if far then 3 else 0) else e0

end Go.Proofs.YtpdmajoofllhdaaDoor
