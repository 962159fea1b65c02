/- dyad: Compare. -/
import Derived.Test.YtlegnbigddhmlaaDoorZDyad12
namespace Go.Proofs.YtlegnbigddhmlaaDoor
open Go.RowKit Go.Slip


/-- What Compare tells. -/
def cmpTwo (a b : Din) : Int := if errDy2 a b = 0 then pCmp (dyV a) (dyV b) else 0

set_option maxHeartbeats 2000000 in
theorem dyCompare_any (a b : Din) (w : World) (ha : InD w a) (hb : InD w b) (hT : TabW w) :
    Calls Tryd.prog 12 #[.agg #[.bool a.g, .slice a.p a.xs.length a.c, .int .i64 a.e], .agg #[.bool b.g, .slice b.p b.xs.length b.c, .int .i64 b.e]] w
      fun en w' => en = .returned (.tuple #[.int .i64 (cmpTwo a b), .int .i64 (errDy2 a b)]) ∧ Below w.heap.size w w' := by
  obtain ⟨W1, hW1, hs1, A1, B1, hz1⟩ := box2s w (.bool a.g) (.slice a.p a.xs.length a.c) (.int .i64 a.e) (.bool b.g) (.slice b.p b.xs.length b.c) (.int .i64 b.e) 30 30
  have ha1 := ha.past hs1
  have hb1 := hb.past hs1
  have hT1 := hT.past hs1
  have HW1 := Lib.hid hW1
  clear hW1
  by_cases he : errDy2 a b = 0
  · obtain ⟨hla, hea, hea2⟩ := dyV_bd ha (errDy2_ok he).1
    obtain ⟨hlb, heb, heb2⟩ := dyV_bd hb (errDy2_ok he).2
    obtain ⟨ma, exa, eva, la, e1a, e2a⟩ := ha.ok (errDy2_ok he).1
    obtain ⟨mb, exb, evb, lb, e1b, e2b⟩ := hb.ok (errDy2_ok he).2
    have HE := Lib.hid he
    have HC := Lib.hid (show cmpTwo a b = pCmp (dyV a) (dyV b) by unfold cmpTwo; rw [if_pos he])
    have HVA := Lib.hid (show bare ⟨a.g, ma, a.e⟩ = dyV a by unfold dyV; rw [eva])
    have HVB := Lib.hid (show bare ⟨b.g, mb, b.e⟩ = dyV b by unfold dyV; rw [evb])
    have HXA := Lib.hid exa
    have HXB := Lib.hid exb
    have hca := ha.cap
    have hcb := hb.cap
    clear he exa eva exb evb
    generalize dyV a = va at *
    generalize dyV b = vb at *
    obtain ⟨ga, na, fa⟩ := va
    obtain ⟨gb, nb, fb⟩ := vb
    simp only at hla hea hea2 hlb heb heb2
    go_enter Tryd.func12, Tryd.ntmps12
    go_wp2_with fail
    rw [← HW1.out]
    ((with_reducible refine (dyCheck2_new a b _ _ hz1.symm ha1.rd ha1.len hb1.rd hb1.len).mono ?_))
    rintro e2 w2 ⟨rfl, hb2⟩
    rw [HE.out]
    have hb3 : Below W1.heap.size W1 w2 := ((Below.refl _ _).alloc (Nat.le_refl _) _).trans (hb2.mono (by simp))
    have hs2 := hs1.trans (hb3.mono hs1.size)
    replace A1 := A1.past hb3
    replace B1 := B1.past hb3
    replace ha1 := ha1.past hb3
    replace hb1 := hb1.past hb3
    replace hT1 := hT1.past hb3
    clear hb2 HW1 hs1 hb3
    have ra1 : Rd w2 .u32 a.p (dig B32 ma) := by rw [← HXA.out]; exact ha1.rd
    have rb1 : Rd w2 .u32 b.p (dig B32 mb) := by rw [← HXB.out]; exact hb1.rd
    go_wp2_with fail
    go_region_held3 (fun w' => (w'.cell? ⟨w.heap.size, 0, none⟩ = some (.bool a.g) ∧ w'.cell? ⟨w.heap.size, 1, none⟩ = some (.slice a.p a.xs.length a.c) ∧ w'.cell? ⟨w.heap.size, 2, none⟩ = some (.int .i64 a.e)) ∧
        (w'.cell? ⟨w.heap.size + 1, 0, none⟩ = some (.bool b.g) ∧ w'.cell? ⟨w.heap.size + 1, 1, none⟩ = some (.slice b.p b.xs.length b.c) ∧ w'.cell? ⟨w.heap.size + 1, 2, none⟩ = some (.int .i64 b.e)))
      (first
             | exact ⟨⟨(((A1.drew.past hbx).past hby).past hbz).c0, (((A1.drew.past hbx).past hby).past hbz).c1, (((A1.drew.past hbx).past hby).past hbz).c2⟩, (((B1.drew.past hbx).past hby).past hbz).c0, (((B1.drew.past hbx).past hby).past hbz).c1, (((B1.drew.past hbx).past hby).past hbz).c2⟩
             | exact ⟨⟨(((A1.drew.past hby).past hbx).past hbz).c0, (((A1.drew.past hby).past hbx).past hbz).c1, (((A1.drew.past hby).past hbx).past hbz).c2⟩, (((B1.drew.past hby).past hbx).past hbz).c0, (((B1.drew.past hby).past hbx).past hbz).c1, (((B1.drew.past hby).past hbx).past hbz).c2⟩
             | exact ⟨⟨((A1.drew.past hbx).past hby).c0, ((A1.drew.past hbx).past hby).c1, ((A1.drew.past hbx).past hby).c2⟩, ((B1.drew.past hbx).past hby).c0, ((B1.drew.past hbx).past hby).c1, ((B1.drew.past hbx).past hby).c2⟩
             | exact ⟨⟨((A1.drew.past hby).past hbx).c0, ((A1.drew.past hby).past hbx).c1, ((A1.drew.past hby).past hbx).c2⟩, ((B1.drew.past hby).past hbx).c0, ((B1.drew.past hby).past hbx).c1, ((B1.drew.past hby).past hbx).c2⟩
             | exact ⟨⟨(A1.drew.past hbx).c0, (A1.drew.past hbx).c1, (A1.drew.past hbx).c2⟩, (B1.drew.past hbx).c0, (B1.drew.past hbx).c1, (B1.drew.past hbx).c2⟩
             | exact ⟨⟨(A1.drew.past hby).c0, (A1.drew.past hby).c1, (A1.drew.past hby).c2⟩, (B1.drew.past hby).c0, (B1.drew.past hby).c1, (B1.drew.past hby).c2⟩
             | exact ⟨⟨(A1.drew).c0, (A1.drew).c1, (A1.drew).c2⟩, (B1.drew).c0, (B1.drew).c1, (B1.drew).c2⟩
             | exact ⟨⟨(A1).c0, (A1).c1, (A1).c2⟩, (B1).c0, (B1).c1, (B1).c2⟩
             )
      (first
        | (go_at_call_of 32 (Value.agg #[.bool a.g, .slice a.p a.xs.length a.c, .int .i64 a.e]); refine (ofD_any a.g a.p _ a.c a.e ma _ ?_ (by rw [HXA.out]) hca (by omega) (by omega) ?_).mono ?_; (first | exact ra1.drew | exact ra1.drew.past hby); (first | exact hT1.drew | exact hT1.drew.past hby); rw [HVA.out]; rintro ex wx ⟨px, cx, rfl, hox, hbx⟩)
        | (go_at_call_of 32 (Value.agg #[.bool b.g, .slice b.p b.xs.length b.c, .int .i64 b.e]); refine (ofD_any b.g b.p _ b.c b.e mb _ ?_ (by rw [HXB.out]) hcb (by omega) (by omega) ?_).mono ?_; (first | exact rb1.drew | exact rb1.drew.past hbx); (first | exact hT1.drew | exact hT1.drew.past hbx); rw [HVB.out]; rintro ey wy ⟨py, cy, rfl, hoy, hby⟩)
        | (go_at_call 33; refine (cmpD_any ga gb px py _ cx _ cy fa fb na nb _ ?_ ?_ rfl rfl (by omega) (by omega) (by omega) (by omega)).mono ?_; (first | exact (hox.past hby).rd | exact hox.rd); (first | exact hoy.rd | exact (hoy.past hbx).rd); rintro ez wz ⟨rfl, hbz⟩))
    all_goals (go_wp2_with fail)
    all_goals go_ret2
    all_goals rw [HC.out, HE.out]
    all_goals (have hsd : Below w.heap.size w w2.drew := hs2.drew)
    all_goals (first
      | exact ⟨rfl, ((hsd.trans (hbx.mono hsd.size)).trans (hby.mono (Nat.le_trans hsd.size hbx.size))).trans (hbz.mono (Nat.le_trans (Nat.le_trans hsd.size hbx.size) hby.size))⟩
      | exact ⟨rfl, ((hsd.trans (hby.mono hsd.size)).trans (hbx.mono (Nat.le_trans hsd.size hby.size))).trans (hbz.mono (Nat.le_trans (Nat.le_trans hsd.size hby.size) hbx.size))⟩)
  · have HE := Lib.hid he
    have HC0 : cmpTwo a b = 0 := by unfold cmpTwo; rw [if_neg he]
    obtain ⟨er, her⟩ : ∃ er, errDy2 a b = er := ⟨_, rfl⟩
    have HC := fun W bk h1 h2 h3 => Lib.hid (dyCheck2_new a b W bk h1 h2 ha.len h3 hb.len)
    simp only [her] at HC
    rw [her] at HE ⊢
    rw [HC0]
    have hz0 : (er == 0) = false := beq_eq_false_iff_ne.2 HE.out
    have hz2 : (er != 0) = true := by rw [bne, hz0]; rfl
    clear he her HC0
    go_enter Tryd.func12, Tryd.ntmps12
    go_wp2_with fail
    rw [← HW1.out]
    ((with_reducible refine (HC _ _ hz1.symm ha1.rd hb1.rd).out.mono ?_))
    rintro e2 w2 ⟨rfl, hb2⟩
    have hb3 : Below W1.heap.size W1 w2 := ((Below.refl _ _).alloc (Nat.le_refl _) _).trans (hb2.mono (by simp))
    have hs2 := hs1.trans (hb3.mono hs1.size)
    go_wp2
    go_ret2
    exact ⟨rfl, hs2⟩

end Go.Proofs.YtlegnbigddhmlaaDoor
