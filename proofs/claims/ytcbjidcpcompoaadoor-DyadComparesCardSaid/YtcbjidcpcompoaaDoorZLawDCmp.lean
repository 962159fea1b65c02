/- The law DyadCompares: its walk. -/
import Derived.Test.YtcbjidcpcompoaaDoorZLawDAdd
import Derived.Test.YtcbjidcpcompoaaDoorZDyad14
import Derived.Test.YtcbjidcpcompoaaDoorZRDy7
namespace Go.Proofs.YtcbjidcpcompoaaDoor
open Go.RowKit Go.Slip



set_option maxHeartbeats 4000000 in
set_option maxRecDepth 100000 in
theorem lawDCmp_any (a b : Din) (w : World) (ha : InD w a) (hb : InD w b) (hT : TabW w) :
    Calls Tryd.prog 10 #[.agg #[.bool a.g, .slice a.p a.xs.length a.c, .int .i64 a.e], .agg #[.bool b.g, .slice b.p b.xs.length b.c, .int .i64 b.e]] w fun e w' => e = .returned (.bool true) ∧ Below w.heap.size w w' := by
  obtain ⟨W1, hW1, hs1, A1, B1, hz1⟩ := box2s w (.bool a.g) (.slice a.p a.xs.length a.c) (.int .i64 a.e) (.bool b.g) (.slice b.p b.xs.length b.c) (.int .i64 b.e) 25 25
  have ha1 := ha.past hs1
  have hb1 := hb.past hs1
  have hT1 := hT.past hs1
  have HA := dyCompare_any a b W1 ha1 hb1 hT1
  have HTW := fun W h1 h2 => Lib.hid (refTwoDyads_any a b W h1 ha.len h2 hb.len)
  have HW1 := Lib.hid hW1
  clear hW1
  by_cases he : errDy2 a b = 0
  · obtain ⟨hla, hea, hea2⟩ := dyV_bd ha (errDy2_ok he).1
    obtain ⟨hlb, heb, heb2⟩ := dyV_bd hb (errDy2_ok he).2
    have hc : cmpTwo a b = rCmp (dyV a) (dyV b) := by unfold cmpTwo; rw [if_pos he, rCmp_eq (dyV_bare a) (dyV_bare b)]
    rw [hc, he] at HA
    simp only [he] at HTW
    have HAA := Lib.hid HA
    have hl16 := B16_len _ hla
    have hl16b := B16_len _ hlb
    have HOA := fun W h => Lib.hid (refOfDyad_any a W h (errDy2_ok he).1)
    have HOB := fun W h => Lib.hid (refOfDyad_any b W h (errDy2_ok he).2)
    clear HA he hc
    generalize dyV a = va at *
    generalize dyV b = vb at *
    obtain ⟨ga, na, fa⟩ := va
    obtain ⟨gb, nb, fb⟩ := vb
    simp only at hla hea hea2 hlb heb heb2 hl16 hl16b
    obtain ⟨C, hC⟩ : ∃ C, rCmp ⟨ga, na, fa⟩ ⟨gb, nb, fb⟩ = C := ⟨_, rfl⟩
    rw [hC] at HAA
    have HC := Lib.hid hC
    have tC : (C == C) = true := by simp
    clear hC
    go_enter Tryd.func10, Tryd.ntmps10
    go_wp2_with fail
    rw [← HW1.out]
    ((with_reducible refine HAA.out.mono ?_))
    clear HAA HW1
    rintro e2 w2 ⟨rfl, hb2⟩
    have hs2 := hs1.trans (hb2.mono hs1.size)
    replace A1 := A1.past hb2
    replace B1 := B1.past hb2
    replace ha1 := ha1.past hb2
    replace hb1 := hb1.past hb2
    replace hT1 := hT1.past hb2
    have a0 := A1.c0
    have a1 := A1.c1
    have a2 := A1.c2
    have b0 := B1.c0
    have b1 := B1.c1
    have b2 := B1.c2
    go_wp2_with fail
    clear a0 a1 a2 b0 b1 b2
    ((with_reducible refine (HTW _ ha1.rd hb1.rd).out.mono ?_))
    rintro e4 w4 ⟨rfl, hb4⟩
    have hs4 := hs2.trans (hb4.mono hs2.size)
    replace A1 := A1.past hb4
    replace B1 := B1.past hb4
    replace ha1 := ha1.past hb4
    replace hb1 := hb1.past hb4
    replace hT1 := hT1.past hb4
    go_wp2_with fail
    go_cut [8] (fun s8 wx => s8 = .int .i64 C ∧ Below w4.heap.size w4 wx)
    case first =>
      go_region_held3 (fun w' => (w'.cell? ⟨w.heap.size, 0, none⟩ = some (.bool a.g) ∧ w'.cell? ⟨w.heap.size, 1, none⟩ = some (.slice a.p a.xs.length a.c) ∧ w'.cell? ⟨w.heap.size, 2, none⟩ = some (.int .i64 a.e)) ∧
          (w'.cell? ⟨w.heap.size + 1, 0, none⟩ = some (.bool b.g) ∧ w'.cell? ⟨w.heap.size + 1, 1, none⟩ = some (.slice b.p b.xs.length b.c) ∧ w'.cell? ⟨w.heap.size + 1, 2, none⟩ = some (.int .i64 b.e)))
        (first
               | exact ⟨⟨(((A1.drew.past hbx).past hby).past hbz).c0, (((A1.drew.past hbx).past hby).past hbz).c1, (((A1.drew.past hbx).past hby).past hbz).c2⟩, (((B1.drew.past hbx).past hby).past hbz).c0, (((B1.drew.past hbx).past hby).past hbz).c1, (((B1.drew.past hbx).past hby).past hbz).c2⟩
               | exact ⟨⟨(((A1.drew.past hby).past hbx).past hbz).c0, (((A1.drew.past hby).past hbx).past hbz).c1, (((A1.drew.past hby).past hbx).past hbz).c2⟩, (((B1.drew.past hby).past hbx).past hbz).c0, (((B1.drew.past hby).past hbx).past hbz).c1, (((B1.drew.past hby).past hbx).past hbz).c2⟩
               | exact ⟨⟨((A1.drew.past hbx).past hby).c0, ((A1.drew.past hbx).past hby).c1, ((A1.drew.past hbx).past hby).c2⟩, ((B1.drew.past hbx).past hby).c0, ((B1.drew.past hbx).past hby).c1, ((B1.drew.past hbx).past hby).c2⟩
               | exact ⟨⟨((A1.drew.past hby).past hbx).c0, ((A1.drew.past hby).past hbx).c1, ((A1.drew.past hby).past hbx).c2⟩, ((B1.drew.past hby).past hbx).c0, ((B1.drew.past hby).past hbx).c1, ((B1.drew.past hby).past hbx).c2⟩
               | exact ⟨⟨(A1.drew.past hbx).c0, (A1.drew.past hbx).c1, (A1.drew.past hbx).c2⟩, (B1.drew.past hbx).c0, (B1.drew.past hbx).c1, (B1.drew.past hbx).c2⟩
               | exact ⟨⟨(A1.drew.past hby).c0, (A1.drew.past hby).c1, (A1.drew.past hby).c2⟩, (B1.drew.past hby).c0, (B1.drew.past hby).c1, (B1.drew.past hby).c2⟩
               | exact ⟨⟨(A1.drew).c0, (A1.drew).c1, (A1.drew).c2⟩, (B1.drew).c0, (B1.drew).c1, (B1.drew).c2⟩
               | exact ⟨⟨(A1).c0, (A1).c1, (A1).c2⟩, (B1).c0, (B1).c1, (B1).c2⟩
               )
        (first
          | (go_at_call_of 16 (Value.agg #[.bool a.g, .slice a.p a.xs.length a.c, .int .i64 a.e]); refine (HOA _ ?_).out.mono ?_; (first | exact ha1.drew | exact ha1.drew.past hby); rintro ex wx ⟨px, cx, rfl, hrx, hcx, hfx, hbx⟩)
          | (go_at_call_of 16 (Value.agg #[.bool b.g, .slice b.p b.xs.length b.c, .int .i64 b.e]); refine (HOB _ ?_).out.mono ?_; (first | exact hb1.drew | exact hb1.drew.past hbx); rintro ey wy ⟨py, cy, rfl, hry, hcy, hfy, hby⟩)
          | (go_at_call 31; refine (refDCmp_any ga gb px py _ cx _ cy fa fb na nb _ ?_ ?_ rfl rfl (by omega) (by omega) (by omega) (by omega) (by omega)).mono ?_; (first | exact hrx.past hby | exact hrx); (first | exact hry | exact hry.past hbx); rw [HC.out]; rintro ez wz ⟨rfl, hbz⟩))
      all_goals (go_wp2_with fail)
      all_goals go_meet
      all_goals (first
        | exact ⟨rfl, (((Below.refl _ _).drew.trans hbx).trans (hby.mono hbx.size)).trans (hbz.mono (Nat.le_trans hbx.size hby.size))⟩
        | exact ⟨rfl, (((Below.refl _ _).drew.trans hby).trans (hbx.mono hby.size)).trans (hbz.mono (Nat.le_trans hby.size hbx.size))⟩)
    case rest =>
      obtain ⟨rfl, hb5⟩ := hcut
      have hs5 := hs4.trans (hb5.mono hs4.size)
      go_wp2_with fail
      ((with_reducible refine (dyadBegun_any _ (hT1.past hb5)).mono ?_))
      rintro e9 w9 ⟨rfl, hb9⟩
      go_wp2
      go_ret
      exact ⟨rfl, hs5.trans (hb9.mono hs5.size)⟩
  · have HE := Lib.hid he
    have hc : cmpTwo a b = 0 := by unfold cmpTwo; rw [if_neg he]
    obtain ⟨er, her⟩ : ∃ er, errDy2 a b = er := ⟨_, rfl⟩
    rw [hc, her] at HA
    rw [her] at HE
    simp only [her] at HTW
    have HAA := Lib.hid HA
    have hz : (er == 0) = false := beq_eq_false_iff_ne.2 HE.out
    have hz2 : (er == er) = true := by simp
    clear HA he her hc
    go_enter Tryd.func10, Tryd.ntmps10
    go_wp2_with fail
    rw [← HW1.out]
    ((with_reducible refine HAA.out.mono ?_))
    clear HAA HW1
    rintro e2 w2 ⟨rfl, hb2⟩
    have hs2 := hs1.trans (hb2.mono hs1.size)
    replace A1 := A1.past hb2
    replace B1 := B1.past hb2
    replace ha1 := ha1.past hb2
    replace hb1 := hb1.past hb2
    replace hT1 := hT1.past hb2
    have a0 := A1.c0
    have a1 := A1.c1
    have a2 := A1.c2
    have b0 := B1.c0
    have b1 := B1.c1
    have b2 := B1.c2
    go_wp2_with fail
    clear a0 a1 a2 b0 b1 b2
    ((with_reducible refine (HTW _ ha1.rd hb1.rd).out.mono ?_))
    rintro e4 w4 ⟨rfl, hb4⟩
    have hs4 := hs2.trans (hb4.mono hs2.size)
    replace A1 := A1.past hb4
    replace B1 := B1.past hb4
    replace ha1 := ha1.past hb4
    replace hb1 := hb1.past hb4
    replace hT1 := hT1.past hb4
    go_wp2_with fail
    ((with_reducible refine (dyadBegun_any _ hT1).mono ?_))
    rintro e9 w9 ⟨rfl, hb9⟩
    go_wp2
    go_ret
    exact ⟨rfl, hs4.trans (hb9.mono hs4.size)⟩

end Go.Proofs.YtcbjidcpcompoaaDoor
