/- The laws DyadAdds, DyadMuls: their walks. -/
import Derived.Test.YtcbjidcpcompoaaDoorZLawD1
import Derived.Test.YtcbjidcpcompoaaDoorZRDy1
import Derived.Test.YtcbjidcpcompoaaDoorZRDy5
import Derived.Test.YtcbjidcpcompoaaDoorZE
namespace Go.Proofs.YtcbjidcpcompoaaDoor
open Go.RowKit Go.Slip

theorem B16_len (m : Nat) {n : Nat} (h : (dig B32 m).length ≤ n) : (dig B16 m).length ≤ 2 * n := by
  have := B16_len32 m
  omega



set_option maxHeartbeats 4000000 in
set_option maxRecDepth 100000 in
theorem lawDAdd_any (a b : Din) (w : World) (ha : InD w a) (hb : InD w b) (hT : TabW w) :
    Calls Tryd.prog 3 #[.agg #[.bool a.g, .slice a.p a.xs.length a.c, .int .i64 a.e], .agg #[.bool b.g, .slice b.p b.xs.length b.c, .int .i64 b.e]] w fun e w' => e = .returned (.bool true) ∧ Below w.heap.size w w' := by
  obtain ⟨W1, hW1⟩ : ∃ W1, W1 = (w.alloc (.cells #[.bool a.g, .slice a.p a.xs.length a.c, .int .i64 a.e] 25)).alloc (.cells #[.bool b.g, .slice b.p b.xs.length b.c, .int .i64 b.e] 25) := ⟨_, rfl⟩
  have hs1 : Below w.heap.size w W1 := by rw [hW1]; exact two_laid w _ _
  have A1 : Box3 W1 w.heap.size (.bool a.g) (.slice a.p a.xs.length a.c) (.int .i64 a.e) := by rw [hW1]; exact (box3_new w _ _ _ _).laid _
  have B1 : Box3 W1 (w.heap.size + 1) (.bool b.g) (.slice b.p b.xs.length b.c) (.int .i64 b.e) := by
    have := box3_new (w.alloc (.cells #[.bool a.g, .slice a.p a.xs.length a.c, .int .i64 a.e] 25)) (.bool b.g) (.slice b.p b.xs.length b.c) (.int .i64 b.e) 25
    rw [hW1]; simpa using this
  have ha1 := ha.past hs1
  have hb1 := hb.past hs1
  have hT1 := hT.past hs1
  have HA := dyAdd_any a b W1 ha1 hb1 hT1
  have HW1 := Lib.hid hW1
  clear hW1
  by_cases he : errDy2 a b = 0
  · obtain ⟨hla, hea, hea2⟩ := dyV_bd ha (errDy2_ok he).1
    obtain ⟨hlb, heb, heb2⟩ := dyV_bd hb (errDy2_ok he).2
    unfold doneTwo errTwo at HA
    rw [if_pos he, if_pos he] at HA
    rw [pPlus_eq (dyV_bare a) (dyV_bare b)] at HA
    have HAA := Lib.hid HA
    have hl16 := B16_len _ hla
    have hl16b := B16_len _ hlb
    have HOA := fun W h => Lib.hid (refOfDyad_any a W h (errDy2_ok he).1)
    have HOB := fun W h => Lib.hid (refOfDyad_any b W h (errDy2_ok he).2)
    have HLen := Lib.hid (show (dig B32 (rPlus (dyV a) (dyV b)).m).length ≤ 1000000 by (rw [← pPlus_eq (dyV_bare a) (dyV_bare b)]; have := pPlus_len (a := dyV a) (b := dyV b) hla hlb hea hea2 heb heb2; omega))
    have HE := Lib.hid he
    clear HA he
    generalize dyV a = va at *
    generalize dyV b = vb at *
    obtain ⟨ga, na, fa⟩ := va
    obtain ⟨gb, nb, fb⟩ := vb
    obtain ⟨r, hr⟩ : ∃ r, rPlus ⟨ga, na, fa⟩ ⟨gb, nb, fb⟩ = r := ⟨_, rfl⟩
    rw [hr] at HLen HAA
    have HR := Lib.hid hr
    have lr16 := B16_len _ HLen.out
    clear hr
    simp only at hla hea hea2 hlb heb heb2 hl16 hl16b
    go_enter Tryd.func3, Tryd.ntmps3
    go_wp2_with fail
    rw [← HW1.out]
    ((with_reducible refine HAA.out.mono ?_))
    clear HAA HW1
    rintro e2 w2 ⟨p2, c2, rfl, ho2, hb2⟩
    have hs2 := hs1.trans (hb2.mono hs1.size)
    have hp2 : p2.isSome = true → blk p2 < w2.heap.size := fun h => (ho2.blk_lt h).2
    replace A1 := A1.past hb2
    replace B1 := B1.past hb2
    replace ha1 := ha1.past hb2
    replace hb1 := hb1.past hb2
    replace hT1 := hT1.past hb2
    have hzB0 : w.heap.size + 1 ≤ w2.heap.size := Nat.le_of_lt B1.lt
    obtain ⟨dr, hdr⟩ : ∃ dr, doneD r = dr := ⟨_, rfl⟩
    obtain ⟨er, her⟩ : ∃ er, errD r = er := ⟨_, rfl⟩
    rw [hdr] at ho2 ⊢
    rw [her]
    have HDR := Lib.hid hdr
    have HER := Lib.hid her
    clear hdr her
    have hb3 : Below w2.heap.size w2 (w2.alloc (.cells #[.bool dr.neg, .slice p2 (dig B32 dr.m).length c2, .int .i64 dr.e] 25)) := (Below.refl _ _).alloc (Nat.le_refl _) _
    have hs3 := hs2.trans (hb3.mono hs2.size)
    have C1 := box3_new w2 (.bool dr.neg) (.slice p2 (dig B32 dr.m).length c2) (.int .i64 dr.e) 25
    replace A1 := A1.past hb3
    replace B1 := B1.past hb3
    replace ha1 := ha1.past hb3
    replace hb1 := hb1.past hb3
    replace hT1 := hT1.past hb3
    replace ho2 := ho2.past hb3
    have a0 := A1.c0
    have a1 := A1.c1
    have a2 := A1.c2
    have b0 := B1.c0
    have b1 := B1.c1
    have b2 := B1.c2
    go_wp2_with fail
    clear a0 a1 a2 b0 b1 b2
    ((with_reducible refine (refTwoDyads_any a b _ ha1.rd ha1.len hb1.rd hb1.len).mono ?_))
    rintro e4 w4 ⟨rfl, hb4⟩
    rw [HE.out]
    have hs4 := hs3.trans (hb4.mono hs3.size)
    replace A1 := A1.past hb4
    replace B1 := B1.past hb4
    replace C1 := C1.past hb4
    replace ha1 := ha1.past hb4
    replace hb1 := hb1.past hb4
    replace hT1 := hT1.past hb4
    replace ho2 := ho2.past hb4
    have hb5 : Below w4.heap.size w4 (w4.alloc (.cells #[.bool false, .slice none 0 0, .int .i64 0] 32)) := (Below.refl _ _).alloc (Nat.le_refl _) _
    have D1 := box3_new w4 (.bool false) (.slice none 0 0) (.int .i64 0) 32
    have hs5 := hs4.trans (hb5.mono hs4.size)
    replace A1 := A1.past hb5
    replace B1 := B1.past hb5
    replace C1 := C1.past hb5
    replace ha1 := ha1.past hb5
    replace hb1 := hb1.past hb5
    replace hT1 := hT1.past hb5
    replace ho2 := ho2.past hb5
    go_wp2_with fail
    have hz4 : w2.heap.size < w4.heap.size := by have := hb4.size; simp at this; omega
    have hz5 : w4.heap.size < (w4.alloc (.cells #[.bool false, .slice none 0 0, .int .i64 0] 32)).heap.size := by simp
    have hzw := hs2.size
    have hzB : w.heap.size + 1 ≤ w2.heap.size := hzB0
    generalize w4.alloc (.cells #[.bool false, .slice none 0 0, .int .i64 0] 32) = W5 at *
    clear hb2 hb3 hb4 hb5
    go_region_held3 (fun w' => (w'.cell? ⟨w.heap.size, 0, none⟩ = some (.bool a.g) ∧ w'.cell? ⟨w.heap.size, 1, none⟩ = some (.slice a.p a.xs.length a.c) ∧ w'.cell? ⟨w.heap.size, 2, none⟩ = some (.int .i64 a.e)) ∧
        (w'.cell? ⟨w.heap.size + 1, 0, none⟩ = some (.bool b.g) ∧ w'.cell? ⟨w.heap.size + 1, 1, none⟩ = some (.slice b.p b.xs.length b.c) ∧ w'.cell? ⟨w.heap.size + 1, 2, none⟩ = some (.int .i64 b.e)))
      (first
             | exact ⟨⟨(((A8.set hkA).set hkA).set hkA).c0, (((A8.set hkA).set hkA).set hkA).c1, (((A8.set hkA).set hkA).set hkA).c2⟩, (((B8.set hkB).set hkB).set hkB).c0, (((B8.set hkB).set hkB).set hkB).c1, (((B8.set hkB).set hkB).set hkB).c2⟩
             | exact ⟨⟨(A8).c0, (A8).c1, (A8).c2⟩, (B8).c0, (B8).c1, (B8).c2⟩
             | exact ⟨⟨((A1.drew.past hbx).past hby).c0, ((A1.drew.past hbx).past hby).c1, ((A1.drew.past hbx).past hby).c2⟩, ((B1.drew.past hbx).past hby).c0, ((B1.drew.past hbx).past hby).c1, ((B1.drew.past hbx).past hby).c2⟩
             | exact ⟨⟨((A1.drew.past hby).past hbx).c0, ((A1.drew.past hby).past hbx).c1, ((A1.drew.past hby).past hbx).c2⟩, ((B1.drew.past hby).past hbx).c0, ((B1.drew.past hby).past hbx).c1, ((B1.drew.past hby).past hbx).c2⟩
             | exact ⟨⟨(A1.drew.past hbx).c0, (A1.drew.past hbx).c1, (A1.drew.past hbx).c2⟩, (B1.drew.past hbx).c0, (B1.drew.past hbx).c1, (B1.drew.past hbx).c2⟩
             | exact ⟨⟨(A1.drew.past hby).c0, (A1.drew.past hby).c1, (A1.drew.past hby).c2⟩, (B1.drew.past hby).c0, (B1.drew.past hby).c1, (B1.drew.past hby).c2⟩
             | exact ⟨⟨(A1.drew).c0, (A1.drew).c1, (A1.drew).c2⟩, (B1.drew).c0, (B1.drew).c1, (B1.drew).c2⟩
             | exact ⟨⟨(A1).c0, (A1).c1, (A1).c2⟩, (B1).c0, (B1).c1, (B1).c2⟩
             )
      (first
        | (go_at_call_of 16 (Value.agg #[.bool a.g, .slice a.p a.xs.length a.c, .int .i64 a.e]); refine (HOA _ ?_).out.mono ?_; (first | exact ha1.drew | exact ha1.drew.past hby); rintro ex wx ⟨px, cx, rfl, hrx, hcx, hfx, hbx⟩)
        | (go_at_call_of 16 (Value.agg #[.bool b.g, .slice b.p b.xs.length b.c, .int .i64 b.e]); refine (HOB _ ?_).out.mono ?_; (first | exact hb1.drew | exact hb1.drew.past hbx); rintro ey wy ⟨py, cy, rfl, hry, hcy, hfy, hby⟩)
        | (go_at_call 15; refine (refDPlus_any ga gb px py _ cx _ cy fa fb na nb _ ?_ ?_ rfl rfl (by omega) (by omega) (by omega) (by omega)).mono ?_; (first | exact hrx.past hby | exact hrx); (first | exact hry | exact hry.past hbx); rw [HR.out]; rintro e8 w8 ⟨p8, c8, rfl, hr8, hc8, hf8, hb8⟩; (first
            | (have hbz := ((hbx).trans (hby.mono hbx.size)).trans (hb8.mono (Nat.le_trans hbx.size hby.size)); have hxy := Nat.le_trans hbx.size hby.size)
            | (have hbz := ((hby).trans (hbx.mono hby.size)).trans (hb8.mono (Nat.le_trans hby.size hbx.size)); have hxy := Nat.le_trans hby.size hbx.size));
           have A8 := A1.drew.past hbz; have B8 := B1.drew.past hbz; have C8 := C1.drew.past hbz; have D8 := D1.drew.past hbz; have hs8 := hs5.drew.trans (hbz.mono hs5.size); have hT8 := hT1.drew.past hbz; have ho8 := ho2.drew.past hbz; have hkA : w.heap.size < w4.heap.size := Nat.lt_of_le_of_lt hzw hz4; have hkB : w.heap.size + 1 < w4.heap.size := Nat.lt_of_le_of_lt hzB hz4; have DP := D8.put (.bool r.neg) (.slice p8 (dig B16 r.m).length c8) (.int .i64 r.e); obtain ⟨k0, k1, k2, k3, k4, k5, k6⟩ := D8))
    all_goals (go_wp2_with fail)
    all_goals (have hg8 : 0 < (dig B16 r.m).length → blk p8 ≠ w4.heap.size := fun h => by
                have h1 : W5.drew.heap.size = W5.heap.size := rfl
                rcases hf8 h with h | h
                · exact h.elim
                · omega)
    all_goals (have hT9 := hT8.beside (k := w4.heap.size) (by omega) (.bool r.neg) (.slice p8 (dig B16 r.m).length c8) (.int .i64 r.e))
    all_goals (have C9 := C8.beside (k := w4.heap.size) (by omega) (.bool r.neg) (.slice p8 (dig B16 r.m).length c8) (.int .i64 r.e))
    all_goals (have ho9 := Own.beside ho8 (k := w4.heap.size) (fun h => by have := hp2 h; omega) (.bool r.neg) (.slice p8 (dig B16 r.m).length c8) (.int .i64 r.e))
    all_goals (have hr9 := Rd.beside hr8 (k := w4.heap.size) hg8 (.bool r.neg) (.slice p8 (dig B16 r.m).length c8) (.int .i64 r.e))
    all_goals (have hs9 := Below.beside hs8 (k := w4.heap.size) (by omega) (.bool r.neg) (.slice p8 (dig B16 r.m).length c8) (.int .i64 r.e))
    all_goals (clear k0 k1 k2 k3 k4 k5 k6)
    all_goals (generalize ((w8.setCell ⟨w4.heap.size, 0, none⟩ (.bool r.neg)).setCell ⟨w4.heap.size, 1, none⟩ (.slice p8 (dig B16 r.m).length c8)).setCell ⟨w4.heap.size, 2, none⟩ (.int .i64 r.e) = W9 at *)
    all_goals ((with_reducible refine (dyadBegun_any _ hT9).mono ?_))
    all_goals (rintro e10 w10 ⟨rfl, hb10⟩)
    all_goals (have hs10 := hs9.trans (hb10.mono hs9.size))
    all_goals (obtain ⟨c0, c1, c2', _, _, _, _⟩ := C9.past hb10)
    all_goals (obtain ⟨d0, d1, d2, _, _, _, _⟩ := DP.past hb10)
    all_goals (have ho10 := ho9.past hb10; have hr10 := hr9.past hb10)
    all_goals (go_wp2_with fail)
    all_goals (rw [← HER.out])
    all_goals (refine (show Calls _ _ #[.agg #[.bool dr.neg, .slice p2 (dig B32 dr.m).length c2, .int .i64 dr.e], .int .i64 (errD r), .int .i64 0, .agg #[.bool r.neg, .slice p8 (dig B16 r.m).length c8, .int .i64 r.e]] _ _ from ?_))
    all_goals (have HI := Lib.hid (dyadIs_ok r p2 p8 _ c2 _ c8 w10 (by rw [HDR.out]; exact ho10.rd) hr10 rfl rfl (by omega)))
    all_goals (rw [HDR.out] at HI)
    all_goals ((with_reducible refine HI.out.mono ?_))
    all_goals (rintro e11 w11 ⟨rfl, hb11⟩)
    all_goals go_wp2
    all_goals go_ret
    all_goals exact ⟨rfl, hs10.trans (hb11.mono hs10.size)⟩
  · unfold doneTwo errTwo at HA
    rw [if_neg he, if_neg he] at HA
    have HAA := Lib.hid HA
    have HE := Lib.hid he
    obtain ⟨er, her⟩ : ∃ er, errDy2 a b = er := ⟨_, rfl⟩
    have HTW := fun W h1 h2 => Lib.hid (refTwoDyads_any a b W h1 ha.len h2 hb.len)
    rw [her] at HAA HE
    simp only [her] at HTW
    have hz : (er == 0) = false := beq_eq_false_iff_ne.2 HE.out
    clear HA he her
    go_enter Tryd.func3, Tryd.ntmps3
    go_wp2_with fail
    rw [← HW1.out]
    ((with_reducible refine HAA.out.mono ?_))
    clear HAA HW1
    rintro e2 w2 ⟨p2, c2, rfl, ho2, hb2⟩
    rw [dig_zero, List.length_nil]
    have hs2 := hs1.trans (hb2.mono hs1.size)
    replace A1 := A1.past hb2
    replace B1 := B1.past hb2
    replace ha1 := ha1.past hb2
    replace hb1 := hb1.past hb2
    replace hT1 := hT1.past hb2
    have hb3 : Below w2.heap.size w2 (w2.alloc (.cells #[.bool false, .slice p2 0 c2, .int .i64 0] 25)) := (Below.refl _ _).alloc (Nat.le_refl _) _
    have hs3 := hs2.trans (hb3.mono hs2.size)
    have C1 := box3_new w2 (.bool false) (.slice p2 0 c2) (.int .i64 0) 25
    replace A1 := A1.past hb3
    replace B1 := B1.past hb3
    replace ha1 := ha1.past hb3
    replace hb1 := hb1.past hb3
    replace hT1 := hT1.past hb3
    have a0 := A1.c0
    have a1 := A1.c1
    have a2 := A1.c2
    have b0 := B1.c0
    have b1 := B1.c1
    have b2 := B1.c2
    go_wp2_with fail
    clear a0 a1 a2 b0 b1 b2
    ((with_reducible refine (HTW _ ha1.rd hb1.rd).out.mono ?_))
    rintro e4 w4 ⟨rfl, hb4⟩
    have hs4 := hs3.trans (hb4.mono hs3.size)
    replace C1 := C1.past hb4
    replace hT1 := hT1.past hb4
    have hb5 : Below w4.heap.size w4 (w4.alloc (.cells #[.bool false, .slice none 0 0, .int .i64 0] 32)) := (Below.refl _ _).alloc (Nat.le_refl _) _
    have D1 := box3_new w4 (.bool false) (.slice none 0 0) (.int .i64 0) 32
    have hs5 := hs4.trans (hb5.mono hs4.size)
    replace C1 := C1.past hb5
    replace hT1 := hT1.past hb5
    go_wp2_with fail
    ((with_reducible refine (dyadBegun_any _ hT1).mono ?_))
    rintro e10 w10 ⟨rfl, hb10⟩
    have hs10 := hs5.trans (hb10.mono hs5.size)
    obtain ⟨c0, c1, c2', _, _, _, _⟩ := C1.past hb10
    obtain ⟨d0, d1, d2, _, _, _, _⟩ := D1.past hb10
    go_wp2_with fail
    ((with_reducible refine (dyadIs_err er ⟨false, 0, 0⟩ p2 none _ c2 _ 0 w10 HE.out rfl (by rw [dig_zero]; exact Rd.nil _ _ _) (by simp [dig_zero]) (by simp [dig_zero])).mono ?_))
    rintro e11 w11 ⟨rfl, hb11⟩
    go_wp2
    go_ret
    exact ⟨rfl, hs10.trans (hb11.mono hs10.size)⟩

set_option maxHeartbeats 4000000 in
set_option maxRecDepth 100000 in
theorem lawDMul_any (a b : Din) (w : World) (ha : InD w a) (hb : InD w b) (hT : TabW w) :
    Calls Tryd.prog 8 #[.agg #[.bool a.g, .slice a.p a.xs.length a.c, .int .i64 a.e], .agg #[.bool b.g, .slice b.p b.xs.length b.c, .int .i64 b.e]] w fun e w' => e = .returned (.bool true) ∧ Below w.heap.size w w' := by
  obtain ⟨W1, hW1⟩ : ∃ W1, W1 = (w.alloc (.cells #[.bool a.g, .slice a.p a.xs.length a.c, .int .i64 a.e] 25)).alloc (.cells #[.bool b.g, .slice b.p b.xs.length b.c, .int .i64 b.e] 25) := ⟨_, rfl⟩
  have hs1 : Below w.heap.size w W1 := by rw [hW1]; exact two_laid w _ _
  have A1 : Box3 W1 w.heap.size (.bool a.g) (.slice a.p a.xs.length a.c) (.int .i64 a.e) := by rw [hW1]; exact (box3_new w _ _ _ _).laid _
  have B1 : Box3 W1 (w.heap.size + 1) (.bool b.g) (.slice b.p b.xs.length b.c) (.int .i64 b.e) := by
    have := box3_new (w.alloc (.cells #[.bool a.g, .slice a.p a.xs.length a.c, .int .i64 a.e] 25)) (.bool b.g) (.slice b.p b.xs.length b.c) (.int .i64 b.e) 25
    rw [hW1]; simpa using this
  have ha1 := ha.past hs1
  have hb1 := hb.past hs1
  have hT1 := hT.past hs1
  have HA := dyMul_any a b W1 ha1 hb1 hT1
  have HW1 := Lib.hid hW1
  clear hW1
  by_cases he : errDy2 a b = 0
  · obtain ⟨hla, hea, hea2⟩ := dyV_bd ha (errDy2_ok he).1
    obtain ⟨hlb, heb, heb2⟩ := dyV_bd hb (errDy2_ok he).2
    unfold doneTwo errTwo at HA
    rw [if_pos he, if_pos he] at HA
    skip
    have HAA := Lib.hid HA
    have hl16 := B16_len _ hla
    have hl16b := B16_len _ hlb
    have HOA := fun W h => Lib.hid (refOfDyad_any a W h (errDy2_ok he).1)
    have HOB := fun W h => Lib.hid (refOfDyad_any b W h (errDy2_ok he).2)
    have HLen := Lib.hid (show (dig B32 (dTimes (dyV a) (dyV b)).m).length ≤ 1000000 by (have := dTimes_len (dyV a) (dyV b); omega))
    have HE := Lib.hid he
    clear HA he
    generalize dyV a = va at *
    generalize dyV b = vb at *
    obtain ⟨ga, na, fa⟩ := va
    obtain ⟨gb, nb, fb⟩ := vb
    obtain ⟨r, hr⟩ : ∃ r, dTimes ⟨ga, na, fa⟩ ⟨gb, nb, fb⟩ = r := ⟨_, rfl⟩
    rw [hr] at HLen HAA
    have HR := Lib.hid hr
    have lr16 := B16_len _ HLen.out
    clear hr
    simp only at hla hea hea2 hlb heb heb2 hl16 hl16b
    go_enter Tryd.func8, Tryd.ntmps8
    go_wp2_with fail
    rw [← HW1.out]
    ((with_reducible refine HAA.out.mono ?_))
    clear HAA HW1
    rintro e2 w2 ⟨p2, c2, rfl, ho2, hb2⟩
    have hs2 := hs1.trans (hb2.mono hs1.size)
    have hp2 : p2.isSome = true → blk p2 < w2.heap.size := fun h => (ho2.blk_lt h).2
    replace A1 := A1.past hb2
    replace B1 := B1.past hb2
    replace ha1 := ha1.past hb2
    replace hb1 := hb1.past hb2
    replace hT1 := hT1.past hb2
    have hzB0 : w.heap.size + 1 ≤ w2.heap.size := Nat.le_of_lt B1.lt
    obtain ⟨dr, hdr⟩ : ∃ dr, doneD r = dr := ⟨_, rfl⟩
    obtain ⟨er, her⟩ : ∃ er, errD r = er := ⟨_, rfl⟩
    rw [hdr] at ho2 ⊢
    rw [her]
    have HDR := Lib.hid hdr
    have HER := Lib.hid her
    clear hdr her
    have hb3 : Below w2.heap.size w2 (w2.alloc (.cells #[.bool dr.neg, .slice p2 (dig B32 dr.m).length c2, .int .i64 dr.e] 25)) := (Below.refl _ _).alloc (Nat.le_refl _) _
    have hs3 := hs2.trans (hb3.mono hs2.size)
    have C1 := box3_new w2 (.bool dr.neg) (.slice p2 (dig B32 dr.m).length c2) (.int .i64 dr.e) 25
    replace A1 := A1.past hb3
    replace B1 := B1.past hb3
    replace ha1 := ha1.past hb3
    replace hb1 := hb1.past hb3
    replace hT1 := hT1.past hb3
    replace ho2 := ho2.past hb3
    have a0 := A1.c0
    have a1 := A1.c1
    have a2 := A1.c2
    have b0 := B1.c0
    have b1 := B1.c1
    have b2 := B1.c2
    go_wp2_with fail
    clear a0 a1 a2 b0 b1 b2
    ((with_reducible refine (refTwoDyads_any a b _ ha1.rd ha1.len hb1.rd hb1.len).mono ?_))
    rintro e4 w4 ⟨rfl, hb4⟩
    rw [HE.out]
    have hs4 := hs3.trans (hb4.mono hs3.size)
    replace A1 := A1.past hb4
    replace B1 := B1.past hb4
    replace C1 := C1.past hb4
    replace ha1 := ha1.past hb4
    replace hb1 := hb1.past hb4
    replace hT1 := hT1.past hb4
    replace ho2 := ho2.past hb4
    have hb5 : Below w4.heap.size w4 (w4.alloc (.cells #[.bool false, .slice none 0 0, .int .i64 0] 32)) := (Below.refl _ _).alloc (Nat.le_refl _) _
    have D1 := box3_new w4 (.bool false) (.slice none 0 0) (.int .i64 0) 32
    have hs5 := hs4.trans (hb5.mono hs4.size)
    replace A1 := A1.past hb5
    replace B1 := B1.past hb5
    replace C1 := C1.past hb5
    replace ha1 := ha1.past hb5
    replace hb1 := hb1.past hb5
    replace hT1 := hT1.past hb5
    replace ho2 := ho2.past hb5
    go_wp2_with fail
    have hz4 : w2.heap.size < w4.heap.size := by have := hb4.size; simp at this; omega
    have hz5 : w4.heap.size < (w4.alloc (.cells #[.bool false, .slice none 0 0, .int .i64 0] 32)).heap.size := by simp
    have hzw := hs2.size
    have hzB : w.heap.size + 1 ≤ w2.heap.size := hzB0
    generalize w4.alloc (.cells #[.bool false, .slice none 0 0, .int .i64 0] 32) = W5 at *
    clear hb2 hb3 hb4 hb5
    go_region_held3 (fun w' => (w'.cell? ⟨w.heap.size, 0, none⟩ = some (.bool a.g) ∧ w'.cell? ⟨w.heap.size, 1, none⟩ = some (.slice a.p a.xs.length a.c) ∧ w'.cell? ⟨w.heap.size, 2, none⟩ = some (.int .i64 a.e)) ∧
        (w'.cell? ⟨w.heap.size + 1, 0, none⟩ = some (.bool b.g) ∧ w'.cell? ⟨w.heap.size + 1, 1, none⟩ = some (.slice b.p b.xs.length b.c) ∧ w'.cell? ⟨w.heap.size + 1, 2, none⟩ = some (.int .i64 b.e)))
      (first
             | exact ⟨⟨(((A8.set hkA).set hkA).set hkA).c0, (((A8.set hkA).set hkA).set hkA).c1, (((A8.set hkA).set hkA).set hkA).c2⟩, (((B8.set hkB).set hkB).set hkB).c0, (((B8.set hkB).set hkB).set hkB).c1, (((B8.set hkB).set hkB).set hkB).c2⟩
             | exact ⟨⟨(A8).c0, (A8).c1, (A8).c2⟩, (B8).c0, (B8).c1, (B8).c2⟩
             | exact ⟨⟨((A1.drew.past hbx).past hby).c0, ((A1.drew.past hbx).past hby).c1, ((A1.drew.past hbx).past hby).c2⟩, ((B1.drew.past hbx).past hby).c0, ((B1.drew.past hbx).past hby).c1, ((B1.drew.past hbx).past hby).c2⟩
             | exact ⟨⟨((A1.drew.past hby).past hbx).c0, ((A1.drew.past hby).past hbx).c1, ((A1.drew.past hby).past hbx).c2⟩, ((B1.drew.past hby).past hbx).c0, ((B1.drew.past hby).past hbx).c1, ((B1.drew.past hby).past hbx).c2⟩
             | exact ⟨⟨(A1.drew.past hbx).c0, (A1.drew.past hbx).c1, (A1.drew.past hbx).c2⟩, (B1.drew.past hbx).c0, (B1.drew.past hbx).c1, (B1.drew.past hbx).c2⟩
             | exact ⟨⟨(A1.drew.past hby).c0, (A1.drew.past hby).c1, (A1.drew.past hby).c2⟩, (B1.drew.past hby).c0, (B1.drew.past hby).c1, (B1.drew.past hby).c2⟩
             | exact ⟨⟨(A1.drew).c0, (A1.drew).c1, (A1.drew).c2⟩, (B1.drew).c0, (B1.drew).c1, (B1.drew).c2⟩
             | exact ⟨⟨(A1).c0, (A1).c1, (A1).c2⟩, (B1).c0, (B1).c1, (B1).c2⟩
             )
      (first
        | (go_at_call_of 16 (Value.agg #[.bool a.g, .slice a.p a.xs.length a.c, .int .i64 a.e]); refine (HOA _ ?_).out.mono ?_; (first | exact ha1.drew | exact ha1.drew.past hby); rintro ex wx ⟨px, cx, rfl, hrx, hcx, hfx, hbx⟩)
        | (go_at_call_of 16 (Value.agg #[.bool b.g, .slice b.p b.xs.length b.c, .int .i64 b.e]); refine (HOB _ ?_).out.mono ?_; (first | exact hb1.drew | exact hb1.drew.past hbx); rintro ey wy ⟨py, cy, rfl, hry, hcy, hfy, hby⟩)
        | (go_at_call 28; refine (refDTimes_any ga gb px py _ cx _ cy fa fb na nb _ ?_ ?_ rfl rfl (by omega) (by omega) (by omega) (by omega)).mono ?_; (first | exact hrx.past hby | exact hrx); (first | exact hry | exact hry.past hbx); rw [HR.out]; rintro e8 w8 ⟨p8, c8, rfl, hr8, hc8, hf8, hb8⟩; (first
            | (have hbz := ((hbx).trans (hby.mono hbx.size)).trans (hb8.mono (Nat.le_trans hbx.size hby.size)); have hxy := Nat.le_trans hbx.size hby.size)
            | (have hbz := ((hby).trans (hbx.mono hby.size)).trans (hb8.mono (Nat.le_trans hby.size hbx.size)); have hxy := Nat.le_trans hby.size hbx.size));
           have A8 := A1.drew.past hbz; have B8 := B1.drew.past hbz; have C8 := C1.drew.past hbz; have D8 := D1.drew.past hbz; have hs8 := hs5.drew.trans (hbz.mono hs5.size); have hT8 := hT1.drew.past hbz; have ho8 := ho2.drew.past hbz; have hkA : w.heap.size < w4.heap.size := Nat.lt_of_le_of_lt hzw hz4; have hkB : w.heap.size + 1 < w4.heap.size := Nat.lt_of_le_of_lt hzB hz4; have DP := D8.put (.bool r.neg) (.slice p8 (dig B16 r.m).length c8) (.int .i64 r.e); obtain ⟨k0, k1, k2, k3, k4, k5, k6⟩ := D8))
    all_goals (go_wp2_with fail)
    all_goals (have hg8 : 0 < (dig B16 r.m).length → blk p8 ≠ w4.heap.size := fun h => by
                have h1 : W5.drew.heap.size = W5.heap.size := rfl
                rcases hf8 h with h | h
                · exact h.elim
                · omega)
    all_goals (have hT9 := hT8.beside (k := w4.heap.size) (by omega) (.bool r.neg) (.slice p8 (dig B16 r.m).length c8) (.int .i64 r.e))
    all_goals (have C9 := C8.beside (k := w4.heap.size) (by omega) (.bool r.neg) (.slice p8 (dig B16 r.m).length c8) (.int .i64 r.e))
    all_goals (have ho9 := Own.beside ho8 (k := w4.heap.size) (fun h => by have := hp2 h; omega) (.bool r.neg) (.slice p8 (dig B16 r.m).length c8) (.int .i64 r.e))
    all_goals (have hr9 := Rd.beside hr8 (k := w4.heap.size) hg8 (.bool r.neg) (.slice p8 (dig B16 r.m).length c8) (.int .i64 r.e))
    all_goals (have hs9 := Below.beside hs8 (k := w4.heap.size) (by omega) (.bool r.neg) (.slice p8 (dig B16 r.m).length c8) (.int .i64 r.e))
    all_goals (clear k0 k1 k2 k3 k4 k5 k6)
    all_goals (generalize ((w8.setCell ⟨w4.heap.size, 0, none⟩ (.bool r.neg)).setCell ⟨w4.heap.size, 1, none⟩ (.slice p8 (dig B16 r.m).length c8)).setCell ⟨w4.heap.size, 2, none⟩ (.int .i64 r.e) = W9 at *)
    all_goals ((with_reducible refine (dyadBegun_any _ hT9).mono ?_))
    all_goals (rintro e10 w10 ⟨rfl, hb10⟩)
    all_goals (have hs10 := hs9.trans (hb10.mono hs9.size))
    all_goals (obtain ⟨c0, c1, c2', _, _, _, _⟩ := C9.past hb10)
    all_goals (obtain ⟨d0, d1, d2, _, _, _, _⟩ := DP.past hb10)
    all_goals (have ho10 := ho9.past hb10; have hr10 := hr9.past hb10)
    all_goals (go_wp2_with fail)
    all_goals (rw [← HER.out])
    all_goals (refine (show Calls _ _ #[.agg #[.bool dr.neg, .slice p2 (dig B32 dr.m).length c2, .int .i64 dr.e], .int .i64 (errD r), .int .i64 0, .agg #[.bool r.neg, .slice p8 (dig B16 r.m).length c8, .int .i64 r.e]] _ _ from ?_))
    all_goals (have HI := Lib.hid (dyadIs_ok r p2 p8 _ c2 _ c8 w10 (by rw [HDR.out]; exact ho10.rd) hr10 rfl rfl (by omega)))
    all_goals (rw [HDR.out] at HI)
    all_goals ((with_reducible refine HI.out.mono ?_))
    all_goals (rintro e11 w11 ⟨rfl, hb11⟩)
    all_goals go_wp2
    all_goals go_ret
    all_goals exact ⟨rfl, hs10.trans (hb11.mono hs10.size)⟩
  · unfold doneTwo errTwo at HA
    rw [if_neg he, if_neg he] at HA
    have HAA := Lib.hid HA
    have HE := Lib.hid he
    obtain ⟨er, her⟩ : ∃ er, errDy2 a b = er := ⟨_, rfl⟩
    have HTW := fun W h1 h2 => Lib.hid (refTwoDyads_any a b W h1 ha.len h2 hb.len)
    rw [her] at HAA HE
    simp only [her] at HTW
    have hz : (er == 0) = false := beq_eq_false_iff_ne.2 HE.out
    clear HA he her
    go_enter Tryd.func8, Tryd.ntmps8
    go_wp2_with fail
    rw [← HW1.out]
    ((with_reducible refine HAA.out.mono ?_))
    clear HAA HW1
    rintro e2 w2 ⟨p2, c2, rfl, ho2, hb2⟩
    rw [dig_zero, List.length_nil]
    have hs2 := hs1.trans (hb2.mono hs1.size)
    replace A1 := A1.past hb2
    replace B1 := B1.past hb2
    replace ha1 := ha1.past hb2
    replace hb1 := hb1.past hb2
    replace hT1 := hT1.past hb2
    have hb3 : Below w2.heap.size w2 (w2.alloc (.cells #[.bool false, .slice p2 0 c2, .int .i64 0] 25)) := (Below.refl _ _).alloc (Nat.le_refl _) _
    have hs3 := hs2.trans (hb3.mono hs2.size)
    have C1 := box3_new w2 (.bool false) (.slice p2 0 c2) (.int .i64 0) 25
    replace A1 := A1.past hb3
    replace B1 := B1.past hb3
    replace ha1 := ha1.past hb3
    replace hb1 := hb1.past hb3
    replace hT1 := hT1.past hb3
    have a0 := A1.c0
    have a1 := A1.c1
    have a2 := A1.c2
    have b0 := B1.c0
    have b1 := B1.c1
    have b2 := B1.c2
    go_wp2_with fail
    clear a0 a1 a2 b0 b1 b2
    ((with_reducible refine (HTW _ ha1.rd hb1.rd).out.mono ?_))
    rintro e4 w4 ⟨rfl, hb4⟩
    have hs4 := hs3.trans (hb4.mono hs3.size)
    replace C1 := C1.past hb4
    replace hT1 := hT1.past hb4
    have hb5 : Below w4.heap.size w4 (w4.alloc (.cells #[.bool false, .slice none 0 0, .int .i64 0] 32)) := (Below.refl _ _).alloc (Nat.le_refl _) _
    have D1 := box3_new w4 (.bool false) (.slice none 0 0) (.int .i64 0) 32
    have hs5 := hs4.trans (hb5.mono hs4.size)
    replace C1 := C1.past hb5
    replace hT1 := hT1.past hb5
    go_wp2_with fail
    ((with_reducible refine (dyadBegun_any _ hT1).mono ?_))
    rintro e10 w10 ⟨rfl, hb10⟩
    have hs10 := hs5.trans (hb10.mono hs5.size)
    obtain ⟨c0, c1, c2', _, _, _, _⟩ := C1.past hb10
    obtain ⟨d0, d1, d2, _, _, _, _⟩ := D1.past hb10
    go_wp2_with fail
    ((with_reducible refine (dyadIs_err er ⟨false, 0, 0⟩ p2 none _ c2 _ 0 w10 HE.out rfl (by rw [dig_zero]; exact Rd.nil _ _ _) (by simp [dig_zero]) (by simp [dig_zero])).mono ?_))
    rintro e11 w11 ⟨rfl, hb11⟩
    go_wp2
    go_ret
    exact ⟨rfl, hs10.trans (hb11.mono hs10.size)⟩

end Go.Proofs.YtcbjidcpcompoaaDoor
