/- The law DyadBares: its walk. -/
import Derived.Test.YtcbjidcpcompoaaDoorZLawD1
import Derived.Test.YtcbjidcpcompoaaDoorZRDy1
import Derived.Test.YtcbjidcpcompoaaDoorZRDy2
import Derived.Test.YtcbjidcpcompoaaDoorZDyad10
namespace Go.Proofs.YtcbjidcpcompoaaDoor
open Go.RowKit Go.Slip

theorem B16_len' (m : Nat) {n : Nat} (h : (dig B32 m).length ≤ n) : (dig B16 m).length ≤ 2 * n := by
  have := B16_len32 m
  omega


set_option maxHeartbeats 4000000 in
set_option maxRecDepth 100000 in
theorem lawDBare_any (a : Din) (w : World) (ha : InD w a) (hT : TabW w) :
    Calls Tryd.prog 5 #[.agg #[.bool a.g, .slice a.p a.xs.length a.c, .int .i64 a.e]] w fun e w' => e = .returned (.bool true) ∧ Below w.heap.size w w' := by
  obtain ⟨W1, hW1⟩ : ∃ W1, W1 = w.alloc (.cells #[.bool a.g, .slice a.p a.xs.length a.c, .int .i64 a.e] 25) := ⟨_, rfl⟩
  have hs1 : Below w.heap.size w W1 := by rw [hW1]; exact (Below.refl _ _).alloc (Nat.le_refl _) _
  have A1 : Box3 W1 w.heap.size (.bool a.g) (.slice a.p a.xs.length a.c) (.int .i64 a.e) := by rw [hW1]; exact box3_new w _ _ _ _
  have ha1 := ha.past hs1
  have hT1 := hT.past hs1
  have HW1 := Lib.hid hW1
  clear hW1
  have HA := dyBare_any a W1 ha1 hT1
  have HCD := fun W h => Lib.hid (refCheckDyad_any a W h ha.len)
  unfold doneOne errOne at HA
  by_cases he : errDy a = 0
  · rw [if_pos he, if_pos he] at HA
    have HAA := Lib.hid HA
    have HOA := fun W h => Lib.hid (refOfDyad_any a W h he)
    obtain ⟨hla, hea, hea2⟩ := dyV_bd ha he
    simp only [he] at HCD
    clear HA he
    generalize dyV a = r at *
    have lr16 := B16_len' _ hla
    go_enter Tryd.func5, Tryd.ntmps5
    go_wp2_with fail
    rw [← HW1.out]
    ((with_reducible refine HAA.out.mono ?_))
    clear HAA HW1
    rintro e2 w2 ⟨p2, c2, rfl, ho2, hb2⟩
    have hs2 := hs1.trans (hb2.mono hs1.size)
    have hp2 : p2.isSome = true → blk p2 < w2.heap.size := fun h => (ho2.blk_lt h).2
    replace A1 := A1.past hb2
    replace ha1 := ha1.past hb2
    replace hT1 := hT1.past hb2
    obtain ⟨dr, hdr⟩ : ∃ dr, doneD r = dr := ⟨_, rfl⟩
    obtain ⟨er, her⟩ : ∃ er, errD r = er := ⟨_, rfl⟩
    rw [hdr] at ho2 ⊢
    rw [her]
    have HDR := Lib.hid hdr
    have HER := Lib.hid her
    clear hdr her
    have hb3 : Below w2.heap.size w2 (w2.alloc (.cells #[.bool dr.neg, .slice p2 (dig B32 dr.m).length c2, .int .i64 dr.e] 25)) := (Below.refl _ _).alloc (Nat.le_refl _) _
    have hs3 := hs2.trans (hb3.mono hs2.size)
    have C1 := box3_new w2 (.bool dr.neg) (.slice p2 (dig B32 dr.m).length c2) (.int .i64 dr.e) 25
    replace A1 := A1.past hb3
    replace ha1 := ha1.past hb3
    replace hT1 := hT1.past hb3
    replace ho2 := ho2.past hb3
    have a0 := A1.c0
    have a1 := A1.c1
    have a2 := A1.c2
    go_wp2_with fail
    clear a0 a1 a2
    ((with_reducible refine (HCD _ ha1.rd).out.mono ?_))
    rintro e4 w4 ⟨rfl, hb4⟩
    have hs4 := hs3.trans (hb4.mono hs3.size)
    replace A1 := A1.past hb4
    replace C1 := C1.past hb4
    replace ha1 := ha1.past hb4
    replace hT1 := hT1.past hb4
    replace ho2 := ho2.past hb4
    have hb5 : Below w4.heap.size w4 (w4.alloc (.cells #[.bool false, .slice none 0 0, .int .i64 0] 32)) := (Below.refl _ _).alloc (Nat.le_refl _) _
    have D1 := box3_new w4 (.bool false) (.slice none 0 0) (.int .i64 0) 32
    have hs5 := hs4.trans (hb5.mono hs4.size)
    replace A1 := A1.past hb5
    replace C1 := C1.past hb5
    replace ha1 := ha1.past hb5
    replace hT1 := hT1.past hb5
    replace ho2 := ho2.past hb5
    have a0 := A1.c0
    have a1 := A1.c1
    have a2 := A1.c2
    go_wp2_with fail
    clear a0 a1 a2
    have hz4 : w2.heap.size < w4.heap.size := by have := hb4.size; simp at this; omega
    have hz5 : w4.heap.size < (w4.alloc (.cells #[.bool false, .slice none 0 0, .int .i64 0] 32)).heap.size := by simp
    have hzw := hs2.size
    generalize w4.alloc (.cells #[.bool false, .slice none 0 0, .int .i64 0] 32) = W5 at *
    clear hb2 hb3 hb4 hb5
    ((with_reducible refine (HOA _ ha1).out.mono ?_))
    rintro e8 w8 ⟨p8, c8, rfl, hr8, hc8, hf8, hb8⟩
    have hxy := Nat.le_refl W5.heap.size
    have C8 := C1.past hb8
    have D8 := D1.past hb8
    have hs8 := hs5.trans (hb8.mono hs5.size)
    have hT8 := hT1.past hb8
    have ho8 := ho2.past hb8
    have DP := D8.put (.bool r.neg) (.slice p8 (dig B16 r.m).length c8) (.int .i64 r.e)
    obtain ⟨k0, k1, k2, k3, k4, k5, k6⟩ := D8
    go_wp2_with fail
    have hg8 : 0 < (dig B16 r.m).length → blk p8 ≠ w4.heap.size := fun h => by
      have h1 : W5.drew.heap.size = W5.heap.size := rfl
      rcases hf8 h with h | h
      · exact h.elim
      · omega
    have hT9 := hT8.beside (k := w4.heap.size) (by omega) (.bool r.neg) (.slice p8 (dig B16 r.m).length c8) (.int .i64 r.e)
    have C9 := C8.beside (k := w4.heap.size) (by omega) (.bool r.neg) (.slice p8 (dig B16 r.m).length c8) (.int .i64 r.e)
    have ho9 := Own.beside ho8 (k := w4.heap.size) (fun h => by have := hp2 h; omega) (.bool r.neg) (.slice p8 (dig B16 r.m).length c8) (.int .i64 r.e)
    have hr9 := Rd.beside hr8 (k := w4.heap.size) hg8 (.bool r.neg) (.slice p8 (dig B16 r.m).length c8) (.int .i64 r.e)
    have hs9 := Below.beside hs8 (k := w4.heap.size) (by omega) (.bool r.neg) (.slice p8 (dig B16 r.m).length c8) (.int .i64 r.e)
    clear k0 k1 k2 k3 k4 k5 k6
    generalize ((w8.setCell ⟨w4.heap.size, 0, none⟩ (.bool r.neg)).setCell ⟨w4.heap.size, 1, none⟩ (.slice p8 (dig B16 r.m).length c8)).setCell ⟨w4.heap.size, 2, none⟩ (.int .i64 r.e) = W9 at *
    ((with_reducible refine (dyadBegun_any _ hT9).mono ?_))
    rintro e10 w10 ⟨rfl, hb10⟩
    have hs10 := hs9.trans (hb10.mono hs9.size)
    obtain ⟨c0, c1, c2', _, _, _, _⟩ := C9.past hb10
    obtain ⟨d0, d1, d2, _, _, _, _⟩ := DP.past hb10
    have ho10 := ho9.past hb10
    have hr10 := hr9.past hb10
    go_wp2_with fail
    rw [← HER.out]
    refine (show Calls _ _ #[.agg #[.bool dr.neg, .slice p2 (dig B32 dr.m).length c2, .int .i64 dr.e], .int .i64 (errD r), .int .i64 0, .agg #[.bool r.neg, .slice p8 (dig B16 r.m).length c8, .int .i64 r.e]] _ _ from ?_)
    have HI := Lib.hid (dyadIs_ok r p2 p8 _ c2 _ c8 w10 (by rw [HDR.out]; exact ho10.rd) hr10 rfl rfl (by (try simp only); omega))
    rw [HDR.out] at HI
    (try simp only at HI)
    ((with_reducible refine HI.out.mono ?_))
    rintro e11 w11 ⟨rfl, hb11⟩
    go_wp2
    go_ret
    exact ⟨rfl, hs10.trans (hb11.mono hs10.size)⟩
  · rw [if_neg he, if_neg he] at HA
    have HAA := Lib.hid HA
    have HE := Lib.hid he
    obtain ⟨er, her⟩ : ∃ er, errDy a = er := ⟨_, rfl⟩
    rw [her] at HAA HE
    simp only [her] at HCD
    clear HA he her
    have hz : (er == 0) = false := beq_eq_false_iff_ne.2 HE.out
    go_enter Tryd.func5, Tryd.ntmps5
    go_wp2_with fail
    rw [← HW1.out]
    ((with_reducible refine HAA.out.mono ?_))
    clear HAA HW1
    rintro e2 w2 ⟨p2, c2, rfl, ho2, hb2⟩
    rw [dig_zero, List.length_nil]
    have hs2 := hs1.trans (hb2.mono hs1.size)
    replace A1 := A1.past hb2
    replace ha1 := ha1.past hb2
    replace hT1 := hT1.past hb2
    have hb3 : Below w2.heap.size w2 (w2.alloc (.cells #[.bool false, .slice p2 0 c2, .int .i64 0] 25)) := (Below.refl _ _).alloc (Nat.le_refl _) _
    have hs3 := hs2.trans (hb3.mono hs2.size)
    have C1 := box3_new w2 (.bool false) (.slice p2 0 c2) (.int .i64 0) 25
    replace A1 := A1.past hb3
    replace ha1 := ha1.past hb3
    replace hT1 := hT1.past hb3
    have a0 := A1.c0
    have a1 := A1.c1
    have a2 := A1.c2
    go_wp2_with fail
    clear a0 a1 a2
    ((with_reducible refine (HCD _ ha1.rd).out.mono ?_))
    rintro e4 w4 ⟨rfl, hb4⟩
    have hs4 := hs3.trans (hb4.mono hs3.size)
    replace C1 := C1.past hb4
    replace hT1 := hT1.past hb4
    have hb5 : Below w4.heap.size w4 (w4.alloc (.cells #[.bool false, .slice none 0 0, .int .i64 0] 32)) := (Below.refl _ _).alloc (Nat.le_refl _) _
    have D1 := box3_new w4 (.bool false) (.slice none 0 0) (.int .i64 0) 32
    have hs5 := hs4.trans (hb5.mono hs4.size)
    replace C1 := C1.past hb5
    replace hT1 := hT1.past hb5
    go_wp2_with fail
    ((with_reducible refine (dyadBegun_any _ hT1).mono ?_))
    rintro e10 w10 ⟨rfl, hb10⟩
    have hs10 := hs5.trans (hb10.mono hs5.size)
    obtain ⟨c0, c1, c2', _, _, _, _⟩ := C1.past hb10
    obtain ⟨d0, d1, d2, _, _, _, _⟩ := D1.past hb10
    go_wp2_with fail
    ((with_reducible refine (dyadIs_err er ⟨false, 0, 0⟩ p2 none _ c2 _ 0 w10 HE.out rfl (by rw [dig_zero]; exact Rd.nil _ _ _) (by simp [dig_zero]) (by simp [dig_zero])).mono ?_))
    rintro e11 w11 ⟨rfl, hb11⟩
    go_wp2
    go_ret
    exact ⟨rfl, hs10.trans (hb11.mono hs10.size)⟩

end Go.Proofs.YtcbjidcpcompoaaDoor
