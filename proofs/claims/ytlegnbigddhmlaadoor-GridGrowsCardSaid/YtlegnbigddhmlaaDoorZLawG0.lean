/- The laws' gridBegun; the law GridChecks: its walk. -/
import Derived.Test.YtlegnbigddhmlaaDoorZRGd4
namespace Go.Proofs.YtlegnbigddhmlaaDoor
open Go.RowKit Go.Slip

theorem begun_round (g : Gd) (hg : g = ⟨2, 3, -5, 5, true⟩) : roundP false 9 1 0 g 1 = ⟨false, 4, 1, false, false, false⟩ := by
  subst hg
  unfold roundP
  rw [if_neg (by omega)]
  have hK : IsK 9 1 0 1 3 1 := by
    constructor
    · unfold FullP qP numP denP; decide
    · unfold FullP qP numP denP; decide
  have e1 : theK 9 1 0 1 3 = 1 := theK_eq (by omega) (by omega) (by omega) (by omega) hK
  have h := digP_of (neg := false) (num := 9) (den := 1) (e := 0) (w := 1) (D := 3) (way := 1) (k := 1) (X := 4) (N := 2) (ub := false) (by decide) (by decide) (by decide)
  have e2 := fitK_of (neg := false) (num := 9) (den := 1) (e := 0) (g := ⟨2, 3, -5, 5, true⟩) (way := 1) (K := 1) (wd := 1) (D := 3) (k1 := 1) (by rfl) (by rfl) (by decide) h.1 h.2 (Y := 1) (by decide)
  show fitK false 9 1 0 ⟨2, 3, -5, 5, true⟩ 1 (theK 9 1 0 1 3) = _
  rw [e1, e2]
  simp

theorem dig32_small {k : Nat} (h0 : 0 < k) (h : k < 4294967296) : dig B32 k = [k] := by rw [dig_pos B32_two h0, show k / B32 = 0 by unfold B32; omega, dig_zero, show k % B32 = k by unfold B32; omega]

theorem rd_lit32 {w : World} {b k : Nat} (h : Bx w b #[.int .u32 (k : Int)]) : Rd w .u32 (some ⟨b, 0, none⟩) [k] := by
  refine ⟨fun _ => ⟨rfl, rfl⟩, fun j hj => ?_⟩
  obtain rfl : j = 0 := by simp at hj; omega
  exact h.e1

theorem errNat_lit {k : Nat} (hk : 0 < k) : errNat [k] = 0 := by
  unfold errNat
  rw [if_neg, if_neg (by simp)]
  rintro ⟨_, h2⟩
  simp [dg] at h2
  omega

set_option maxHeartbeats 2000000 in
set_option maxRecDepth 100000 in
theorem gridBegun_any (w : World) :
    Calls Tryd.prog 7 #[] w fun e w' => e = .returned (.bool true) ∧ Below w.heap.size w w' := by
  obtain ⟨W1, hW1, hb1, hz1, G, N9, N1⟩ := lay3 w #[.int .i64 2, .int .i64 3, .int .i64 (-5), .int .i64 5, .bool true] 27 #[.int .u32 9] 46 #[.int .u32 1] 46
  have r9 := rd_lit32 (k := 9) N9
  have r1 := rd_lit32 (k := 1) N1
  have HR := round_any ⟨false, some ⟨w.heap.size + 1, 0, none⟩, 1, [9], some ⟨w.heap.size + 1 + 1, 0, none⟩, 1, [1], 0⟩ ⟨2, 3, -5, 5, true⟩ 1 W1 ⟨r9, by simp, by simp [B32], r1, by simp, by simp [B32]⟩
  have e0 : errRat ⟨false, some ⟨w.heap.size + 1, 0, none⟩, 1, [9], some ⟨w.heap.size + 1 + 1, 0, none⟩, 1, [1], 0⟩ = 0 := by
    unfold errRat
    simp only [errNat_lit (show 0 < 9 by omega), errNat_lit (show 0 < 1 by omega)]
    simp
  have e1 : errRound ⟨false, some ⟨w.heap.size + 1, 0, none⟩, 1, [9], some ⟨w.heap.size + 1 + 1, 0, none⟩, 1, [1], 0⟩ ⟨2, 3, -5, 5, true⟩ 1 = 0 := by
    unfold errRound
    rw [e0]
    decide
  have e2 : roundOf ⟨false, some ⟨w.heap.size + 1, 0, none⟩, 1, [9], some ⟨w.heap.size + 1 + 1, 0, none⟩, 1, [1], 0⟩ ⟨2, 3, -5, 5, true⟩ 1 = ⟨false, 4, 1, false, false, false⟩ := by
    unfold roundOf
    rw [e1, if_pos rfl]
    simp only [val_cons, val_nil, Nat.mul_zero, Nat.add_zero]
    exact begun_round _ rfl
  rw [e1, e2] at HR
  simp only [List.length_cons, List.length_nil, Nat.zero_add] at HR
  have HRR := Lib.hid HR
  have HW1 := Lib.hid hW1
  have d4 := dig32_small (show 0 < 4 by omega) (show 4 < 4294967296 by omega)
  have HD4 := Lib.hid d4
  clear HR hW1 e0 e1 e2 d4 r9 r1
  go_enter Tryd.func7, Tryd.ntmps7
  go_wp2_with fail
  rw [← HW1.out]
  ((with_reducible refine HRR.out.mono ?_))
  clear HRR HW1
  rintro e2 w2 ⟨p2, c2, rfl, ho2, hb2⟩
  simp only [HD4.out, List.length_cons, List.length_nil, Nat.zero_add] at ho2 ⊢
  have hs2 := hb1.trans (hb2.mono hb1.size)
  obtain ⟨W3, hW3, hb3, hz3, P, N4⟩ := lay2 w2 #[.bool false, .slice p2 1 c2, .int .i64 1, .bool false, .bool false, .bool false] 61 #[.int .u32 4] 46
  have r4 := rd_lit32 (k := 4) N4
  have ho3 := ho2.past hb3
  have Pn := bx_new w2 #[.bool false, .slice p2 1 c2, .int .i64 1, .bool false, .bool false, .bool false] 61
  obtain ⟨Pn_0, Pn_1, Pn_2, Pn_3, Pn_4, Pn_5⟩ := Pn.e6
  obtain ⟨P_0, P_1, P_2, P_3, P_4, P_5⟩ := P.e6
  have HW3 := Lib.hid hW3
  clear hW3
  go_wp2_with fail
  rw [← HW3.out]
  clear Pn_0 Pn_1 Pn_2 Pn_3 Pn_4 Pn_5 P_0 P_1 P_2 P_3 P_4 P_5
  ((with_reducible refine (refSameNat_any p2 (some ⟨w2.heap.size + 1, 0, none⟩) 1 c2 1 1 [4] [4] _ ho3.rd r4 rfl rfl rfl (by simp)).mono ?_))
  rintro e4 w4 ⟨rfl, hb4⟩
  have P4 := P.past hb4
  obtain ⟨P_0, P_1, P_2, P_3, P_4, P_5⟩ := P4.e6
  go_wp2
  go_ret
  exact ⟨rfl, (hs2.trans (hb3.mono hs2.size)).trans (hb4.mono (Nat.le_trans hs2.size hb3.size))⟩

end Go.Proofs.YtlegnbigddhmlaaDoor
