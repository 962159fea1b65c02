/- The law DyadFloors: its walk. -/
import Derived.Test.YtcbjidcpcompoaaDoorZLawDBare
import Derived.Test.YtcbjidcpcompoaaDoorZDyad13
import Derived.Test.YtcbjidcpcompoaaDoorZRDy5
import Derived.Test.YtcbjidcpcompoaaDoorZLaw00
namespace Go.Proofs.YtcbjidcpcompoaaDoor
open Go.RowKit Go.Slip



set_option maxHeartbeats 4000000 in
set_option maxRecDepth 100000 in
theorem lawDFlr_any (a : Din) (w : World) (ha : InD w a) (hT : TabW w) :
    Calls Tryd.prog 7 #[.agg #[.bool a.g, .slice a.p a.xs.length a.c, .int .i64 a.e]] w fun e w' => e = .returned (.bool true) ∧ Below w.heap.size w w' := by
  obtain ⟨W1, hW1⟩ : ∃ W1, W1 = w.alloc (.cells #[.bool a.g, .slice a.p a.xs.length a.c, .int .i64 a.e] 25) := ⟨_, rfl⟩
  have hs1 : Below w.heap.size w W1 := by rw [hW1]; exact (Below.refl _ _).alloc (Nat.le_refl _) _
  have A1 : Box3 W1 w.heap.size (.bool a.g) (.slice a.p a.xs.length a.c) (.int .i64 a.e) := by rw [hW1]; exact box3_new w _ _ _ _
  have ha1 := ha.past hs1
  have hT1 := hT.past hs1
  have HW1 := Lib.hid hW1
  clear hW1
  have HA := dyFloor_any a W1 ha1 hT1
  have HCD := fun W h => Lib.hid (refCheckDyad_any a W h ha.len)
  by_cases he : errDy a = 0
  · rw [he] at HA
    have HOA := fun W h => Lib.hid (refOfDyad_any a W h he)
    obtain ⟨hla, hea, hea2⟩ := dyV_bd ha he
    simp only [he] at HCD
    clear he
    have lF : (dig B16 (dFloor (dyV a)).succ.pred).length ≤ 1000000 := by
      rw [Nat.pred_succ]
      unfold dFloor
      split
      · have := len_shl16 (dyV a).m (dyV a).e.toNat
        have := B16_len' _ hla
        omega
      · have := dig_len_mono B16_two (Nat.div_le_self (dyV a).m (2 ^ (-(dyV a).e).toNat))
        have := B16_len' _ hla
        omega
    rw [Nat.succ_eq_add_one, Nat.pred_eq_sub_one, Nat.add_sub_cancel] at lF
    generalize dyV a = va at *
    obtain ⟨gv, mv, fv⟩ := va
    have lv16 := B16_len' _ hla
    obtain ⟨F, hF⟩ : ∃ F, dFloor ⟨gv, mv, fv⟩ = F := ⟨_, rfl⟩
    unfold flNeg at HA
    rw [hF] at HA lF
    have HF := Lib.hid hF
    simp only at hla hea hea2 lv16 HA
    obtain ⟨er, her⟩ : ∃ er, natE 0 F = er := ⟨_, rfl⟩
    have HER := Lib.hid her
    obtain ⟨ng, hng⟩ : ∃ ng, (if natE 0 F = 0 then gv else false) = ng := ⟨_, rfl⟩
    have HNG := Lib.hid hng
    obtain ⟨L, hL⟩ : ∃ L, natL 0 F = L := ⟨_, rfl⟩
    have HL := Lib.hid hL
    rw [hng, her, hL] at HA
    have HAA := Lib.hid HA
    have hE2 : er = 0 ∨ er = 2 := by rw [← her]; unfold natE; rw [if_pos rfl]; split <;> simp
    have hN2 : er = 0 → ng = gv := fun h => by rw [← hng, her, if_pos h]
    have hN3 : er ≠ 0 → ng = false := fun h => by rw [← hng, her, if_neg h]
    clear HA hF her hng hL
    have HI := fun p q n c m d W h1 h2 h3 => Lib.hid (natIs_any p q n c m d 0 F W h1 h2 h3 (fun _ => by omega))
    simp only [HER.out, HL.out] at HI
    have HG := fun p n c W h1 h2 => Lib.hid (long_any p n c F W h1 h2 (by omega))
    simp only [HER.out] at HG
    go_enter Tryd.func7, Tryd.ntmps7
    go_wp2_with fail
    rw [← HW1.out]
    ((with_reducible refine HAA.out.mono ?_))
    clear HAA HW1
    rintro e2 w2 ⟨p2, c2, rfl, ho2, hb2⟩
    have hs2 := hs1.trans (hb2.mono hs1.size)
    replace A1 := A1.past hb2
    replace ha1 := ha1.past hb2
    replace hT1 := hT1.past hb2
    have a0 := A1.c0
    have a1 := A1.c1
    have a2 := A1.c2
    go_wp2_with fail
    clear a0 a1 a2
    ((with_reducible refine (HCD _ ha1.rd).out.mono ?_))
    rintro e4 w4 ⟨rfl, hb4⟩
    have hs4 := hs2.trans (hb4.mono hs2.size)
    replace A1 := A1.past hb4
    replace ha1 := ha1.past hb4
    replace hT1 := hT1.past hb4
    replace ho2 := ho2.past hb4
    have a0 := A1.c0
    have a1 := A1.c1
    have a2 := A1.c2
    go_wp2_with fail
    clear a0 a1 a2
    ((with_reducible refine (HOA _ ha1).out.mono ?_))
    rintro e5 w5 ⟨p5, c5, rfl, hr5, hc5, hf5, hb5⟩
    have hs5 := hs4.trans (hb5.mono hs4.size)
    replace hT1 := hT1.past hb5
    replace ho2 := ho2.past hb5
    have hb6 : Below w5.heap.size w5 (w5.alloc (.cells #[.bool gv, .slice p5 (dig B16 mv).length c5, .int .i64 fv] 32)) := (Below.refl _ _).alloc (Nat.le_refl _) _
    have X1 := box3_new w5 (.bool gv) (.slice p5 (dig B16 mv).length c5) (.int .i64 fv) 32
    have hs6 := hs5.trans (hb6.mono hs5.size)
    replace hT1 := hT1.past hb6
    replace ho2 := ho2.past hb6
    replace hr5 := hr5.past hb6
    go_wp2_with fail
    ((with_reducible refine (refFloorOf_any gv p5 _ c5 fv mv _ hr5 rfl (by omega) (by omega)).mono ?_))
    rw [HF.out]
    rintro e7 w7 ⟨p7, c7, rfl, hr7, hc7, hf7, hb7⟩
    have hs7 := hs6.trans (hb7.mono hs6.size)
    replace hT1 := hT1.past hb7
    replace ho2 := ho2.past hb7
    replace X1 := X1.past hb7
    go_wp2_with fail
    ((with_reducible refine (HG p7 _ c7 _ hr7 rfl).out.mono ?_))
    rintro e8 w8 ⟨rfl, hb8⟩
    have hs8 := hs7.trans (hb8.mono hs7.size)
    replace hT1 := hT1.past hb8
    replace ho2 := ho2.past hb8
    replace X1 := X1.past hb8
    replace hr7 := hr7.past hb8
    rcases hE2 with rfl | rfl
    · obtain rfl := hN2 rfl
      obtain ⟨x0, x1, x2, _, _, _, _⟩ := X1
      have t1 : (ng == ng) = true := by simp
      go_wp2_with fail
      ((with_reducible refine (dyadBegun_any _ hT1).mono ?_))
      rintro e9 w9 ⟨rfl, hb9⟩
      have hs9 := hs8.trans (hb9.mono hs8.size)
      replace ho2 := ho2.past hb9
      replace hr7 := hr7.past hb9
      go_wp2_with fail
      ((with_reducible refine (HI p2 p7 _ c2 _ c7 _ ho2.rd (fun _ => ⟨hr7, rfl⟩) rfl).out.mono ?_))
      rintro e10 w10 ⟨rfl, hb10⟩
      go_wp2
      go_ret
      exact ⟨rfl, hs9.trans (hb10.mono hs9.size)⟩
    · obtain rfl := hN3 (by omega)
      obtain ⟨x0, x1, x2, _, _, _, _⟩ := X1
      go_wp2_with fail
      ((with_reducible refine (dyadBegun_any _ hT1).mono ?_))
      rintro e9 w9 ⟨rfl, hb9⟩
      have hs9 := hs8.trans (hb9.mono hs8.size)
      replace ho2 := ho2.past hb9
      replace hr7 := hr7.past hb9
      go_wp2_with fail
      ((with_reducible refine (HI p2 p7 _ c2 _ c7 _ ho2.rd (fun _ => ⟨hr7, rfl⟩) rfl).out.mono ?_))
      rintro e10 w10 ⟨rfl, hb10⟩
      go_wp2
      go_ret
      exact ⟨rfl, hs9.trans (hb10.mono hs9.size)⟩
  · have HE := Lib.hid he
    obtain ⟨er, her⟩ : ∃ er, errDy a = er := ⟨_, rfl⟩
    rw [her] at HA HE
    simp only [her] at HCD
    have e1 : natE er (dFloor (dyV a)) = er := by unfold natE; rw [if_neg HE.out]
    have e2 : natL er (dFloor (dyV a)) = [] := by unfold natL; rw [e1, if_neg HE.out]
    have e3 : flNeg er (dyV a) = false := by unfold flNeg; rw [e1, if_neg HE.out]
    rw [e1, e2, e3] at HA
    have HAA := Lib.hid HA
    have hz : (er == 0) = false := beq_eq_false_iff_ne.2 HE.out
    clear HA he her e1 e2 e3
    go_enter Tryd.func7, Tryd.ntmps7
    go_wp2_with fail
    rw [← HW1.out]
    ((with_reducible refine HAA.out.mono ?_))
    clear HAA HW1
    rintro e2 w2 ⟨p2, c2, rfl, ho2, hb2⟩
    have hs2 := hs1.trans (hb2.mono hs1.size)
    replace A1 := A1.past hb2
    replace ha1 := ha1.past hb2
    replace hT1 := hT1.past hb2
    have a0 := A1.c0
    have a1 := A1.c1
    have a2 := A1.c2
    go_wp2_with fail
    clear a0 a1 a2
    ((with_reducible refine (HCD _ ha1.rd).out.mono ?_))
    rintro e4 w4 ⟨rfl, hb4⟩
    have hs4 := hs2.trans (hb4.mono hs2.size)
    replace A1 := A1.past hb4
    replace ha1 := ha1.past hb4
    replace hT1 := hT1.past hb4
    replace ho2 := ho2.past hb4
    go_wp2_with fail
    ((with_reducible refine (dyadBegun_any _ hT1).mono ?_))
    rintro e9 w9 ⟨rfl, hb9⟩
    have hs9 := hs4.trans (hb9.mono hs4.size)
    go_wp2_with fail
    ((with_reducible refine (natIs_err p2 none c2 0 0 _ _ HE.out).mono ?_))
    rintro e10 w10 ⟨rfl, hb10⟩
    go_wp2
    go_ret
    exact ⟨rfl, hs9.trans (hb10.mono hs9.size)⟩

end Go.Proofs.YtcbjidcpcompoaaDoor
