/- The references' decimal digits. -/
import Derived.Test.YtococmfcaobmhaaRef7
import Derived.Test.YtococmfcaobmhaaNum5
import Derived.Deep.LoopGhost
namespace Go.Proofs.Ytococmfcaobmhaa
open Go.RowKit Go.Slip

theorem uBytes : Try.prog.underlying 65 = some (.slice 5) := by kernel_rfl
theorem uByte : Try.prog.underlying 5 = some (.int .u8) := by kernel_rfl
theorem uString : Try.prog.underlying 9 = some .string := by kernel_rfl

theorem strOf_append (xs ys : List Nat) : strOf xs ++ strOf ys = strOf (xs ++ ys) := by
  apply ByteArray.ext
  simp [strOf]

theorem strOf_get (xs : List Nat) (s : ByteArray) (h : s = strOf xs) (j : Nat) (hj : j < s.size) (hx : dg xs j < 256) : (s[j]'hj).toNat = dg xs j := by
  subst h
  have hj2 : j < xs.length := by rw [← strOf_size xs]; exact hj
  rw [dg_of_lt hj2] at hx ⊢
  have e : (strOf xs)[j]'hj = UInt8.ofNat xs[j] := by
    have h1 : (strOf xs)[j]'hj = ((strOf xs).data.toList)[j]'(by rw [strOf_data]; simpa using hj2) := by rw [Array.getElem_toList]; rfl
    rw [h1]
    simp only [strOf_data, List.getElem_map]
  rw [e, UInt8.toNat_ofNat', Nat.mod_eq_of_lt hx]

theorem strOf_drop (xs : List Nat) (k : Nat) : (strOf xs).extract k (strOf xs).size = strOf (xs.drop k) := by
  apply ByteArray.ext
  rw [ByteArray.data_extract]
  apply Array.ext'
  rw [Array.toList_extract, strOf_size]
  simp [strOf, List.map_drop, List.extract]
  rw [List.take_of_length_le (by simp)]


/-- One digit ahead of a text. -/
theorem strOf_cons_txt (D : List Nat) (x : Nat) (s : ByteArray) (h : s = strOf (Txt D)) : strOf [x + 48] ++ s = strOf (Txt (D ++ [x])) := by
  rw [h, strOf_append, Txt_snoc]; rfl


set_option maxHeartbeats 2000000 in
set_option maxRecDepth 100000 in
theorem refDecimals_any (p : Option Addr) (n c : Nat) (a : Nat) (w : World) (hp : Rd w .i64 p (dig B16 a)) (hn : n = (dig B16 a).length) (hl : (dig B16 a).length ≤ 10000000) :
    Calls Try.prog 27 #[.slice p n c] w fun e w' => e = .returned (.string (strOf (decOf a))) ∧ Below w.heap.size w w' := by
  subst hn
  go_enter Try.func27, Try.ntmps27
  go_wp2
  go_loopg [0, 3] a (fun g av sv wr => ∃ (A : Nat) (D : List Nat) (q : Option Addr) (d : Nat) (s : ByteArray), av = .slice q (dig B16 A).length d ∧ sv = .string s ∧ A ≤ g ∧ Rd wr .i64 q (dig B16 A) ∧ (dig B16 A).length ≤ 10000000 ∧ Below w.heap.size w wr ∧
      Hid (s = strOf (Txt D)) ∧ s.size ≤ 160000000 ∧ D.length ≤ 160000000 ∧ Hid (GrpOut a D A))
  case atStart => exact ⟨a, [], p, c, _, rfl, rfl, Nat.le_refl _, hp, hl, Below.refl _ _, rfl, Nat.zero_le _, Nat.zero_le _, GrpOut.start a⟩
  case round =>
    obtain ⟨A, D, q, d, s, rfl, rfl, hg, hq, hlA, hb, hS, hsz, hD, HR⟩ := hrel
    go_wp2_with (refine wpl_build1 rfl _ _ (by rfl) tyN 10000 (by omega) (by rfl) ?_; intro p2 w2 ho2 hb2 hz2 hp2)
    have hr2 : Rd w2 .i64 p2 [10000] := ho2.rd
    refine (refInto_one q p2 _ 1 d 1 A 10000 _ (hq.past hb2) hr2 rfl rfl (by omega) (by omega) (by omega)).mono ?_
    rintro e w3 ⟨p3, c3, p4, c4, rfl, hr3, -, -, hr4, -, -, hb3⟩
    have hb4 := hb.trans ((hb2.mono hb.size).trans (hb3.mono (Nat.le_trans hb.size hb2.size)))
    have HE := Lib.hid HR.out.enter
    have hq3 : (dig B16 (A / 10000)).length ≤ 10000000 := Nat.le_trans (dig_len_mono B16_two (Nat.div_le_self _ _)) hlA
    have hAd : A / 10000 < A ∨ A / 10000 = 0 := by omega
    have hrl : A % 10000 < 10000 := Nat.mod_lt _ (by omega)
    generalize A / 10000 = B at *
    generalize A % 10000 = r at *
    have hs4 := hr4.solid
    clear hb hb2 hb3 ho2 hr2 hz2 hp2 hq
    by_cases h0 : r = 0
    · subst h0
      rw [dig_zero] at *
      go_wp2
      go_loopw [3, 6, 7] (fun sv dv iv wr2 => ∃ (i t : Nat) (D2 : List Nat) (s2 : ByteArray), iv = .int .i64 i ∧ dv = .int .i64 t ∧ sv = .string s2 ∧ i ≤ 4 ∧ t < 10000 ∧ Below w.heap.size w wr2 ∧ Hid (s2 = strOf (Txt D2)) ∧ Hid (D2.length = D.length + i) ∧ s2.size ≤ 160000000 + i ∧ Hid (GrpIn a D2 i t B) ∧ Rd wr2 .i64 p3 (dig B16 B))
        (fun _ _ iv _ => 4 - (intOf iv).toNat)
      case atStart => exact ⟨0, 0, D, s, rfl, rfl, rfl, by omega, hrl, hb4, hS, rfl, by omega, HE, hr3⟩
      case round =>
        obtain ⟨i, t, D2, s2, rfl, rfl, rfl, hi, ht, hb5, hS2, hD2, hz2, HG, hr5⟩ := hrel
        by_cases h4 : i < 4
        · have HN := Lib.hid (HG.out.step h4)
          have hone : (strOf [48 + t % 10]).size ≤ 1 := by rw [strOf_size]; simp
          go_wp2_with (first
            | (refine wpl_build1 rfl _ _ rfl tyBytes _ ?_ rfl ?_; omega; intro p6 w6 ho6 hb6 hz6 hp6)
            | (refine wpl_str rfl _ _ _ (by rfl) uBytes uByte uString _ _ _ _ ho6.rd ?_ (by rfl) ?_; simp))
          go_roundw
          case measure => simp [intOf]; omega
          case rel =>
            refine ⟨i + 1, t / 10, D2 ++ [t % 10], _, by go_num, by go_num, rfl, by omega, by omega, hb5.trans (hb6.mono hb5.size), ?_, ?_, ?_, HN, hr5.past hb6⟩
            · show _ = strOf (Txt (D2 ++ [t % 10]))
              rw [← strOf_cons_txt D2 (t % 10) s2 hS2.out, Nat.add_comm]
            · show (D2 ++ [t % 10]).length = D.length + (i + 1)
              rw [List.length_append, List.length_singleton, hD2.out]; omega
            · rw [ByteArray.size_append, strOf_size]; simp; omega
        · obtain rfl : i = 4 := by omega
          have HO := Lib.hid HG.out.leave
          by_cases hB : 0 < B
          · have hlB : 1 ≤ (dig B16 B).length := List.length_pos_iff.2 ((dig_spec B16_two B).2.2.2 hB)
            have hsb := HO.out.size hB
            have hAB : B < A := by omega
            have hs3 : s2.size ≤ D2.length := by rw [hS2.out, strOf_size, Txt_length]; exact Nat.le_refl _
            go_wp2
            go_roundg B
            case measure => omega
            case rel => exact ⟨B, D2, p3, c3, s2, rfl, rfl, Nat.le_refl _, hr5, hq3, hb5, hS2, by omega, by omega, HO⟩
          · obtain rfl : B = 0 := by omega
            rw [dig_zero] at *
            have hs3 : s2.size = D2.length := by rw [hS2.out, strOf_size, Txt_length]
            have hs5 : D2.length ≤ s2.size := by omega
            have hs6 : 4 ≤ s2.size := by rw [hs3, hD2.out]; omega
            have HS3 := Lib.hid hs3
            have HV := Lib.hid (show val 10 D2 = a by have := HO.out.2; rw [this]; simp)
            clear hs3
            go_wp2
            go_loop [8] (fun kv => ∃ (k : Nat), kv = .int .i64 k ∧ k < s2.size ∧ Hid (∀ j, D2.length - k ≤ j → dg D2 j = 0)) (fun kv => s2.size - (intOf kv).toNat)
            case atStart => exact ⟨0, rfl, by omega, fun j hj => dg_of_ge (by omega)⟩
            case round =>
              obtain ⟨k, rfl, hk, HZ⟩ := hrel
              have hkd : dg D2 (D2.length - 1 - k) < 10 := getD_lt (by omega) D2 HO.out.1 _
              have hgt := strOf_get (Txt D2) s2 hS2.out k hk (by rw [dg_Txt (by rw [← HS3.out]; exact hk)]; omega)
              rw [dg_Txt (by rw [← HS3.out]; exact hk)] at hgt
              by_cases hk1 : k + 1 < s2.size
              · by_cases hk2 : dg D2 (D2.length - 1 - k) = 0
                · rw [hk2] at hgt
                  have HN : Hid (∀ j, D2.length - (k + 1) ≤ j → dg D2 j = 0) := fun j hj => by
                    by_cases hjk : j = D2.length - 1 - k
                    · rw [hjk]; exact hk2
                    · exact HZ.out j (by omega)
                  clear hk2 hkd
                  go_wp2
                  go_round
                  case rel => exact ⟨k + 1, by go_num, hk1, HN⟩
                  case measure => simp [intOf]; omega
                · obtain ⟨v, hv⟩ : ∃ v, v = dg D2 (D2.length - 1 - k) + 48 := ⟨_, rfl⟩
                  rw [← hv] at hgt
                  have hv1 : 49 ≤ v := by omega
                  have hv2 : v ≤ 57 := by omega
                  have HD := Lib.hid (dec_strip D2 k HO.out.1 (by have := HS3.out; omega) HZ.out (.inr hk2))
                  rw [HV.out] at HD
                  clear hk2 hkd hv
                  go_wp2
                  go_ret
                  rw [← HD.out, ← strOf_drop, ← hS2.out]
                  exact ⟨rfl, hb5⟩
              · have HD := Lib.hid (dec_strip D2 k HO.out.1 (by have := HS3.out; omega) HZ.out (.inl (by have := HS3.out; omega)))
                rw [HV.out] at HD
                clear hgt hkd
                go_wp2
                go_ret
                rw [← HD.out, ← strOf_drop, ← hS2.out]
                exact ⟨rfl, hb5⟩
    · have hr0 : 1 ≤ r := by omega
      have e1 := dig_small (B := B16) B16_two hr0 (by unfold B16; omega)
      rw [e1] at hr4 hs4 ⊢
      simp only [List.length_singleton] at hs4
      have hc4 : w3.cell? (at_ p4 0) = some (.int .i64 (r : Nat)) := hr4.cells 0 (by simp)
      clear h0 e1
      go_wp2
      go_loopw [3, 6, 7] (fun sv dv iv wr2 => ∃ (i t : Nat) (D2 : List Nat) (s2 : ByteArray), iv = .int .i64 i ∧ dv = .int .i64 t ∧ sv = .string s2 ∧ i ≤ 4 ∧ t < 10000 ∧ Below w.heap.size w wr2 ∧ Hid (s2 = strOf (Txt D2)) ∧ Hid (D2.length = D.length + i) ∧ s2.size ≤ 160000000 + i ∧ Hid (GrpIn a D2 i t B) ∧ Rd wr2 .i64 p3 (dig B16 B))
        (fun _ _ iv _ => 4 - (intOf iv).toNat)
      case atStart => exact ⟨0, r, D, s, rfl, rfl, rfl, by omega, hrl, hb4, hS, rfl, by omega, HE, hr3⟩
      case round =>
        obtain ⟨i, t, D2, s2, rfl, rfl, rfl, hi, ht, hb5, hS2, hD2, hz2, HG, hr5⟩ := hrel
        by_cases h4 : i < 4
        · have HN := Lib.hid (HG.out.step h4)
          have hone : (strOf [48 + t % 10]).size ≤ 1 := by rw [strOf_size]; simp
          go_wp2_with (first
            | (refine wpl_build1 rfl _ _ rfl tyBytes _ ?_ rfl ?_; omega; intro p6 w6 ho6 hb6 hz6 hp6)
            | (refine wpl_str rfl _ _ _ (by rfl) uBytes uByte uString _ _ _ _ ho6.rd ?_ (by rfl) ?_; simp))
          go_roundw
          case measure => simp [intOf]; omega
          case rel =>
            refine ⟨i + 1, t / 10, D2 ++ [t % 10], _, by go_num, by go_num, rfl, by omega, by omega, hb5.trans (hb6.mono hb5.size), ?_, ?_, ?_, HN, hr5.past hb6⟩
            · show _ = strOf (Txt (D2 ++ [t % 10]))
              rw [← strOf_cons_txt D2 (t % 10) s2 hS2.out, Nat.add_comm]
            · show (D2 ++ [t % 10]).length = D.length + (i + 1)
              rw [List.length_append, List.length_singleton, hD2.out]; omega
            · rw [ByteArray.size_append, strOf_size]; simp; omega
        · obtain rfl : i = 4 := by omega
          have HO := Lib.hid HG.out.leave
          by_cases hB : 0 < B
          · have hlB : 1 ≤ (dig B16 B).length := List.length_pos_iff.2 ((dig_spec B16_two B).2.2.2 hB)
            have hsb := HO.out.size hB
            have hAB : B < A := by omega
            have hs3 : s2.size ≤ D2.length := by rw [hS2.out, strOf_size, Txt_length]; exact Nat.le_refl _
            go_wp2
            go_roundg B
            case measure => omega
            case rel => exact ⟨B, D2, p3, c3, s2, rfl, rfl, Nat.le_refl _, hr5, hq3, hb5, hS2, by omega, by omega, HO⟩
          · obtain rfl : B = 0 := by omega
            rw [dig_zero] at *
            have hs3 : s2.size = D2.length := by rw [hS2.out, strOf_size, Txt_length]
            have hs5 : D2.length ≤ s2.size := by omega
            have hs6 : 4 ≤ s2.size := by rw [hs3, hD2.out]; omega
            have HS3 := Lib.hid hs3
            have HV := Lib.hid (show val 10 D2 = a by have := HO.out.2; rw [this]; simp)
            clear hs3
            go_wp2
            go_loop [8] (fun kv => ∃ (k : Nat), kv = .int .i64 k ∧ k < s2.size ∧ Hid (∀ j, D2.length - k ≤ j → dg D2 j = 0)) (fun kv => s2.size - (intOf kv).toNat)
            case atStart => exact ⟨0, rfl, by omega, fun j hj => dg_of_ge (by omega)⟩
            case round =>
              obtain ⟨k, rfl, hk, HZ⟩ := hrel
              have hkd : dg D2 (D2.length - 1 - k) < 10 := getD_lt (by omega) D2 HO.out.1 _
              have hgt := strOf_get (Txt D2) s2 hS2.out k hk (by rw [dg_Txt (by rw [← HS3.out]; exact hk)]; omega)
              rw [dg_Txt (by rw [← HS3.out]; exact hk)] at hgt
              by_cases hk1 : k + 1 < s2.size
              · by_cases hk2 : dg D2 (D2.length - 1 - k) = 0
                · rw [hk2] at hgt
                  have HN : Hid (∀ j, D2.length - (k + 1) ≤ j → dg D2 j = 0) := fun j hj => by
                    by_cases hjk : j = D2.length - 1 - k
                    · rw [hjk]; exact hk2
                    · exact HZ.out j (by omega)
                  clear hk2 hkd
                  go_wp2
                  go_round
                  case rel => exact ⟨k + 1, by go_num, hk1, HN⟩
                  case measure => simp [intOf]; omega
                · obtain ⟨v, hv⟩ : ∃ v, v = dg D2 (D2.length - 1 - k) + 48 := ⟨_, rfl⟩
                  rw [← hv] at hgt
                  have hv1 : 49 ≤ v := by omega
                  have hv2 : v ≤ 57 := by omega
                  have HD := Lib.hid (dec_strip D2 k HO.out.1 (by have := HS3.out; omega) HZ.out (.inr hk2))
                  rw [HV.out] at HD
                  clear hk2 hkd hv
                  go_wp2
                  go_ret
                  rw [← HD.out, ← strOf_drop, ← hS2.out]
                  exact ⟨rfl, hb5⟩
              · have HD := Lib.hid (dec_strip D2 k HO.out.1 (by have := HS3.out; omega) HZ.out (.inl (by have := HS3.out; omega)))
                rw [HV.out] at HD
                clear hgt hkd
                go_wp2
                go_ret
                rw [← HD.out, ← strOf_drop, ← hS2.out]
                exact ⟨rfl, hb5⟩

end Go.Proofs.Ytococmfcaobmhaa
