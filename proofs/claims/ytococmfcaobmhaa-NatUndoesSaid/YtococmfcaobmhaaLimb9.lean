/- limb.Parse: the number of decimal digits. -/
import Derived.Test.YtococmfcaobmhaaLimb2
import Derived.Test.YtococmfcaobmhaaBase3
import Derived.Test.YtococmfcaobmhaaNum6
import Derived.Deep.LoopGhost
namespace Go.Proofs.Ytococmfcaobmhaa
open Go.RowKit Go.Slip

theorem vBytes : Try.prog.underlying 65 = some (.slice 5) := by kernel_rfl
theorem vByte : Try.prog.underlying 5 = some (.int .u8) := by kernel_rfl
theorem vString : Try.prog.underlying 9 = some .string := by kernel_rfl


set_option maxHeartbeats 2000000 in
set_option maxRecDepth 100000 in
theorem parse_any (s : ByteArray) (w : World) (hs : s.size ≤ 100000000) (hd : AllDig s) :
    Calls Try.prog 58 #[.string s] w (Gives w .u32 54 (dig B32 (numOf (bytesOf s)))) := by
  have HD := Lib.hid hd
  have HT := Lib.hid (bytesOf_length s)
  clear hd
  go_enter Try.func58, Try.ntmps58
  go_wp2
  go_loopg [0, 3] s.size (fun g sv av wr => ∃ (k : Nat) (t : Option Addr) (e : Nat) (a : Nat) (r : ByteArray), sv = .string r ∧ av = .slice t (dig B32 a).length e ∧ g + k = s.size ∧ r.size + k = s.size ∧ Hid (bytesOf r = (bytesOf s).drop k) ∧ Hid (a = numOf ((bytesOf s).take k)) ∧
      Own wr w.heap.size .u32 54 t e (dig B32 a) ∧ Below w.heap.size w wr)
  case atStart => exact ⟨0, none, 0, 0, s, rfl, by rw [dig_zero]; rfl, by omega, by omega, rfl, (show 0 = numOf (List.take 0 _) by simp [numOf]), by rw [dig_zero]; exact Own.nil _ _ _ _, Below.refl _ _⟩
  case round =>
    obtain ⟨k, t, e, a, r, rfl, rfl, hg, hk, HB, HA, hoq, hb⟩ := hrel
    have hal : (dig B32 a).length ≤ k := by
      rw [HA.out, dig_len_le B32_two]
      have h1 := numOf_lt ((bytesOf s).take k) (fun j hj => by rw [List.length_take, HT.out] at hj; rw [dg_take (by omega)]; exact (HD.out j (by omega)).2)
      rw [List.length_take, HT.out, Nat.min_eq_left (by omega)] at h1
      exact Nat.lt_of_lt_of_le h1 (Nat.pow_le_pow_left (by unfold B32; omega) k)
    by_cases hr0 : 0 < r.size
    · by_cases h9 : 9 ≤ r.size
      · skip
        have hcl : (r.extract 0 9).size = 9 := by rw [ByteArray.size_extract]; omega
        have hcb := Lib.hid (show bytesOf (r.extract 0 9) = ((bytesOf s).drop k).take 9 by rw [bytesOf_extract, List.drop_zero, HB.out])
        have hrb := Lib.hid (show bytesOf (r.extract 9 r.size) = (bytesOf s).drop (k + 9) by rw [bytesOf_extract, ← bytesOf_length r, List.take_length, HB.out, List.drop_drop])
        have hrs : (r.extract 9 r.size).size + 9 = r.size := by rw [ByteArray.size_extract]; omega
        have HN := Lib.hid (show numOf ((bytesOf s).take (k + 9)) = a * 10 ^ 9 + numOf (((bytesOf s).drop k).take 9) by rw [HA.out]; exact numOf_chunk _ _ _ (by rw [HT.out]; omega))
        have HC := Lib.hid (show ∀ j, j < 9 → 48 ≤ dg (((bytesOf s).drop k).take 9) j ∧ dg (((bytesOf s).drop k).take 9) j ≤ 57 from fun j hj => by
          rw [dg_take hj, dg_drop]; exact HD.out (k + j) (by omega))
        have HCL := Lib.hid (show (((bytesOf s).drop k).take 9).length = 9 by rw [List.length_take, List.length_drop, HT.out]; omega)
        generalize hch : ((bytesOf s).drop k).take 9 = ch at *
        obtain ⟨r2, hrn⟩ : ∃ r2, r2 = r.extract 9 r.size := ⟨_, rfl⟩
        rw [← hrn] at hrb hrs
        have HRE := Lib.hid hrn
        have hrl := Nat.le_of_eq hrs
        have hrl2 := Nat.le_of_eq hrs.symm
        clear hch hrn hrs
        go_wp2_with (refine wpl_bytes rfl _ _ _ (by rfl) vString vBytes vByte _ (by rfl) ?_; intro p2 c2 w2 hr2 hb2)
        try rw [hcl]
        first | rw [hcb.out] at hr2 | (have hcb2 := hcb.out; rw [show r.extract 0 r.size = r by simp] at hcb2; rw [hcb2] at hr2)
        have hs2 := hr2.solid
        rw [HCL.out] at hs2
        go_loop [5, 6, 22] (fun dv tv iv => ∃ (i d t : Nat), iv = .int .i64 i ∧ dv = .int .u64 d ∧ tv = .int .u64 t ∧ i ≤ 9 ∧ d < 1000000000 ∧ t ≤ 1000000000 ∧ Hid (d = numOf (ch.take i)) ∧ Hid (t = 10 ^ i)) (fun _ _ iv => 9 - (intOf iv).toNat)
        case atStart => exact ⟨0, 0, 1, rfl, rfl, rfl, Nat.zero_le _, by omega, by omega, (show 0 = numOf (List.take 0 _) by simp [numOf]), (show 1 = 10 ^ 0 from rfl)⟩
        case round =>
          obtain ⟨i, d, ten, rfl, rfl, rfl, hi, hd9, ht9, HD2, HT2⟩ := hrel
          by_cases hin : i < 9
          · have hc1 := hr2.cells i (by rw [HCL.out]; exact hin)
            obtain ⟨hv1, hv2⟩ := HC.out i hin
            obtain ⟨v, hv⟩ : ∃ v, dg ch i = v + 48 := ⟨dg ch i - 48, by omega⟩
            have HN2 : Hid (10 * d + v = numOf (ch.take (i + 1))) := by
              show _ = _
              rw [numOf_take_succ _ _ (by rw [HCL.out]; exact hin), ← HD2.out, hv]; omega
            have HT3 : Hid (10 * ten = 10 ^ (i + 1)) := by show _ = _; rw [HT2.out, Nat.pow_succ]; omega
            have hdb : 10 * d + v < 1000000000 := by
              rw [HN2.out]
              have h1 := numOf_lt (ch.take (i + 1)) (fun j hj => by rw [List.length_take, HCL.out] at hj; rw [dg_take (by omega)]; exact (HC.out j (by omega)).2)
              rw [List.length_take, HCL.out, Nat.min_eq_left (by omega)] at h1
              exact Nat.lt_of_lt_of_le h1 (Nat.pow_le_pow_right (by omega) (show i + 1 ≤ 9 by omega))
            have htb : 10 * ten ≤ 1000000000 := by
              rw [HT3.out]; exact Nat.pow_le_pow_right (show 0 < 10 by omega) (show i + 1 ≤ 9 by omega)
            rw [hv] at hc1
            have hv9 : v ≤ 9 := by omega
            clear hv hv1 hv2
            go_wp2
            go_round
            case rel => exact ⟨i + 1, 10 * d + v, 10 * ten, by go_num, by go_num, by go_num, hin, hdb, htb, HN2, HT3⟩
            case measure => simp [intOf]; omega
          · obtain rfl : i = 9 := by omega
            have HD3 := Lib.hid (show d = numOf ch by rw [HD2.out, List.take_of_length_le (by rw [HCL.out]; exact Nat.le_refl _)])
            have htp : 1 ≤ ten := by rw [HT2.out]; exact Nat.pow_pos (by omega)
            have HE := Lib.hid (show numOf ((bytesOf s).take (k + 9)) = a * ten + d by rw [HN.out, ← HT2.out, ← HD3.out])
            have H0 := Lib.hid (MaRel.start (dig_lt B32_two a) ten d)
            go_wp2
            go_loopw [5, 40] (fun dv iv w3 => ∃ (i d2 : Nat) (L : List Nat), iv = .int .i64 i ∧ dv = .int .u64 d2 ∧ d2 < 4294967296 ∧ i ≤ (dig B32 a).length ∧ Hid (L.length = (dig B32 a).length) ∧ Own w3 w.heap.size .u32 54 t e L ∧ Below w.heap.size w w3 ∧ Hid (MaRel L (dig B32 a) ten d i d2))
              (fun _ iv _ => (dig B32 a).length - (intOf iv).toNat)
            case atStart => exact ⟨0, d, _, rfl, rfl, by omega, Nat.zero_le _, rfl, hoq.past hb2, hb.trans (hb2.mono hb.size), H0⟩
            case round =>
              obtain ⟨i, d2, L, rfl, rfl, hd2, hi2, hL, hoL, hb3, HR⟩ := hrel
              have hsL := hoL.solid
              rw [hL.out] at hsL
              by_cases hin2 : i < (dig B32 a).length
              · have hc1 := hoL.rd.cells i (by rw [hL.out]; exact hin2)
                rw [HR.out.2.2.1 i (Nat.le_refl _)] at hc1
                have hxd := getD_lt (B := 4294967296) (by omega) _ (dig_lt B32_two a) i
                generalize hx : dg (dig B32 a) i = x at *
                have hpm := Nat.mul_le_mul (show x ≤ 4294967295 by omega) ht9
                obtain ⟨u, hu⟩ : ∃ u, u = x * ten + d2 := ⟨_, rfl⟩
                have hub : u < 18446744073709551616 := by omega
                have hub2 : u / 4294967296 < 4294967296 := by omega
                have HS := Lib.hid (HR.out.step hin2 u (by rw [hx]; exact hu))
                have eu : (x : Int) * (ten : Int) + (d2 : Int) = (u : Nat) := by rw [hu]; simp
                have em : (x : Int) * (ten : Int) < 18446744073709551616 := by
                  have : ((x * ten : Nat) : Int) = (x : Int) * (ten : Int) := by simp
                  rw [← this]; omega
                have em0 : 0 ≤ (x : Int) * (ten : Int) := by
                  have : ((x * ten : Nat) : Int) = (x : Int) * (ten : Int) := by simp
                  rw [← this]; omega
                clear hu hx hpm
                go_wp2_with (refine wpl_store rfl _ _ _ rfl 54 tyNat _ _ _ _ hoL i (by rw [hL.out]; exact hin2) _ ?_ rfl rfl ?_; omega; intro w5 ho5 hg5 hb5)
                have e6 : ((u : Int) % 4294967296).toNat = u % B32 := by unfold B32; omega
                rw [e6] at ho5
                go_roundw
                case rel => exact ⟨i + 1, u / B32, _, by go_num, (by unfold B32; go_num), (by unfold B32; exact hub2), hin2, (by show (List.set _ _ _).length = _; rw [List.length_set]; exact hL.out), ho5, hb3.trans hb5, HS⟩
                case measure => simp [intOf]; omega
              · obtain rfl : i = (dig B32 a).length := by omega
                by_cases hd0 : 0 < d2
                · have HF := Lib.hid (HR.out.done1 hd0 (by unfold B32; exact hd2))
                  go_wp2_with (first
                    | (refine wpl_build1 rfl _ _ rfl tyNat _ ?_ rfl ?_; omega; intro p6 w6 ho6 hb6 hz6 hp6)
                    | (at_builtin; refine wpl_append rfl _ _ _ rfl tyNat _ _ _ _ _ (hoL.past hb6) hL.out.symm _ _ _ _ ho6.rd rfl rfl rfl ?_ ?_ ?_; (rw [hL.out]; simp; omega); (have := hb6.size; have := hb3.size; omega); intro p7 c7 w7 ho7 hg7 hb7 hn7))
                  rw [Int.toNat_natCast] at ho7
                  have hb8 := hb3.trans ((hb6.mono hb3.size).trans hb7)
                  have hln := Lib.hid (show (L ++ [((d2 : Int)).toNat]).length = (dig B32 (a * ten + d)).length by rw [← HF.out]; simp)
                  rw [HF.out] at ho7
                  go_roundg (s.size - (k + 9))
                  case measure => omega
                  case rel => exact ⟨k + 9, p7, c7, a * ten + d, r2, (by rw [HRE.out]; try simp), (by rw [← HF.out]; simp), by omega, by omega, hrb, (show _ = _ from HE.out.symm), ho7, hb8⟩
                · obtain rfl : d2 = 0 := by omega
                  have HF := Lib.hid (HR.out.done0 htp)
                  have hF2 := hL.out
                  rw [HF.out] at hoL
                  go_wp2
                  go_roundg (s.size - (k + 9))
                  case measure => omega
                  case rel => exact ⟨k + 9, t, e, a * ten + d, r2, (by rw [HRE.out]; try simp), (by rw [← HF.out, hL.out]), by omega, by omega, hrb, (show _ = _ from HE.out.symm), hoL, hb3⟩
      · have h9' : r.size ≤ 8 := by omega
        clear h9
        have hcl : (r.extract 0 r.size).size = r.size := by rw [ByteArray.size_extract]; omega
        have hcb := Lib.hid (show bytesOf (r.extract 0 r.size) = ((bytesOf s).drop k).take r.size by rw [bytesOf_extract, List.drop_zero, HB.out])
        have hrb := Lib.hid (show bytesOf (r.extract r.size r.size) = (bytesOf s).drop (k + r.size) by rw [bytesOf_extract, ← bytesOf_length r, List.take_length, HB.out, List.drop_drop])
        have hrs : (r.extract r.size r.size).size + r.size = r.size := by rw [ByteArray.size_extract]; omega
        have HN := Lib.hid (show numOf ((bytesOf s).take (k + r.size)) = a * 10 ^ r.size + numOf (((bytesOf s).drop k).take r.size) by rw [HA.out]; exact numOf_chunk _ _ _ (by rw [HT.out]; omega))
        have HC := Lib.hid (show ∀ j, j < r.size → 48 ≤ dg (((bytesOf s).drop k).take r.size) j ∧ dg (((bytesOf s).drop k).take r.size) j ≤ 57 from fun j hj => by
          rw [dg_take hj, dg_drop]; exact HD.out (k + j) (by omega))
        have HCL := Lib.hid (show (((bytesOf s).drop k).take r.size).length = r.size by rw [List.length_take, List.length_drop, HT.out]; omega)
        generalize hch : ((bytesOf s).drop k).take r.size = ch at *
        obtain ⟨r2, hrn⟩ : ∃ r2, r2 = r.extract r.size r.size := ⟨_, rfl⟩
        rw [← hrn] at hrb hrs
        have HRE := Lib.hid hrn
        have hrl := Nat.le_of_eq hrs
        have hrl2 := Nat.le_of_eq hrs.symm
        clear hch hrn hrs
        go_wp2_with (refine wpl_bytes rfl _ _ _ (by rfl) vString vBytes vByte _ (by rfl) ?_; intro p2 c2 w2 hr2 hb2)
        try rw [hcl]
        first | rw [hcb.out] at hr2 | (have hcb2 := hcb.out; rw [show r.extract 0 r.size = r by simp] at hcb2; rw [hcb2] at hr2)
        have hs2 := hr2.solid
        rw [HCL.out] at hs2
        go_loop [5, 6, 22] (fun dv tv iv => ∃ (i d t : Nat), iv = .int .i64 i ∧ dv = .int .u64 d ∧ tv = .int .u64 t ∧ i ≤ r.size ∧ d < 1000000000 ∧ t ≤ 1000000000 ∧ Hid (d = numOf (ch.take i)) ∧ Hid (t = 10 ^ i)) (fun _ _ iv => r.size - (intOf iv).toNat)
        case atStart => exact ⟨0, 0, 1, rfl, rfl, rfl, Nat.zero_le _, by omega, by omega, (show 0 = numOf (List.take 0 _) by simp [numOf]), (show 1 = 10 ^ 0 from rfl)⟩
        case round =>
          obtain ⟨i, d, ten, rfl, rfl, rfl, hi, hd9, ht9, HD2, HT2⟩ := hrel
          by_cases hin : i < r.size
          · have hc1 := hr2.cells i (by rw [HCL.out]; exact hin)
            obtain ⟨hv1, hv2⟩ := HC.out i hin
            obtain ⟨v, hv⟩ : ∃ v, dg ch i = v + 48 := ⟨dg ch i - 48, by omega⟩
            have HN2 : Hid (10 * d + v = numOf (ch.take (i + 1))) := by
              show _ = _
              rw [numOf_take_succ _ _ (by rw [HCL.out]; exact hin), ← HD2.out, hv]; omega
            have HT3 : Hid (10 * ten = 10 ^ (i + 1)) := by show _ = _; rw [HT2.out, Nat.pow_succ]; omega
            have hdb : 10 * d + v < 1000000000 := by
              rw [HN2.out]
              have h1 := numOf_lt (ch.take (i + 1)) (fun j hj => by rw [List.length_take, HCL.out] at hj; rw [dg_take (by omega)]; exact (HC.out j (by omega)).2)
              rw [List.length_take, HCL.out, Nat.min_eq_left (by omega)] at h1
              exact Nat.lt_of_lt_of_le h1 (Nat.pow_le_pow_right (by omega) (show i + 1 ≤ 9 by omega))
            have htb : 10 * ten ≤ 1000000000 := by
              rw [HT3.out]; exact Nat.pow_le_pow_right (show 0 < 10 by omega) (show i + 1 ≤ 9 by omega)
            rw [hv] at hc1
            have hv9 : v ≤ 9 := by omega
            clear hv hv1 hv2
            go_wp2
            go_round
            case rel => exact ⟨i + 1, 10 * d + v, 10 * ten, by go_num, by go_num, by go_num, hin, hdb, htb, HN2, HT3⟩
            case measure => simp [intOf]; omega
          · obtain rfl : i = r.size := by omega
            have HD3 := Lib.hid (show d = numOf ch by rw [HD2.out, List.take_of_length_le (by rw [HCL.out]; exact Nat.le_refl _)])
            have htp : 1 ≤ ten := by rw [HT2.out]; exact Nat.pow_pos (by omega)
            have HE := Lib.hid (show numOf ((bytesOf s).take (k + r.size)) = a * ten + d by rw [HN.out, ← HT2.out, ← HD3.out])
            have H0 := Lib.hid (MaRel.start (dig_lt B32_two a) ten d)
            go_wp2
            go_loopw [5, 40] (fun dv iv w3 => ∃ (i d2 : Nat) (L : List Nat), iv = .int .i64 i ∧ dv = .int .u64 d2 ∧ d2 < 4294967296 ∧ i ≤ (dig B32 a).length ∧ Hid (L.length = (dig B32 a).length) ∧ Own w3 w.heap.size .u32 54 t e L ∧ Below w.heap.size w w3 ∧ Hid (MaRel L (dig B32 a) ten d i d2))
              (fun _ iv _ => (dig B32 a).length - (intOf iv).toNat)
            case atStart => exact ⟨0, d, _, rfl, rfl, by omega, Nat.zero_le _, rfl, hoq.past hb2, hb.trans (hb2.mono hb.size), H0⟩
            case round =>
              obtain ⟨i, d2, L, rfl, rfl, hd2, hi2, hL, hoL, hb3, HR⟩ := hrel
              have hsL := hoL.solid
              rw [hL.out] at hsL
              by_cases hin2 : i < (dig B32 a).length
              · have hc1 := hoL.rd.cells i (by rw [hL.out]; exact hin2)
                rw [HR.out.2.2.1 i (Nat.le_refl _)] at hc1
                have hxd := getD_lt (B := 4294967296) (by omega) _ (dig_lt B32_two a) i
                generalize hx : dg (dig B32 a) i = x at *
                have hpm := Nat.mul_le_mul (show x ≤ 4294967295 by omega) ht9
                obtain ⟨u, hu⟩ : ∃ u, u = x * ten + d2 := ⟨_, rfl⟩
                have hub : u < 18446744073709551616 := by omega
                have hub2 : u / 4294967296 < 4294967296 := by omega
                have HS := Lib.hid (HR.out.step hin2 u (by rw [hx]; exact hu))
                have eu : (x : Int) * (ten : Int) + (d2 : Int) = (u : Nat) := by rw [hu]; simp
                have em : (x : Int) * (ten : Int) < 18446744073709551616 := by
                  have : ((x * ten : Nat) : Int) = (x : Int) * (ten : Int) := by simp
                  rw [← this]; omega
                have em0 : 0 ≤ (x : Int) * (ten : Int) := by
                  have : ((x * ten : Nat) : Int) = (x : Int) * (ten : Int) := by simp
                  rw [← this]; omega
                clear hu hx hpm
                go_wp2_with (refine wpl_store rfl _ _ _ rfl 54 tyNat _ _ _ _ hoL i (by rw [hL.out]; exact hin2) _ ?_ rfl rfl ?_; omega; intro w5 ho5 hg5 hb5)
                have e6 : ((u : Int) % 4294967296).toNat = u % B32 := by unfold B32; omega
                rw [e6] at ho5
                go_roundw
                case rel => exact ⟨i + 1, u / B32, _, by go_num, (by unfold B32; go_num), (by unfold B32; exact hub2), hin2, (by show (List.set _ _ _).length = _; rw [List.length_set]; exact hL.out), ho5, hb3.trans hb5, HS⟩
                case measure => simp [intOf]; omega
              · obtain rfl : i = (dig B32 a).length := by omega
                by_cases hd0 : 0 < d2
                · have HF := Lib.hid (HR.out.done1 hd0 (by unfold B32; exact hd2))
                  go_wp2_with (first
                    | (refine wpl_build1 rfl _ _ rfl tyNat _ ?_ rfl ?_; omega; intro p6 w6 ho6 hb6 hz6 hp6)
                    | (at_builtin; refine wpl_append rfl _ _ _ rfl tyNat _ _ _ _ _ (hoL.past hb6) hL.out.symm _ _ _ _ ho6.rd rfl rfl rfl ?_ ?_ ?_; (rw [hL.out]; simp; omega); (have := hb6.size; have := hb3.size; omega); intro p7 c7 w7 ho7 hg7 hb7 hn7))
                  rw [Int.toNat_natCast] at ho7
                  have hb8 := hb3.trans ((hb6.mono hb3.size).trans hb7)
                  have hln := Lib.hid (show (L ++ [((d2 : Int)).toNat]).length = (dig B32 (a * ten + d)).length by rw [← HF.out]; simp)
                  rw [HF.out] at ho7
                  go_roundg (s.size - (k + r.size))
                  case measure => omega
                  case rel => exact ⟨k + r.size, p7, c7, a * ten + d, r2, (by rw [HRE.out]; try simp), (by rw [← HF.out]; simp), by omega, by omega, hrb, (show _ = _ from HE.out.symm), ho7, hb8⟩
                · obtain rfl : d2 = 0 := by omega
                  have HF := Lib.hid (HR.out.done0 htp)
                  have hF2 := hL.out
                  rw [HF.out] at hoL
                  go_wp2
                  go_roundg (s.size - (k + r.size))
                  case measure => omega
                  case rel => exact ⟨k + r.size, t, e, a * ten + d, r2, (by rw [HRE.out]; try simp), (by rw [← HF.out, hL.out]), by omega, by omega, hrb, (show _ = _ from HE.out.symm), hoL, hb3⟩
    · have hk1 : k = s.size := by omega
      have HE := Lib.hid (show a = numOf (bytesOf s) by rw [HA.out, List.take_of_length_le (by rw [HT.out]; omega)])
      clear hk1
      go_wp2
      go_ret
      rw [← HE.out]
      exact ⟨t, e, rfl, hoq, hb⟩

end Go.Proofs.Ytococmfcaobmhaa
