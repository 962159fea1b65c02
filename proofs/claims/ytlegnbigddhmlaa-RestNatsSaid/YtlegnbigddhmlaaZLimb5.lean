/- slices.Reverse of bytes, limb.Decimal: decimal digits. -/
import Derived.Test.YtlegnbigddhmlaaZC
import Derived.Deep.LoopGhost
namespace Go.Proofs.Ytlegnbigddhmlaa
open Go.RowKit Go.Slip

set_option maxHeartbeats 1000000 in
set_option maxRecDepth 100000 in
theorem reverse_any (base : Nat) (p : Option Addr) (n c : Nat) (xs : List Nat) (w : World) (ho : Own w base .u8 5 p c xs) (hn : n = xs.length) (hl : xs.length ≤ 4000000000) (h0 : 0 < xs.length) :
    Calls Try.prog 50 #[.slice p n c] w fun e w' => e = .returned (.tuple #[]) ∧ Own w' base .u8 5 p c xs.reverse ∧ Below base w w' := by
  subst hn
  have HR0 := Lib.hid (RevRel.start xs h0)
  have hsx := ho.solid
  have hbk := ho.blk_lt (hsx h0).1
  go_enter Try.func50, Try.ntmps50
  go_wp2
  go_loopw [2, 3] (fun iv jv wr => ∃ (i j : Nat) (L : List Nat), iv = .int .i64 i ∧ jv = .int .i64 j ∧ i ≤ xs.length ∧ j < xs.length ∧ Own wr base .u8 5 p c L ∧ Below base w wr ∧ Hid (RevRel L xs i j))
    (fun iv _ _ => xs.length - (intOf iv).toNat)
  case atStart => exact ⟨0, xs.length - 1, xs, rfl, by go_num, Nat.zero_le _, by omega, ho, Below.refl _ _, HR0⟩
  case round =>
    obtain ⟨i, j, L, rfl, rfl, hi, hj, hoL, hbL, HR⟩ := hrel
    by_cases hij : i < j
    · have hLl := Lib.hid HR.out.1
      have ci := hoL.rd.cells i (by rw [hLl.out]; omega)
      have cj := hoL.rd.cells j (by rw [hLl.out]; omega)
      have fi := frozen_own hoL i (by rw [hLl.out]; omega)
      have s1 := stored_own hoL i (by rw [hLl.out]; omega) (dg L j)
      have fj := frozen_own s1.1 j (by rw [List.length_set, hLl.out]; omega)
      have cj2 := s1.1.rd.cells j (by rw [List.length_set, hLl.out]; omega)
      rw [dg_set_ne (by omega)] at cj2
      have s2 := stored_own s1.1 j (by rw [List.length_set, hLl.out]; omega) (dg L i)
      have HS := Lib.hid (HR.out.step hij)
      have i1 : (i : Int) < (xs.length : Int) := by omega
      have j1 : (j : Int) < (xs.length : Int) := by omega
      have i0 : (0 : Int) ≤ (i : Int) := by omega
      have j0 : (0 : Int) ≤ (j : Int) := by omega
      have hb3 : Below base w ((wr.setCell (at_ p i) (.int .u8 (dg L j : Nat))).setCell (at_ p j) (.int .u8 (dg L i : Nat))) :=
        (hbL.setCell (by exact s1.2.2) _).setCell (by exact s1.2.2) _
      have S2 := Lib.hid s2
      have HB := Lib.hid hb3
      clear s1 s2 hb3
      go_wp2_with fail
      go_region
      have ho3 := S2.out.1.drew
      have hb3 := HB.out.drew
      clear ci cj fi fj cj2 S2 HB
      generalize ((wr.setCell (at_ p i) (.int .u8 (dg L j : Nat))).setCell (at_ p j) (.int .u8 (dg L i : Nat))).drew = w3 at ho3 hb3 ⊢
      go_wp2
      go_roundw
      case rel => exact ⟨i + 1, j - 1, _, by go_num, by go_num, by omega, by omega, ho3, hb3, HS⟩
      case measure => first | (simp [intOf]; done) | (simp [intOf]; omega)
    · have HD := Lib.hid (HR.out.done hij)
      go_wp2
      go_end0
      exact ⟨rfl, HD.out ▸ hoL, hbL⟩


theorem underBytes : Try.prog.underlying 72 = some (.slice 5) := by kernel_rfl
theorem underByte : Try.prog.underlying 5 = some (.int .u8) := by kernel_rfl
theorem underString : Try.prog.underlying 9 = some .string := by kernel_rfl

set_option maxHeartbeats 1000000 in
set_option maxRecDepth 100000 in
theorem decimal_any (p : Option Addr) (n c : Nat) (N : Nat) (w : World) (hp : Rd w .u32 p (dig B32 N)) (hn : n = (dig B32 N).length) (hl : (dig B32 N).length ≤ 100000000) :
    Calls Try.prog 38 #[.slice p n c] w fun e w' => e = .returned (.string (strOf (decOf N))) ∧ Below w.heap.size w w' := by
  subst hn
  go_enter Try.func38, Try.ntmps38
  go_wp2
  go_loopg [0, 3] N (fun a av ov wr => ∃ (p q : Option Addr) (c d : Nat) (D : List Nat), av = .slice p (dig B32 a).length c ∧ ov = .slice q D.length d ∧ (dig B32 a).length ≤ (dig B32 N).length ∧ Rd wr .u32 p (dig B32 a) ∧
      Own wr w.heap.size .u8 5 q d (D.map (· + 48)) ∧ Below w.heap.size w wr ∧ Hid (DecOut N D a))
  case atStart => exact ⟨p, none, c, 0, [], rfl, rfl, Nat.le_refl _, hp, Own.nil _ _ _ _, Below.refl _ _, DecOut.start N⟩
  case round =>
    obtain ⟨p, q, c, d, D, rfl, rfl, hla, hpa, hoq, hb, HR⟩ := hrel
    by_cases h0 : 0 < (dig B32 gk).length
    · have hpos : 0 < gk := by
        rcases Nat.eq_zero_or_pos gk with h | h
        · subst h; rw [dig_zero] at h0; simp at h0
        · exact h
      have HI := Lib.hid (HR.out.enter hpos)
      have hdiv := Nat.div_lt_self hpos (show 1 < 1000000000 by omega)
      have hlen := dig_len_mono B32_two (Nat.le_of_lt hdiv)
      have hmod := Nat.mod_lt gk (show 0 < 1000000000 by omega)
      go_wp2_with (go_at_call 43; refine (small_any p _ c gk 1000000000 _ hpa rfl (by omega) (by omega) (by omega)).mono ?_; rintro e w1 ⟨p1, c1, rfl, ho1, hb1⟩)
      have hoq1 := hoq.past hb1
      have hb2 := hb.trans (hb1.mono hb.size)
      have hr1 := ho1.rd
      have hap : Apart q p1 (dig B32 (gk / 1000000000)) := fun h1 h2 => by
        have e1 := (hoq.blk_lt h2).2
        have e2 := (ho1.blk_lt (hr1.solid h1).1).1
        omega
      clear hoq hb hpa hb1 hpos h0 ho1
      generalize gk / 1000000000 = a1 at *
      obtain ⟨wo, rfl⟩ : ∃ wo : World, wo = wr := ⟨_, rfl⟩
      clear HR
      have hlenN : (dig B32 a1).length ≤ (dig B32 N).length := by omega
      clear hlen hla
      go_loopg [3, 4, 5] 9 (fun g ov rv iv wr => ∃ (i r : Nat) (q : Option Addr) (d : Nat) (D : List Nat), iv = .int .i64 i ∧ rv = .int .u32 r ∧ ov = .slice q D.length d ∧ g + i = 9 ∧ r < 4294967296 ∧ Rd wr .u32 p1 (dig B32 a1) ∧ Apart q p1 (dig B32 a1) ∧
        Own wr w.heap.size .u8 5 q d (D.map (· + 48)) ∧ Below w.heap.size w wr ∧ Hid (DecIn N D i r a1))
      case atStart => exact ⟨0, gk % 1000000000, q, d, D, rfl, rfl, rfl, rfl, by omega, hr1, hap, hoq1, hb2, HI⟩
      case round =>
        obtain ⟨i, r, q, d, D, rfl, rfl, rfl, hgi, hr, hp1, hap, hoq, hb, HI⟩ := hrel
        have ha : 0 < (dig B32 a1).length ↔ 0 < a1 := by have := dig_len_zero B32_two a1; omega
        by_cases hi9 : i < 9
        · by_cases hc : 0 < r ∨ 0 < a1
          · have HS := Lib.hid (HI.out.step hi9 hc)
            have hsz := HI.out.size hc
            have HP := Lib.hid hap
            clear hap
            by_cases hr0 : 0 < r
            · clear hc ha
              go_wp2_with (first
                | (refine wpl_build1 rfl _ _ rfl tyBytes _ ?_ rfl ?_; omega; intro p2 w2 ho2 hb2 hz2 hp2)
                | (at_builtin; refine wpl_append rfl _ _ _ rfl tyBytes _ _ _ _ _ (hoq.past hb2) (by simp) _ _ _ _ ho2.rd rfl rfl rfl ?_ ?_ ?_; (simp; omega); (have := hb2.size; have := hb.size; omega); intro p3 c3 w3 ho3 hg3 hb3 hn3))
              have hb4 := hb.trans ((hb2.mono hb.size).trans hb3)
              have e4 : D.map (· + 48) ++ [((48 : Int) + (r : Int) % 10).toNat] = (D ++ [r % 10]).map (· + 48) := by
                rw [List.map_append, show ((48 : Int) + (r : Int) % 10).toNat = r % 10 + 48 by omega]; rfl
              rw [e4] at ho3
              have hp3 := (hp1.past hb2).appended hg3 HP.out
              have hap3 := HP.out.next (hp1.past hb2) hn3.2
              go_roundg (gk - 1)
              case measure => omega
              case rel => exact ⟨i + 1, r / 10, p3, c3, D ++ [r % 10], by go_num, by go_num, by simp, by omega, by omega, hp3, hap3, ho3, hb4, HS⟩
            · obtain rfl : r = 0 := by omega
              have ha1 : 0 < (dig B32 a1).length := ha.2 (by omega)
              clear hc ha hr0
              go_wp2_with (first
                | (refine wpl_build1 rfl _ _ rfl tyBytes _ ?_ rfl ?_; omega; intro p2 w2 ho2 hb2 hz2 hp2)
                | (at_builtin; refine wpl_append rfl _ _ _ rfl tyBytes _ _ _ _ _ (hoq.past hb2) (by simp) _ _ _ _ ho2.rd rfl rfl rfl ?_ ?_ ?_; (simp; omega); (have := hb2.size; have := hb.size; omega); intro p3 c3 w3 ho3 hg3 hb3 hn3))
              have hb4 := hb.trans ((hb2.mono hb.size).trans hb3)
              have e4 : D.map (· + 48) ++ [(48 : Int).toNat] = (D ++ [0 % 10]).map (· + 48) := by
                rw [List.map_append]; rfl
              rw [e4] at ho3
              have hp3 := (hp1.past hb2).appended hg3 HP.out
              have hap3 := HP.out.next (hp1.past hb2) hn3.2
              go_roundg (gk - 1)
              case measure => omega
              case rel => exact ⟨i + 1, 0 / 10, p3, c3, D ++ [0 % 10], by go_num, by go_num, by simp, by omega, by omega, hp3, hap3, ho3, hb4, HS⟩
          · have HL := Lib.hid (HI.out.leave (by omega) (fun h => hc h.2))
            obtain rfl : r = 0 := by omega
            obtain rfl : a1 = 0 := by omega
            rw [dig_zero] at *
            clear hc ha
            go_wp2
            go_roundg 0
            case measure => exact hdiv
            case rel => exact ⟨p1, q, c1, d, D, by rw [dig_zero]; rfl, rfl, by rw [dig_zero]; simp, by rw [dig_zero]; exact hp1, hoq, hb, HL⟩
        · have HL := Lib.hid (HI.out.leave (by omega) (fun h => hi9 h.1))
          clear ha
          go_wp2
          go_roundg a1
          case measure => exact hdiv
          case rel => exact ⟨p1, q, _, d, D, rfl, rfl, hlenN, hp1, hoq, hb, HL⟩
    · obtain rfl : gk = 0 := (dig_len_zero B32_two gk).1 (by omega)
      rw [dig_zero] at hpa
      have HD := Lib.hid HR.out.done
      by_cases hD : D.length = 0
      · have hN : Hid (N = 0) := by
          have h1 := HD.out
          rw [List.eq_nil_of_length_eq_zero hD] at h1
          exact (dig_eq_nil (by omega) N).1 h1.symm
        rw [hD]
        clear h0 hla
        rw [dig_zero]
        go_wp2
        go_ret
        refine ⟨?_, hb⟩
        rw [hN.out]
        rfl
      · have hN : Hid (decOf N = (D.map (· + 48)).reverse) := by
          show decOf N = _
          unfold decOf
          rw [if_neg, HD.out, List.map_reverse]
          intro e
          rw [e, dig_zero] at HD
          exact hD (by rw [HD.out]; rfl)
        have hDl : D.length ≤ 32 * (dig B32 N).length := by
          have := dec_size N
          rwa [← HD.out] at this
        have hD1 : 0 < D.length := by omega
        have hD2 : ((D.length : Int) == 0) = false := beq_eq_false_iff_ne.2 (by omega)
        clear h0 hla hD
        rw [dig_zero]
        go_wp2_with (first
          | (go_at_call 50; refine (reverse_any w.heap.size q _ d _ _ hoq (by simp) (by simp; omega) (by simp; omega)).mono ?_; rintro e w3 ⟨rfl, ho3, hb3⟩)
          | (refine wpl_str rfl _ _ _ (by rfl) underBytes underByte underString _ _ _ _ ho3.rd ?_ (by rfl) ?_; simp))
        go_ret
        exact ⟨by rw [hN.out]; rfl, hb.trans hb3⟩

end Go.Proofs.Ytlegnbigddhmlaa
