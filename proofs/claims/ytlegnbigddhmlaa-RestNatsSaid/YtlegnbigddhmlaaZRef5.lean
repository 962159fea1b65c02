/- The references' difference. -/
import Derived.Test.YtlegnbigddhmlaaZRef4
import Derived.Test.YtlegnbigddhmlaaZA
namespace Go.Proofs.Ytlegnbigddhmlaa
open Go.RowKit Go.Slip


set_option maxHeartbeats 1000000 in
set_option maxRecDepth 100000 in
theorem refLess_any (p q : Option Addr) (n m c d : Nat) (a b : Nat) (w : World) (hp : Rd w .i64 p (dig B16 a)) (hq : Rd w .i64 q (dig B16 b)) (hn : n = (dig B16 a).length) (hm : m = (dig B16 b).length)
    (hl : (dig B16 a).length ≤ 1000000000) (hab : b ≤ a) :
    Calls Try.prog 37 #[.slice p n c, .slice q m d] w (GivesR w .i64 (dig B16 (a - b))) := by
  subst hn hm
  have hge := dig_len_mono B16_two hab
  have HXL := Lib.hid (dig_lt B16_two a)
  have HYL := Lib.hid (dig_lt B16_two b)
  have HA := Lib.hid (val_dig B16_two a)
  have HB := Lib.hid (val_dig B16_two b)
  generalize dig B16 a = xs at *
  generalize dig B16 b = ys at *
  have hsx := hp.solid
  have hsy := hq.solid
  go_enter Try.func37, Try.ntmps37
  go_wp2
  go_loopg [5, 6, 7] (xs.length) (fun g ov cv iv wr => ∃ (i cr : Nat) (t : Option Addr) (e : Nat) (O : List Nat), iv = .int .i64 i ∧ cv = .int .i64 cr ∧ ov = .slice t O.length e ∧ g + i = xs.length ∧ cr ≤ 1 ∧ i ≤ xs.length ∧ Hid (O.length = i) ∧
      Own wr w.heap.size .i64 3 t e O ∧ Below w.heap.size w wr ∧ Hid (LessRel O xs ys i cr))
  case atStart => exact ⟨0, 0, none, 0, [], rfl, rfl, rfl, by omega, by omega, by omega, rfl, Own.nil _ _ _ _, Below.refl _ _, LessRel.start xs ys⟩
  case round =>
    obtain ⟨i, cr, t, e, O, rfl, rfl, rfl, hg, hcr, hi, hO, hoq, hb, HR⟩ := hrel
    have hpL := hp.past hb
    have hqL := hq.past hb
    have hxd := getD_lt (B := 65536) (by omega) xs HXL.out i
    have hyd := getD_lt (B := 65536) (by omega) ys HYL.out i
    by_cases h1 : i < xs.length
    · have hc1 := hpL.cells i h1
      by_cases h2 : i < ys.length
      · have hc2 := hqL.cells i h2
        by_cases h3 : dg xs i < dg ys i + cr
        · have HS := Lib.hid (HR.out.step (dg xs i + 65536 - dg ys i - cr) 1 (by unfold B16; omega) (by omega) (by unfold B16; omega))
          go_wp2_with (first
            | (refine wpl_build1 rfl _ _ rfl tyN _ ?_ rfl ?_; omega; intro p2 w2 ho2 hb2 hz2 hp2)
            | (at_builtin; refine wpl_append rfl _ _ _ rfl tyN _ _ _ _ _ (hoq.past hb2) rfl _ _ _ _ ho2.rd rfl rfl rfl ?_ ?_ ?_; (have := hO.out; simp; omega); (have := hb2.size; have := hb.size; omega); intro p3 c3 w3 ho3 hg3 hb3 hn3))
          have hb4 := hb.trans ((hb2.mono hb.size).trans hb3)
          have e4 : ((dg xs i : Int) - cr - dg ys i + 65536).toNat = dg xs i + 65536 - dg ys i - cr := by omega
          rw [e4] at ho3
          go_roundg (xs.length - 1 - i)
          case measure => omega
          case rel => exact ⟨i + 1, 1, p3, c3, _, by go_num, rfl, by simp, by omega, by omega, by omega, (by show (O ++ _).length = i + 1; have := hO.out; simp; omega), ho3, hb4, HS⟩
        · have HS := Lib.hid (HR.out.step (dg xs i - dg ys i - cr) 0 (by unfold B16; omega) (by omega) (by unfold B16; omega))
          go_wp2_with (first
            | (refine wpl_build1 rfl _ _ rfl tyN _ ?_ rfl ?_; omega; intro p2 w2 ho2 hb2 hz2 hp2)
            | (at_builtin; refine wpl_append rfl _ _ _ rfl tyN _ _ _ _ _ (hoq.past hb2) rfl _ _ _ _ ho2.rd rfl rfl rfl ?_ ?_ ?_; (have := hO.out; simp; omega); (have := hb2.size; have := hb.size; omega); intro p3 c3 w3 ho3 hg3 hb3 hn3))
          have hb4 := hb.trans ((hb2.mono hb.size).trans hb3)
          have e4 : ((dg xs i : Int) - cr - dg ys i).toNat = dg xs i - dg ys i - cr := by omega
          rw [e4] at ho3
          go_roundg (xs.length - 1 - i)
          case measure => omega
          case rel => exact ⟨i + 1, 0, p3, c3, _, by go_num, rfl, by simp, by omega, by omega, by omega, (by show (O ++ _).length = i + 1; have := hO.out; simp; omega), ho3, hb4, HS⟩
      · have ez : dg ys i = 0 := dg_of_ge (by omega)
        by_cases h3 : dg xs i < cr
        · have HS := Lib.hid (HR.out.step (dg xs i + 65536 - cr) 1 (by unfold B16; omega) (by omega) (by unfold B16; omega))
          clear ez hyd
          go_wp2_with (first
            | (refine wpl_build1 rfl _ _ rfl tyN _ ?_ rfl ?_; omega; intro p2 w2 ho2 hb2 hz2 hp2)
            | (at_builtin; refine wpl_append rfl _ _ _ rfl tyN _ _ _ _ _ (hoq.past hb2) rfl _ _ _ _ ho2.rd rfl rfl rfl ?_ ?_ ?_; (have := hO.out; simp; omega); (have := hb2.size; have := hb.size; omega); intro p3 c3 w3 ho3 hg3 hb3 hn3))
          have hb4 := hb.trans ((hb2.mono hb.size).trans hb3)
          have e4 : ((dg xs i : Int) - cr + 65536).toNat = dg xs i + 65536 - cr := by omega
          rw [e4] at ho3
          go_roundg (xs.length - 1 - i)
          case measure => omega
          case rel => exact ⟨i + 1, 1, p3, c3, _, by go_num, rfl, by simp, by omega, by omega, by omega, (by show (O ++ _).length = i + 1; have := hO.out; simp; omega), ho3, hb4, HS⟩
        · have HS := Lib.hid (HR.out.step (dg xs i - cr) 0 (by unfold B16; omega) (by omega) (by unfold B16; omega))
          clear ez hyd
          go_wp2_with (first
            | (refine wpl_build1 rfl _ _ rfl tyN _ ?_ rfl ?_; omega; intro p2 w2 ho2 hb2 hz2 hp2)
            | (at_builtin; refine wpl_append rfl _ _ _ rfl tyN _ _ _ _ _ (hoq.past hb2) rfl _ _ _ _ ho2.rd rfl rfl rfl ?_ ?_ ?_; (have := hO.out; simp; omega); (have := hb2.size; have := hb.size; omega); intro p3 c3 w3 ho3 hg3 hb3 hn3))
          have hb4 := hb.trans ((hb2.mono hb.size).trans hb3)
          have e4 : ((dg xs i : Int) - cr).toNat = dg xs i - cr := by omega
          rw [e4] at ho3
          go_roundg (xs.length - 1 - i)
          case measure => omega
          case rel => exact ⟨i + 1, 0, p3, c3, _, by go_num, rfl, by simp, by omega, by omega, by omega, (by show (O ++ _).length = i + 1; have := hO.out; simp; omega), ho3, hb4, HS⟩
    · obtain rfl : i = xs.length := by omega
      have HD := Lib.hid (HR.out.done HA.out HB.out hge hab)
      go_wp2_with (go_at_call 33; refine (refTrim_any _ _ _ O _ hoq.rd rfl hoq.le_cap HR.out.1 (by rw [hO.out]; omega)).mono ?_; rintro e w3 ⟨rfl, rfl⟩)
      go_ret
      have ht := take_dig_len B16_two O HR.out.1
      have ho2 := hoq.take (dig B16 (val B16 O)).length
      rw [ht, HD.out] at ho2
      rw [HD.out]
      exact ⟨t, _, rfl, ho2.rd, Nat.le_refl _, own_blk ho2, hb⟩

end Go.Proofs.Ytlegnbigddhmlaa
