/- The references' sum. -/
import Derived.Test.YtlegnbigddhmlaaZRef2
import Derived.Test.YtlegnbigddhmlaaZA
import Derived.Deep.LoopGhost
namespace Go.Proofs.Ytlegnbigddhmlaa
open Go.RowKit Go.Slip


set_option maxHeartbeats 1000000 in
set_option maxRecDepth 100000 in
theorem refPlus_any (p q : Option Addr) (n m c d : Nat) (a b : Nat) (w : World) (hp : Rd w .i64 p (dig B16 a)) (hq : Rd w .i64 q (dig B16 b)) (hn : n = (dig B16 a).length) (hm : m = (dig B16 b).length)
    (hl : (dig B16 a).length + (dig B16 b).length ≤ 1000000000) :
    Calls Try.prog 15 #[.slice p n c, .slice q m d] w (GivesR w .i64 (dig B16 (a + b))) := by
  subst hn hm
  have HXL := Lib.hid (dig_lt B16_two a)
  have HYL := Lib.hid (dig_lt B16_two b)
  obtain ⟨xs, hxs⟩ : ∃ xs, xs = dig B16 a := ⟨_, rfl⟩
  obtain ⟨ys, hys⟩ : ∃ ys, ys = dig B16 b := ⟨_, rfl⟩
  rw [← hxs] at hp hl HXL ⊢
  rw [← hys] at hq hl HYL ⊢
  have HA := Lib.hid hxs
  have HB := Lib.hid hys
  clear hxs hys
  have hsx := hp.solid
  have hsy := hq.solid
  go_enter Try.func15, Try.ntmps15
  go_wp2
  go_loopg [5, 6, 7] (xs.length + ys.length + 2) (fun g ov cv iv wr => ∃ (i cr : Nat) (t : Option Addr) (e : Nat) (O : List Nat), iv = .int .i64 i ∧ cv = .int .i64 cr ∧ ov = .slice t O.length e ∧ g + i = xs.length + ys.length + 2 ∧ cr ≤ 1 ∧ i ≤ xs.length + ys.length + 1 ∧ Hid (O.length = i) ∧
      Own wr w.heap.size .i64 3 t e O ∧ Below w.heap.size w wr ∧ Hid (PlusRel O xs ys i cr))
  case atStart => exact ⟨0, 0, none, 0, [], rfl, rfl, rfl, rfl, by omega, by omega, rfl, Own.nil _ _ _ _, Below.refl _ _, PlusRel.start xs ys⟩
  case round =>
    obtain ⟨i, cr, t, e, O, rfl, rfl, rfl, hg, hcr, hi, hO, hoq, hb, HR⟩ := hrel
    have hpL := hp.past hb
    have hqL := hq.past hb
    have hxd := getD_lt (B := 65536) (by omega) xs HXL.out i
    have hyd := getD_lt (B := 65536) (by omega) ys HYL.out i
    have hi2 : 0 < i → cr = 1 → i ≤ xs.length ∨ i ≤ ys.length := fun h1 h2 => by have := HR.out.2.2.2.2; omega
    by_cases h1 : i < xs.length
    · have hc1 := hpL.cells i h1
      have HS := HR.out.step hxd hyd (.inl h1)
      by_cases h2 : i < ys.length
      · have hc2 := hqL.cells i h2
        have HS := Lib.hid HS
        clear hi2
        go_wp2_with (first
          | (refine wpl_build1 rfl _ _ rfl tyN _ ?_ rfl ?_; omega; intro p2 w2 ho2 hb2 hz2 hp2)
          | (at_builtin; refine wpl_append rfl _ _ _ rfl tyN _ _ _ _ _ (hoq.past hb2) rfl _ _ _ _ ho2.rd rfl rfl rfl ?_ ?_ ?_; (have := hO.out; simp; omega); (have := hb2.size; have := hb.size; omega); intro p3 c3 w3 ho3 hg3 hb3 hn3))
        have hb4 := hb.trans ((hb2.mono hb.size).trans hb3)
        have e4 : (((cr : Int) + dg xs i + dg ys i : Int) % 65536).toNat = (cr + dg xs i + dg ys i) % B16 := by unfold B16; omega
        rw [e4] at ho3
        go_roundg (xs.length + ys.length + 1 - i)
        case measure => omega
        case rel => exact ⟨i + 1, (cr + dg xs i + dg ys i) / B16, p3, c3, _, by go_num, (by unfold B16; go_num), by simp, by omega, HS.out.2.2.1, by omega, (by show (O ++ _).length = i + 1; have := hO.out; simp; omega), ho3, hb4, HS⟩
      · have ez : dg ys i = 0 := dg_of_ge (by omega)
        rw [ez] at HS
        have HS := Lib.hid HS
        clear ez hyd hi2
        go_wp2_with (first
          | (refine wpl_build1 rfl _ _ rfl tyN _ ?_ rfl ?_; omega; intro p2 w2 ho2 hb2 hz2 hp2)
          | (at_builtin; refine wpl_append rfl _ _ _ rfl tyN _ _ _ _ _ (hoq.past hb2) rfl _ _ _ _ ho2.rd rfl rfl rfl ?_ ?_ ?_; (have := hO.out; simp; omega); (have := hb2.size; have := hb.size; omega); intro p3 c3 w3 ho3 hg3 hb3 hn3))
        have hb4 := hb.trans ((hb2.mono hb.size).trans hb3)
        have e4 : (((cr : Int) + dg xs i : Int) % 65536).toNat = (cr + dg xs i + 0) % B16 := by unfold B16; omega
        rw [e4] at ho3
        go_roundg (xs.length + ys.length + 1 - i)
        case measure => omega
        case rel => exact ⟨i + 1, (cr + dg xs i + 0) / B16, p3, c3, _, by go_num, (by unfold B16; go_num), by simp, by omega, HS.out.2.2.1, by omega, (by show (O ++ _).length = i + 1; have := hO.out; simp; omega), ho3, hb4, HS⟩
    · have ex : dg xs i = 0 := dg_of_ge (by omega)
      by_cases h2 : i < ys.length
      · have hc2 := hqL.cells i h2
        have HS := HR.out.step hxd hyd (.inr (.inl h2))
        rw [ex] at HS
        have HS := Lib.hid HS
        clear ex hxd hi2
        go_wp2_with (first
          | (refine wpl_build1 rfl _ _ rfl tyN _ ?_ rfl ?_; omega; intro p2 w2 ho2 hb2 hz2 hp2)
          | (at_builtin; refine wpl_append rfl _ _ _ rfl tyN _ _ _ _ _ (hoq.past hb2) rfl _ _ _ _ ho2.rd rfl rfl rfl ?_ ?_ ?_; (have := hO.out; simp; omega); (have := hb2.size; have := hb.size; omega); intro p3 c3 w3 ho3 hg3 hb3 hn3))
        have hb4 := hb.trans ((hb2.mono hb.size).trans hb3)
        have e4 : (((cr : Int) + dg ys i : Int) % 65536).toNat = (cr + 0 + dg ys i) % B16 := by unfold B16; omega
        rw [e4] at ho3
        go_roundg (xs.length + ys.length + 1 - i)
        case measure => omega
        case rel => exact ⟨i + 1, (cr + 0 + dg ys i) / B16, p3, c3, _, by go_num, (by unfold B16; go_num), by simp, by omega, HS.out.2.2.1, by omega, (by show (O ++ _).length = i + 1; have := hO.out; simp; omega), ho3, hb4, HS⟩
      · have ey : dg ys i = 0 := dg_of_ge (by omega)
        by_cases h3 : 0 < cr
        · have HS := HR.out.step hxd hyd (.inr (.inr h3))
          rw [ex, ey] at HS
          have HS := Lib.hid HS
          have hi3 : i ≤ xs.length + ys.length := by
            by_cases h0 : 0 < i
            · have := hi2 h0 (by omega); omega
            · omega
          clear ex ey hxd hyd hi2
          go_wp2_with (first
            | (refine wpl_build1 rfl _ _ rfl tyN _ ?_ rfl ?_; omega; intro p2 w2 ho2 hb2 hz2 hp2)
            | (at_builtin; refine wpl_append rfl _ _ _ rfl tyN _ _ _ _ _ (hoq.past hb2) rfl _ _ _ _ ho2.rd rfl rfl rfl ?_ ?_ ?_; (have := hO.out; simp; omega); (have := hb2.size; have := hb.size; omega); intro p3 c3 w3 ho3 hg3 hb3 hn3))
          have hb4 := hb.trans ((hb2.mono hb.size).trans hb3)
          have e4 : (((cr : Int) : Int) % 65536).toNat = (cr + 0 + 0) % B16 := by unfold B16; omega
          rw [e4] at ho3
          go_roundg (xs.length + ys.length + 1 - i)
          case measure => omega
          case rel => exact ⟨i + 1, (cr + 0 + 0) / B16, p3, c3, _, by go_num, (by unfold B16; go_num), by simp, by omega, HS.out.2.2.1, by omega, (by show (O ++ _).length = i + 1; have := hO.out; simp; omega), ho3, hb4, HS⟩
        · obtain rfl : cr = 0 := by omega
          have HD := Lib.hid (HR.out.done (by omega) (by omega) HA.out HB.out)
          clear ex ey hxd hyd hi2
          go_wp2
          go_ret
          exact givesR_of HD.out rfl hoq hb

end Go.Proofs.Ytlegnbigddhmlaa
