/- limb.Sub. -/
import Derived.Test.YtehodhanojgkgaaDoorZLimb6
namespace Go.Proofs.YtehodhanojgkgaaDoor
open Go.RowKit Go.Slip

set_option maxHeartbeats 1000000 in
set_option maxRecDepth 100000 in
theorem sub_any (p q : Option Addr) (n m c d : Nat) (a b : Nat) (w : World) (hp : Rd w .u32 p (dig B32 a)) (hq : Rd w .u32 q (dig B32 b)) (hn : n = (dig B32 a).length) (hm : m = (dig B32 b).length)
    (hl : (dig B32 a).length ≤ 1000000000) (hab : b ≤ a) :
    Calls Tryd.prog 97 #[.slice p n c, .slice q m d] w (Gives w .u32 58 (dig B32 (a - b))) := by
  subst hn hm
  have hge := dig_len_mono B32_two hab
  have H0 := Lib.hid (SubRel.start a (dig B32 b))
  have HY := Lib.hid (dig_lt B32_two b)
  have HV := Lib.hid (val_dig B32_two b)
  obtain ⟨xs, hxs⟩ : ∃ xs, xs = dig B32 a := ⟨_, rfl⟩
  rw [← hxs] at hp hl hge H0 ⊢
  clear hxs
  generalize dig B32 b = ys at *
  go_enter Tryd.func97, Tryd.ntmps97
  go_wp2_with (go_at_call 91; refine (clone_any _ _ _ xs _ hp rfl hl).mono ?_; rintro e w1 ⟨p1, c1, rfl, ho1, hb1⟩)
  go_loopw [6, 13] (fun cv iv wr => ∃ (i cr : Nat) (L : List Nat), iv = .int .i64 i ∧ cv = .int .u32 cr ∧ i ≤ xs.length ∧ cr ≤ 1 ∧ L.length = xs.length ∧ Own wr w.heap.size .u32 58 p1 c1 L ∧ Below w.heap.size w wr ∧ Hid (SubRel L ys i cr a))
    (fun _ iv _ => xs.length - (intOf iv).toNat)
  case atStart => exact ⟨0, 0, xs, rfl, rfl, Nat.zero_le _, by omega, rfl, ho1, hb1, H0⟩
  case round =>
    obtain ⟨i, cr, L, rfl, rfl, hi, hcr, hL, hoL, hbL, HR⟩ := hrel
    have hqL := hq.past hbL
    by_cases hlt : i < xs.length
    · have hc1 := hoL.rd.cells i (by omega)
      have hsL := hoL.solid
      rw [hL] at hsL
      have hLd := getD_lt (B := 4294967296) (by omega) L HR.out.1 i
      have hyd := getD_lt (B := 4294967296) (by omega) ys HY.out i
      have HS := Lib.hid (HR.out.step (i := i) (by omega) HY.out hcr)
      by_cases hd : i < ys.length
      · have hc2 := hqL.cells i hd
        have hsq := hqL.solid
        have HC' := subB_le (dg L i) (dg ys i) cr
        go_wp2_with (first
          | (go_at_call 104; refine (sub32_any _ _ cr _ hLd hyd hcr).mono ?_; rintro e w2 ⟨rfl, rfl⟩)
          | (refine wpl_store rfl _ _ _ rfl 58 tyNat _ _ _ _ hoL i (by omega) _ ?_ rfl rfl ?_; omega; intro w3 ho3 hg3 hb3))
        rw [Int.toNat_natCast] at ho3
        go_roundw
        case rel => exact ⟨i + 1, subB (dg L i) (dg ys i) cr, _, by go_num, rfl, hlt, HC', by simp [hL], ho3, hbL.trans hb3, HS⟩
        case measure => simp [intOf]; omega
      · by_cases hc0 : cr = 0
        · subst hc0
          have HD := Lib.hid (HR.out.done (by omega) HV.out hab (.inr rfl) (val_lt B32 L HR.out.1))
          go_wp2_with (go_at_call 92; refine (norm_any _ _ _ L _ hoL.rd hL.symm hoL.le_cap HR.out.1 (by omega)).mono ?_; rintro e w3 ⟨rfl, rfl⟩)
          go_ret
          have ht := take_dig_len B32_two L HR.out.1
          have ho2 := hoL.take (dig B32 (val B32 L)).length
          rw [ht, HD.out] at ho2
          rw [HD.out]
          exact ⟨p1, c1, rfl, ho2, hbL⟩
        · have hcp : 1 ≤ cr := by omega
          have ez : dg ys i = 0 := dg_of_ge (by omega)
          rw [ez] at HS
          have HC' := subB_le (dg L i) 0 cr
          clear ez hyd hc0
          go_wp2_with (first
            | (go_at_call 104; refine (sub32_any _ 0 cr _ hLd (by omega) hcr).mono ?_; rintro e w2 ⟨rfl, rfl⟩)
            | (refine wpl_store rfl _ _ _ rfl 58 tyNat _ _ _ _ hoL i (by omega) _ ?_ rfl rfl ?_; omega; intro w3 ho3 hg3 hb3))
          rw [Int.toNat_natCast] at ho3
          go_roundw
          case rel => exact ⟨i + 1, subB (dg L i) 0 cr, _, by go_num, rfl, hlt, HC', by simp [hL], ho3, hbL.trans hb3, HS⟩
          case measure => simp [intOf]; omega
    · obtain rfl : i = xs.length := by omega
      have HD := Lib.hid (HR.out.done hge HV.out hab (.inl (by omega)) (val_lt B32 L HR.out.1))
      go_wp2_with (go_at_call 92; refine (norm_any _ _ _ L _ hoL.rd hL.symm hoL.le_cap HR.out.1 (by omega)).mono ?_; rintro e w3 ⟨rfl, rfl⟩)
      go_ret
      have ht := take_dig_len B32_two L HR.out.1
      have ho2 := hoL.take (dig B32 (val B32 L)).length
      rw [ht, HD.out] at ho2
      rw [HD.out]
      exact ⟨p1, c1, rfl, ho2, hbL⟩

end Go.Proofs.YtehodhanojgkgaaDoor
