/- limb.Shl, limb.Shr. -/
import Derived.Test.YtcbjidcpcompoaaDoorLimb2
import Derived.Test.YtcbjidcpcompoaaDoorNum4
import Derived.Test.YtcbjidcpcompoaaDoorBase2
import Derived.Deep.LoopGhost
import Derived.Deep.RegionLaw
import Derived.Laws.BitsAllLaws
namespace Go.Proofs.YtcbjidcpcompoaaDoor
open Go.RowKit Go.Slip

theorem shl_or_lt (x cr s : Nat) (hx : x < 4294967296) (hs : s < 32) (hc : cr < 2 ^ s) : x * 2 ^ s + cr < 18446744073709551616 := by
  have h1 : 2 ^ s ≤ 2 ^ 31 := Nat.pow_le_pow_right (by omega) (by omega)
  have h2 := Nat.mul_le_mul_right (2 ^ s) (show x + 1 ≤ 4294967296 from hx)
  rw [Nat.add_mul, Nat.one_mul] at h2
  omega

/-- A digit to the left, and what was carried put behind it. -/
theorem shl_or (x cr s : Nat) (hx : x < 4294967296) (hs : s < 32) (hc : cr < 2 ^ s) :
    bits .or .u64 (IntKind.u64.wrap ((x : Int) * 2 ^ s)) (cr : Int) = ((x * 2 ^ s + cr : Nat) : Int) := by
  have hlt := shl_or_lt x cr s hx hs hc
  have e : (x : Int) * 2 ^ s = ((x * 2 ^ s : Nat) : Int) := by simp
  rw [e, IntWalk.u64_in _ (by omega), u64_or_nat _ _ (by omega) (by omega), nat_join s _ _ (Nat.mul_mod_left _ _) hc]

set_option maxHeartbeats 1000000 in
set_option maxRecDepth 100000 in
theorem shl_any (p : Option Addr) (n c : Nat) (a N : Nat) (w : World) (hp : Rd w .u32 p (dig B32 a)) (hn : n = (dig B32 a).length) (hl : (dig B32 a).length ≤ 1000000000) (hN : N ≤ 1000000000) :
    Calls Tryd.prog 50 #[.slice p n c, .int .i64 N] w (Gives w .u32 66 (dig B32 (a * 2 ^ N))) := by
  subst hn
  by_cases h0 : (dig B32 a).length = 0
  · have : a = 0 := (dig_len_zero B32_two a).1 h0
    subst this
    rw [Nat.zero_mul]
    rw [dig_zero] at *
    go_enter Tryd.func50, Tryd.ntmps50
    go_wp2
    go_ret
    exact ⟨none, 0, rfl, Own.nil _ _ _ _, Below.refl _ _⟩
  · have HXL := Lib.hid (dig_lt B32_two a)
    have HA := Lib.hid (val_dig B32_two a)
    generalize dig B32 a = xs at *
    have hsx := hp.solid
    have hlen : 1 ≤ xs.length := by omega
    clear h0
    have hs : N % 32 < 32 := Nat.mod_lt _ (by omega)
    have H0 := Lib.hid (ShlRel.start (k := N / 32) (p := 2 ^ (N % 32)) B32_pos (Nat.pow_pos (by omega)) xs)
    go_enter Tryd.func50, Tryd.ntmps50
    go_wp2_with (refine wpl_make2 rfl _ _ _ rfl tyNat .i64 .i64 (N / 32) (N / 32 + xs.length + 1) _ _ rfl rfl ?_ ?_ ?_ ?_ ?_; omega; omega; omega; omega; intro p1 c1 w1 ho1 hb1 hz1)
    go_loopg [5, 7, 27] (xs.length) (fun g ov cv iv wr => ∃ (i cr : Nat) (t : Option Addr) (e : Nat) (O : List Nat), iv = .int .i64 i ∧ cv = .int .u32 cr ∧ ov = .slice t O.length e ∧ g + i = xs.length ∧ cr < 4294967296 ∧ i ≤ xs.length ∧ Hid (O.length = N / 32 + i) ∧
      Own wr w.heap.size .u32 66 t e O ∧ Below w.heap.size w wr ∧ Hid (ShlRel B32 (N / 32) (2 ^ (N % 32)) O xs i cr))
    case atStart => exact ⟨0, 0, p1, c1, _, rfl, rfl, by simp, by omega, by omega, by omega, List.length_replicate, ho1, hb1, H0⟩
    case round =>
      obtain ⟨i, cr, t, e, O, rfl, rfl, rfl, hg, hcr, hi, hO, hoq, hb, HR⟩ := hrel
      have hpL := hp.past hb
      have hxd := getD_lt (B := 4294967296) (by omega) xs HXL.out i
      by_cases h1 : i < xs.length
      · have hc1 := hpL.cells i h1
        obtain ⟨t, ht⟩ : ∃ t, t = dg xs i * 2 ^ (N % 32) + cr := ⟨_, rfl⟩
        have HS := Lib.hid (HR.out.step (by unfold B32; exact hxd) t ht)
        have hor := shl_or (dg xs i) cr (N % 32) hxd hs HR.out.2.2.1
        have htb := shl_or_lt (dg xs i) cr (N % 32) hxd hs HR.out.2.2.1
        rw [← ht] at hor htb
        have hq : t / 4294967296 < 4294967296 := by omega
        clear ht hs H0
        go_wp2_with (first
          | (refine wpl_build1 rfl _ _ rfl tyNat _ ?_ rfl ?_; omega; intro p2 w2 ho2 hb2 hz2 hp2)
          | (at_builtin; refine wpl_append rfl _ _ _ rfl tyNat _ _ _ _ _ (hoq.past hb2) rfl _ _ _ _ ho2.rd rfl rfl rfl ?_ ?_ ?_; (have := hO.out; simp; omega); (have := hb2.size; have := hb.size; omega); intro p3 c3 w3 ho3 hg3 hb3 hn3))
        have hb4 := hb.trans ((hb2.mono hb.size).trans hb3)
        have e4 : ((t : Int) % 4294967296).toNat = t % B32 := by unfold B32; omega
        rw [e4] at ho3
        go_roundg (xs.length - 1 - i)
        case measure => omega
        case rel => exact ⟨i + 1, t / B32, p3, c3, _, by go_num, (by unfold B32; go_num), by simp, by omega, (by unfold B32; exact hq), by omega, (by show (O ++ _).length = _; have := hO.out; rw [List.length_append, List.length_singleton]; omega), ho3, hb4, HS⟩
      · obtain rfl : i = xs.length := by omega
        obtain ⟨hd1, hd2⟩ := HR.out.done (by have := Nat.pow_le_pow_right (show 0 < 2 by omega) (Nat.le_of_lt hs); exact this) HA.out
        rw [shl_split (B := B32) (w := 32) (by decide) N] at hd2
        have HD := Lib.hid hd1
        have HV := Lib.hid hd2
        clear hd1 hd2 hs H0
        go_wp2_with (first
          | (refine wpl_build1 rfl _ _ rfl tyNat _ ?_ rfl ?_; omega; intro p2 w2 ho2 hb2 hz2 hp2)
          | (at_builtin; refine wpl_append rfl _ _ _ rfl tyNat _ _ _ _ _ (hoq.past hb2) rfl _ _ _ _ ho2.rd rfl rfl rfl ?_ ?_ ?_; (have := hO.out; simp; omega); (have := hb2.size; have := hb.size; omega); intro p3 c3 w3 ho3 hg3 hb3 hn3)
          | (go_at_call 71; rw [Int.toNat_natCast] at ho3; refine (norm_any _ _ _ (O ++ [cr]) _ ho3.rd (by simp) ho3.le_cap HD.out (by have := hO.out; rw [List.length_append, List.length_singleton]; omega)).mono ?_; rintro e w4 ⟨rfl, rfl⟩))
        go_ret
        have ht := take_dig_len B32_two _ HD.out
        have ho4 := ho3.take (dig B32 (val B32 (O ++ [cr]))).length
        rw [ht, HV.out] at ho4
        rw [HV.out]
        exact ⟨p3, _, rfl, ho4, hb.trans ((hb2.mono hb.size).trans hb3)⟩


theorem shr_or (x y s : Nat) (hx : x < 4294967296) (hs : s < 32) (h0 : 0 < s) :
    bits .or .u32 ((x / 2 ^ s : Nat) : Int) ((y : Int) * 2 ^ (32 - s) % 4294967296) = ((x / 2 ^ s + y % 2 ^ s * (4294967296 / 2 ^ s) : Nat) : Int) := by
  have e0 : 4294967296 = 2 ^ s * 2 ^ (32 - s) := by rw [← Nat.pow_add, show s + (32 - s) = 32 by omega]
  have e1 : 4294967296 / 2 ^ s = 2 ^ (32 - s) := by rw [e0, Nat.mul_div_cancel_left _ (Nat.pow_pos (by omega))]
  have e2 : (y : Int) * 2 ^ (32 - s) % 4294967296 = ((y % 2 ^ s * 2 ^ (32 - s) : Nat) : Int) := by
    have : y * 2 ^ (32 - s) % 4294967296 = y % 2 ^ s * 2 ^ (32 - s) := by rw [e0, Nat.mul_mod_mul_right]
    rw [← this]; simp
  have hp : 0 < 2 ^ s := Nat.pow_pos (by omega)
  have h1 : x / 2 ^ s < 2 ^ (32 - s) := by rw [Nat.div_lt_iff_lt_mul hp, Nat.mul_comm, ← e0]; exact hx
  have h2 : y % 2 ^ s * 2 ^ (32 - s) < 4294967296 := by
    rw [e0]; exact Nat.mul_lt_mul_of_pos_right (Nat.mod_lt _ hp) (Nat.pow_pos (by omega))
  have h3 : x / 2 ^ s < 4294967296 := Nat.lt_of_le_of_lt (Nat.div_le_self _ _) hx
  rw [e1, e2, u32_or_nat _ _ h3 h2, Nat.or_comm, nat_join (32 - s) _ _ (Nat.mul_mod_left _ _) h1, Nat.add_comm]

theorem shr_done {L Y : List Nat} {N a : Nat} (h : ShrRel B32 (2 ^ (N % 32)) L Y Y.length) (hY : val B32 Y = a / B32 ^ (N / 32)) : val B32 L = a / 2 ^ N := by
  rw [h.done, hY, shift_split (B := B32) (w := 32) (by decide)]

set_option maxHeartbeats 1000000 in
set_option maxRecDepth 100000 in
theorem shr_any (p : Option Addr) (n c : Nat) (a N : Nat) (w : World) (hp : Rd w .u32 p (dig B32 a)) (hn : n = (dig B32 a).length) (hc : (dig B32 a).length ≤ c) (hl : (dig B32 a).length ≤ 1000000000) (hN : N ≤ 1000000000) :
    Calls Tryd.prog 49 #[.slice p n c, .int .i64 N] w (Gives w .u32 66 (dig B32 (a / 2 ^ N))) := by
  subst hn
  by_cases h0 : (dig B32 a).length ≤ N / 32
  · rw [div_of_big (w := 32) (by decide) B32_two a N h0]
    rw [dig_zero]
    go_enter Tryd.func49, Tryd.ntmps49
    go_wp2
    go_ret
    exact ⟨none, 0, rfl, Own.nil _ _ _ _, Below.refl _ _⟩
  · have HXL := Lib.hid (dig_lt B32_two a)
    have HV := Lib.hid (val_drop_div (B := B32) B32_pos _ (dig_lt B32_two a) (N / 32))
    rw [val_dig B32_two] at HV
    generalize dig B32 a = xs at *
    have hsx := hp.solid
    have hk : N / 32 < xs.length := by omega
    have hq := hp.drop (N / 32)
    have HY := Lib.hid (show ∀ x ∈ xs.drop (N / 32), x < B32 from fun x h => HXL.out x (List.mem_of_mem_drop h))
    have hyl : (xs.drop (N / 32)).length = xs.length - N / 32 := List.length_drop
    have hylp : 0 < (xs.drop (N / 32)).length := by omega
    have hyl1 : (xs.drop (N / 32)).length ≤ 1000000000 := by omega
    have eN : ((N : Int) / 32).toNat = N / 32 := by omega
    clear h0
    have hs : N % 32 < 32 := Nat.mod_lt _ (by omega)
    generalize hY : xs.drop (N / 32) = ys at *
    clear hY
    have HL := Lib.hid hyl
    clear hyl
    have hpm : B32 % 2 ^ (N % 32) = 0 := pow_mod_zero (w := 32) (by omega)
    have hpm := Lib.hid hpm
    have H0 := Lib.hid (ShrRel.start (p := 2 ^ (N % 32)) HY.out)
    go_enter Tryd.func49, Tryd.ntmps49
    go_wp2_with (go_at_call 70; refine (clone_any _ _ _ ys _ hq HL.out.symm hyl1).mono ?_; rintro e w1 ⟨p1, c1, rfl, ho1, hb1⟩)
    go_loopw [22] (fun iv wr => ∃ (i : Nat) (L : List Nat), iv = .int .i64 i ∧ i ≤ ys.length ∧ L.length = ys.length ∧ Own wr w.heap.size .u32 66 p1 c1 L ∧ Below w.heap.size w wr ∧ Hid (ShrRel B32 (2 ^ (N % 32)) L ys i))
      (fun iv _ => ys.length - (intOf iv).toNat)
    case atStart => exact ⟨0, ys, rfl, Nat.zero_le _, rfl, ho1, hb1, H0⟩
    case round =>
      obtain ⟨i, L, rfl, hi, hL, hoL, hb, HR⟩ := hrel
      by_cases hlt : i < ys.length
      · have hc1 := hoL.rd.cells i (by omega)
        have hsL := hoL.solid
        rw [hL] at hsL
        rw [HR.out.2.2.1 i (Nat.le_refl _)] at hc1
        have hyd := getD_lt (B := 4294967296) (by omega) ys HY.out i
        have hyd2 := getD_lt (B := 4294967296) (by omega) ys HY.out (i + 1)
        obtain ⟨v, hv⟩ : ∃ v, v = dg ys i / 2 ^ (N % 32) := ⟨_, rfl⟩
        have ev : ((dg ys i : Nat) : Int) / 2 ^ (N % 32) = (v : Nat) := by rw [hv]; simp
        have hvd : v < 4294967296 := by rw [hv]; exact Nat.lt_of_le_of_lt (Nat.div_le_self _ _) hyd
        by_cases h2 : i + 1 < ys.length ∧ 0 < N % 32
        · obtain ⟨h2, h3⟩ := h2
          obtain ⟨u, hu⟩ : ∃ u, u = dg ys i / 2 ^ (N % 32) + dg ys (i + 1) % 2 ^ (N % 32) * (B32 / 2 ^ (N % 32)) := ⟨_, rfl⟩
          have HS := Lib.hid (HR.out.step (Nat.pow_pos (by omega)) hpm.out HY.out hlt u hu)
          have hor := shr_or (dg ys i) (dg ys (i + 1)) (N % 32) hyd hs h3
          rw [show B32 = 4294967296 from rfl] at hu
          rw [← hu, ← hv] at hor
          have huB : u < 4294967296 := by rw [hu]; exact shr_lt (Nat.pow_pos (by omega)) hpm.out hyd
          clear hu hv
          go_wp2_with (refine wpl_store rfl _ _ _ rfl 66 tyNat _ _ _ _ hoL i (by omega) _ ?_ rfl rfl ?_; omega; intro w3 ho3 hg3 hb3)
          rw [ev, Int.toNat_natCast] at ho3
          have hlv : (L.set i v).length = ys.length := by simp [hL]
          have hcA := ho3.rd.cells i (by omega)
          have hcB := ho3.rd.cells (i + 1) (by omega)
          rw [dg_set_same (by omega)] at hcA
          rw [dg_set_ne (by omega), HR.out.2.2.1 (i + 1) (by omega)] at hcB
          have hfr := frozen_own ho3 i (by omega)
          go_region
          obtain ⟨ho4, hg4, hb4⟩ := stored_own ho3 i (by omega) u
          rw [List.set_set] at ho4
          have hs3 := hb.trans hb3
          have hb5 := hs3.trans (below_of_grown hg4 hs3.size (fun j hj => by cases hj; exact hb4))
          have ho4 := ho4.drew
          have hb5 := hb5.drew
          clear hcA hcB hfr hor hg4 hb4
          generalize (w3.setCell (at_ p1 i) (.int .u32 (u : Int))).drew = w4 at ho4 hb5 ⊢
          go_wp2
          go_roundw
          case rel => exact ⟨i + 1, _, by go_num, by omega, by simp [hL], ho4, hb5, HS⟩
          case measure => simp [intOf]; omega
        · have HS := Lib.hid (HR.out.step (Nat.pow_pos (by omega)) hpm.out HY.out hlt v (by
            rw [hv]
            by_cases h3 : N % 32 = 0
            · rw [h3, Nat.pow_zero, Nat.mod_one, Nat.zero_mul]; rfl
            · rw [dg_of_ge (show ys.length ≤ i + 1 by omega), Nat.zero_mod, Nat.zero_mul]; rfl))
          clear hv
          by_cases h3 : i + 1 < ys.length
          · have h4 : N % 32 ≤ 0 := by omega
            clear h2
            go_wp2_with (refine wpl_store rfl _ _ _ rfl 66 tyNat _ _ _ _ hoL i (by omega) _ ?_ rfl rfl ?_; omega; intro w3 ho3 hg3 hb3)
            rw [ev, Int.toNat_natCast] at ho3
            go_roundw
            case rel => exact ⟨i + 1, _, by go_num, by omega, by simp [hL], ho3, hb.trans hb3, HS⟩
            case measure => simp [intOf]; omega
          · clear h2
            go_wp2_with (refine wpl_store rfl _ _ _ rfl 66 tyNat _ _ _ _ hoL i (by omega) _ ?_ rfl rfl ?_; omega; intro w3 ho3 hg3 hb3)
            rw [ev, Int.toNat_natCast] at ho3
            go_roundw
            case rel => exact ⟨i + 1, _, by go_num, by omega, by simp [hL], ho3, hb.trans hb3, HS⟩
            case measure => simp [intOf]; omega
      · obtain rfl : i = ys.length := by omega
        have HD := Lib.hid (shr_done HR.out HV.out)
        have HX := Lib.hid HR.out.1
        go_wp2_with (go_at_call 71; refine (norm_any _ _ _ L _ hoL.rd hL.symm hoL.le_cap HX.out (by omega)).mono ?_; rintro e w3 ⟨rfl, rfl⟩)
        go_ret
        have ht := take_dig_len B32_two L HX.out
        have ho2 := hoL.take (dig B32 (val B32 L)).length
        rw [ht, HD.out] at ho2
        rw [HD.out]
        exact ⟨p1, c1, rfl, ho2, hb⟩

end Go.Proofs.YtcbjidcpcompoaaDoor
