/- bits.TrailingZeros32, with its table at hand; limb.Zeros. -/
import Derived.Test.YtcbjidcpcompoaaDoorLimb2
import Derived.Test.YtcbjidcpcompoaaDoorDy3
import Derived.Laws.BitsAllLaws
namespace Go.Proofs.YtcbjidcpcompoaaDoor
open Go.RowKit Go.Slip

/-- The library's table, as its initialiser lays it. -/
def TabW (w : World) : Prop := (∀ j, j < 32 → w.cell? ⟨0, j, none⟩ = some (.int .u8 ((Lib.deBruijn32tab.getD j 0 : Nat) : Int))) ∧ 0 < w.heap.size

theorem TabW.past {w w' : World} (h : TabW w) (hb : Below w.heap.size w w') : TabW w' :=
  ⟨fun j hj => by rw [Below.cell hb h.2]; exact h.1 j hj, Nat.lt_of_lt_of_le h.2 hb.size⟩

theorem TabW.laid {w : World} (h : TabW w) (o : Obj) : TabW (w.alloc o) := h.past ((Below.refl _ _).alloc (Nat.le_refl _) o)
theorem TabW.drew {w : World} (h : TabW w) : TabW w.drew := ⟨h.1, h.2⟩

theorem tz_key (x a : Nat) (hx : x < 4294967296) (hlow : x &&& (4294967296 - x) = a) (h0 : 0 < x) :
    bits BinOp.and IntKind.u32 (x : Int) (-(x : Int) % 4294967296) * 125613361 % 4294967296 / 134217728 = ((a * 125613361 % 4294967296 / 134217728 : Nat) : Int) := by
  have e1 : -(x : Int) % 4294967296 = ((4294967296 - x : Nat) : Int) := by omega
  rw [e1, u32_and_nat x _ hx (by omega), hlow]
  omega

set_option maxHeartbeats 1000000 in
theorem tz32_core (x k idx : Nat) (w : World) (hx0 : ((x : Int) == 0) = false)
    (key : bits BinOp.and IntKind.u32 (x : Int) (-(x : Int) % 4294967296) * 125613361 % 4294967296 / 134217728 = (idx : Int))
    (hi : idx < 32) (hk : k < 32) (hcell : w.cell? ⟨0, idx, none⟩ = some (.int .u8 k)) :
    Calls Tryd.prog 80 #[.int .u32 x] w fun e w' => e = .returned (.int .i64 k) ∧ w = w' := by
  go_enter Tryd.func80, Tryd.ntmps80
  go_wp2_with (simp only [key])
  go_ret
  exact ⟨rfl, rfl⟩

theorem tz32_any (x : Nat) (w : World) (hx : x < 4294967296) (h0 : 0 < x) (hT : TabW w) :
    Calls Tryd.prog 80 #[.int .u32 x] w fun e w' => e = .returned (.int .i64 (tz x : Nat)) ∧ w = w' := by
  rw [← ctz_tz h0 hx]
  obtain ⟨hlow, hk⟩ := Lib.lowest_bit 32 x (by omega) (by omega)
  obtain ⟨hi, htab⟩ := Lib.deBruijn32_at _ hk
  have hcell := hT.1 _ hi
  rw [htab] at hcell
  exact tz32_core x _ _ w (beq_eq_false_iff_ne.2 (by omega)) (tz_key x _ hx hlow h0) hi hk hcell

set_option maxHeartbeats 1000000 in
theorem zeros_any (p : Option Addr) (n c : Nat) (a : Nat) (w : World) (hp : Rd w .u32 p (dig B32 a)) (hn : n = (dig B32 a).length) (hl : (dig B32 a).length ≤ 100000000) (hT : TabW w) :
    Calls Tryd.prog 79 #[.slice p n c] w fun e w' => e = .returned (.int .i64 (tz a : Nat)) ∧ w = w' := by
  subst hn
  have HA := Lib.hid (val_dig B32_two a)
  have HXL := Lib.hid (dig_lt B32_two a)
  have HT := Lib.hid hT
  generalize dig B32 a = xs at *
  have hsx := hp.solid
  clear hT
  go_enter Tryd.func79, Tryd.ntmps79
  go_wp2
  go_loop [7] (fun iv => ∃ (i : Nat), iv = .int .i64 i ∧ i ≤ xs.length ∧ Hid (∀ j, j < i → dg xs j = 0)) (fun iv => xs.length - (intOf iv).toNat)
  case atStart => exact ⟨0, rfl, Nat.zero_le _, (show ∀ j, j < 0 → dg xs j = 0 from fun j hj => by omega)⟩
  case round =>
    obtain ⟨i, rfl, hi, HZ⟩ := hrel
    by_cases hlt : i < xs.length
    · have hc := hp.cells i hlt
      have hd := getD_lt (B := 4294967296) (by omega) xs HXL.out i
      obtain ⟨x, hx⟩ : ∃ x, dg xs i = x := ⟨_, rfl⟩
      rw [hx] at hc hd
      by_cases h0 : x = 0
      · subst h0
        have HZ' : Hid (∀ j, j < i + 1 → dg xs j = 0) := fun j hj => by
          by_cases h : j = i
          · subst h; exact hx
          · exact HZ.out j (by omega)
        clear hx
        go_wp2
        go_round
        case rel => exact ⟨i + 1, by go_num, hlt, HZ'⟩
        case measure => simp [intOf]; omega
      · have hx0 : ((x : Int) == 0) = false := beq_eq_false_iff_ne.2 (by omega)
        have hx1 : ((x : Int) != 0) = true := by simpa using h0
        have HE := Lib.hid (tz_dig HA.out HZ.out (by rw [hx]; omega) (by rw [hx]; exact hd))
        rw [hx] at HE
        have h1 : 0 < x := by omega
        have htz : tz x ≤ 32 := by
          obtain ⟨h2, h3⟩ := tz_spec x h1
          rcases Nat.lt_or_ge 32 (tz x) with h4 | h4
          · have h5 : 2 ^ 32 ≤ 2 ^ tz x := Nat.pow_le_pow_right (by omega) (by omega)
            have h6 : 0 < x / 2 ^ tz x := by
              rcases Nat.eq_zero_or_pos (x / 2 ^ tz x) with h | h
              · rw [h] at h3; simp at h3
              · exact h
            have h7 := Nat.mul_le_mul_left (2 ^ tz x) h6
            simp only [Nat.succ_eq_add_one, Nat.zero_add, Nat.mul_one] at h7
            omega
          · exact h4
        clear hx h0
        go_wp2_with fail
        refine (tz32_any x _ hd h1 HT.out).mono ?_
        rintro e w2 ⟨rfl, rfl⟩
        generalize tz x = t at *
        go_wp2_with fail
        go_ret
        exact ⟨ret_int (by rw [HE.out]; simp), rfl⟩
    · have HE : Hid (tz a = 0) := by
        have := val_zero_of (B := B32) (xs := xs) (fun j hj => HZ.out j (by omega))
        rw [HA.out] at this
        show tz a = 0
        rw [this, tz_zero]
      go_wp2
      go_ret
      exact ⟨ret_int (by rw [HE.out]; rfl), rfl⟩

end Go.Proofs.YtcbjidcpcompoaaDoor
