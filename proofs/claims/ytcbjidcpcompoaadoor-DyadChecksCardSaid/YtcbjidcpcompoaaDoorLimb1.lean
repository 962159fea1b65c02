/- The first functions of package limb, each once: what it computes. -/
import Derived.Test.YtcbjidcpcompoaaDoorTy
namespace Go.Proofs.YtcbjidcpcompoaaDoor
open Go.RowKit Go.Slip

/-- What a function that answers a slice of digits leaves: a row of its own with these digits, all that was there as it was. -/
def Gives (w : World) (k : IntKind) (e : TypeId) (xs : List Nat) (en : Ending) (w' : World) : Prop :=
  ∃ p c, en = .returned (.slice p xs.length c) ∧ Own w' w.heap.size k e p c xs ∧ Below w.heap.size w w'

set_option maxHeartbeats 400000 in
theorem clone_any (p : Option Addr) (n c : Nat) (xs : List Nat) (w : World) (hr : Rd w .u32 p xs) (hn : n = xs.length) (hl : xs.length ≤ 1000000000) :
    Calls Tryd.prog 70 #[.slice p n c] w (Gives w .u32 66 xs) := by
  cases p with
  | none =>
    obtain rfl : xs = [] := by
      rcases Nat.eq_zero_or_pos xs.length with h | h
      · exact List.eq_nil_of_length_eq_zero h
      · have := (hr.solid h).1; simp at this
    go_enter Tryd.func70, Tryd.ntmps70
    go_wp2
    go_ret
    exact ⟨none, 0, rfl, Own.nil _ _ _ _, Below.refl _ _⟩
  | some a =>
    subst hn
    go_enter Tryd.func70, Tryd.ntmps70
    go_wp2_with (first
      | (refine wpl_build0 rfl _ rfl tyNat ?_; intro p1 w1 ho1 hb1 hz1 hp1)
      | (at_builtin; refine wpl_append rfl _ _ _ rfl tyNat _ _ _ _ _ ho1 rfl _ _ _ _ (hr.past hb1) rfl rfl rfl ?_ ?_ ?_; (simp; omega); omega; intro p2 c2 w2 ho2 hg2 hb2 hn2))
    go_ret
    exact ⟨p2, c2, rfl, ho2, hb1.trans hb2⟩

set_option maxHeartbeats 400000 in
theorem norm_any (p : Option Addr) (n c : Nat) (xs : List Nat) (w : World) (hr : Rd w .u32 p xs) (hn : n = xs.length) (hc : xs.length ≤ c) (hx : ∀ x ∈ xs, x < B32) (hl : xs.length ≤ 4000000000) :
    Calls Tryd.prog 71 #[.slice p n c] w fun e w' => e = .returned (.slice p (dig B32 (val B32 xs)).length c) ∧ w = w' := by
  subst hn
  go_enter Tryd.func71, Tryd.ntmps71
  go_wp2
  go_loop [0] (fun s => ∃ m : Nat, s = .slice p m c ∧ m ≤ xs.length ∧ Hid (∀ j, m ≤ j → dg xs j = 0)) (fun s => slLen s)
  case atStart => exact ⟨_, rfl, Nat.le_refl _, fun j hj => dg_of_ge hj⟩
  case round =>
    obtain ⟨m, rfl, hm, hz⟩ := hrel
    have hs := hr.solid.mono hm
    by_cases hm0 : m = 0
    · subst hm0
      go_wp2
      go_ret
      exact ⟨ret_slice (dig_val_len B32_two xs 0 hx hm hz.out (.inl rfl)).symm, rfl⟩
    · have hpos : 0 < m := by omega
      by_cases h0 : dg xs (m - 1) = 0
      · have hcell : w.cell? (at_ p (m - 1)) = some (.int .u32 0) := by rw [hr.cells (m - 1) (by omega), h0]; rfl
        have HZ : Hid (∀ j, m - 1 ≤ j → dg xs j = 0) := fun j hj => by
          by_cases hjm : j = m - 1
          · subst hjm; exact h0
          · exact hz.out j (by omega)
        clear h0 hm0
        go_wp2
        go_round
        case rel => exact ⟨m - 1, rfl, by omega, HZ⟩
        case measure => simp [slLen]; omega
      · have hcell := hr.cells (m - 1) (by omega)
        have h1 : 0 < dg xs (m - 1) := by omega
        have H0 := Lib.hid h0
        clear h0 hm0
        go_wp2
        go_ret
        exact ⟨ret_slice (dig_val_len B32_two xs m hx hm hz.out (.inr H0.out)).symm, rfl⟩

set_option maxHeartbeats 400000 in
theorem add32_any (x y c : Nat) (w : World) (hx : x < 4294967296) (hy : y < 4294967296) (hc : c ≤ 1) :
    Calls Tryd.prog 77 #[.int .u32 x, .int .u32 y, .int .u32 c] w fun e w' =>
      e = .returned (.tuple #[.int .u32 (((x + y + c) % 4294967296 : Nat) : Int), .int .u32 (((x + y + c) / 4294967296 : Nat) : Int)]) ∧ w = w' := by
  go_enter Tryd.func77, Tryd.ntmps77
  go_wp2
  go_ret2
  exact ⟨rfl, rfl⟩

end Go.Proofs.YtcbjidcpcompoaaDoor
