/- bits.Len32, as the shelf's template walks it. -/
import Derived.Test.YtgbbhlginbmghaaGreatDoorProg
import Derived.Lib.Strings
import Derived.Lib.Slices
import Derived.Lib.Small
import Derived.Lib.Walk
import Derived.Lib.BitFns
set_option maxHeartbeats 8000000
set_option maxRecDepth 100000
namespace Go
abbrev OA := Option Addr
theorem bTF (b : Bool) : b = true ∨ b = false := Bool.eq_false_or_eq_true b
abbrev vI (n : Int) : Value := .int .i64 n
abbrev vS {α : Type _} (l : List α) (p : OA) (c : Nat) : Value := .slice p l.length c
theorem bFn {α : Type _} [BEq α] [LawfulBEq α] {a b : α} (h : a ≠ b) : (a == b) = false := beq_eq_false_iff_ne.2 h
theorem bnF {α : Type _} [BEq α] [LawfulBEq α] {a b : α} (h : (a == b) = false) : a ≠ b := beq_eq_false_iff_ne.1 h
theorem oTr {p : Prop} [Decidable p] (h : decide p = true) : p := of_decide_eq_true h
theorem oFa {p : Prop} [Decidable p] (h : decide p = false) : ¬ p := of_decide_eq_false h
theorem dTr {p : Prop} [Decidable p] (h : p) : decide p = true := decide_eq_true h
theorem dFa {p : Prop} [Decidable p] (h : ¬ p) : decide p = false := decide_eq_false h
end Go
namespace Go.Proofs.YtgbbhlginbmghaaGreatDoor

theorem f1f (x : Int) (w : World) (h0 : 0 ≤ x) (h1 : x ≤ 4294967295) :
 Calls Tryz.prog 135 #[.int .u32 x] w fun e w' => e = .returned (.int .i64 (Lib.bitLen x.toNat)) ∧ w = w' := by
 go_enter Tryz.func135, Tryz.ntmps135
 go_wp2
 all_goals (go_ret; refine ⟨congrArg Ending.returned (congrArg (Value.int IntKind.i64) ?_), rfl⟩)
 all_goals first
  | (rw [Lib.len8_of (x / 65536 / 256 % 256) (by omega) (by omega)]
     have e : (x / 65536 / 256 % 256).toNat = x.toNat / 16777216 := by omega
     have l := Lib.bitLen_le8' (x / 65536 / 256 % 256) (by omega) (by omega)
     have s := Lib.bitLen_shift24 x.toNat (by omega) (by omega)
     rw [e] at l ⊢
     omega)
  | (rw [Lib.len8_of (x / 65536 % 256) (by omega) (by omega)]
     have e : (x / 65536 % 256).toNat = x.toNat / 65536 := by omega
     have l := Lib.bitLen_le8' (x / 65536 % 256) (by omega) (by omega)
     have s := Lib.bitLen_shift16 x.toNat (by omega) (by omega)
     rw [e] at l ⊢
     omega)
  | (rw [Lib.len8_of (x / 256 % 256) (by omega) (by omega)]
     have e : (x / 256 % 256).toNat = x.toNat / 256 := by omega
     have l := Lib.bitLen_le8' (x / 256 % 256) (by omega) (by omega)
     have s := Lib.bitLen_shift8 x.toNat (by omega) (by omega)
     rw [e] at l ⊢
     omega)
  | (rw [Lib.len8_of (x % 256) (by omega) (by omega)]
     have e : (x % 256).toNat = x.toNat := by omega
     have l := Lib.bitLen_le8' (x % 256) (by omega) (by omega)
     rw [e] at l ⊢
     omega)

end Go.Proofs.YtgbbhlginbmghaaGreatDoor
