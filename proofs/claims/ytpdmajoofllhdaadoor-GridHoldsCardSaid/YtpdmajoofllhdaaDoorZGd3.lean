/- grid: the map of ways. -/
import Derived.Test.YtpdmajoofllhdaaDoorZGd2
import Derived.Test.YtpdmajoofllhdaaDoorZB
import Derived.Outline
namespace Go.Proofs.YtpdmajoofllhdaaDoor
open Go.RowKit Go.Slip

/-- The map that 'ups' makes. -/
def waysMap : Array MapEntry := #[⟨.int .i64 1, .func (.func 82) #[] #[], 0⟩, ⟨.int .i64 2, .func (.func 83) #[] #[], 1⟩, ⟨.int .i64 3, .func (.func 84) #[] #[], 2⟩, ⟨.int .i64 4, .func (.func 85) #[] #[], 3⟩, ⟨.int .i64 5, .func (.func 86) #[] #[], 4⟩]

theorem tyWays : Tryd.prog.underlying 105 = some (.map 3 104) := by kernel_rfl

def Ways (w : World) (b : Nat) : Prop := w.heap[b]? = some (.map waysMap 5)
theorem Ways.past {w w' : World} {b : Nat} (h : Ways w b) (hb : Below w.heap.size w w') : Ways w' b := (hb.block b (Array.getElem?_eq_some_iff.1 h).1).trans h

set_option maxHeartbeats 1000000 in
theorem ups_any (w : World) :
    Calls Tryd.prog 72 #[] w fun e w' => e = .returned (.map (some w.heap.size)) ∧ Ways w' w.heap.size ∧ Below w.heap.size w w' := by
  have hmm := @run_makeMap Tryd.prog
  go_enter Tryd.func72, Tryd.ntmps72
  go_wp2_with (refine wpl_insert rfl _ _ _ _ rfl tyWays Tryd.underlying3 rfl rfl rfl rfl ?_)
  go_ret
  exact ⟨rfl, by show (w.heap.push _)[_]? = _; simp [waysMap], (Below.refl _ _).alloc (Nat.le_refl _) _⟩

/-- What is found in it. -/
def wayF (k : Int) : Value := if k = 1 then .func (.func 82) #[] #[] else if k = 2 then .func (.func 83) #[] #[] else if k = 3 then .func (.func 84) #[] #[]
  else if k = 4 then .func (.func 85) #[] #[] else if k = 5 then .func (.func 86) #[] #[] else .nilFunc

theorem findWay_in {k : Int} (h1 : 1 ≤ k) (h2 : k ≤ 5) : ∃ i, Instr.findNow (.int .i64) (.int .i64 k) waysMap.toList 0 = some (some (i, wayF k)) := by
  obtain rfl | rfl | rfl | rfl | rfl : k = 1 ∨ k = 2 ∨ k = 3 ∨ k = 4 ∨ k = 5 := by omega
  · exact ⟨0, rfl⟩
  · exact ⟨1, rfl⟩
  · exact ⟨2, rfl⟩
  · exact ⟨3, rfl⟩
  · exact ⟨4, rfl⟩

theorem findWay_out {k : Int} (h : k < 1 ∨ 5 < k) : Instr.findNow (.int .i64) (.int .i64 k) waysMap.toList 0 = some none := by
  have g : ∀ j : Int, 1 ≤ j → j ≤ 5 → (k == j) = false := fun j h1 h2 => beq_eq_false_iff_ne.2 (by omega)
  simp [waysMap, Instr.findNow, Instr.sameNow, g 1 (by omega) (by omega), g 2 (by omega) (by omega), g 3 (by omega) (by omega), g 4 (by omega) (by omega), g 5 (by omega) (by omega)]

theorem look_in {w : World} {b : Nat} (h : Ways w b) {k : Int} (h1 : 1 ≤ k) (h2 : k ≤ 5) :
    (Instr.lookup 105 (.map (some b)) (.int .i64 k) false).run Tryd.prog w = .ok (wayF k) w := by
  obtain ⟨i, hi⟩ := findWay_in h1 h2
  exact run_lookup_int tyWays Tryd.underlying3 h k hi

theorem look_out {w : World} {b : Nat} (h : Ways w b) {k : Int} (hk : k < 1 ∨ 5 < k) :
    (Instr.lookup 105 (.map (some b)) (.int .i64 k) false).run Tryd.prog w = .ok .nilFunc w :=
  run_lookup_none tyWays Tryd.underlying3 h k (by kernel_rfl) (findWay_out hk)

/-- Is there such a way? -/
def wayB (k : Int) : Bool := decide (1 ≤ k) && decide (k ≤ 5)
theorem wayB_true {k : Int} (h1 : 1 ≤ k) (h2 : k ≤ 5) : wayB k = true := by unfold wayB; simp [h1, h2]
theorem wayB_false {k : Int} (h : k < 1 ∨ 5 < k) : wayB k = false := by
  unfold wayB
  rcases h with h | h
  · rw [decide_eq_false (by omega)]; rfl
  · rw [decide_eq_false (p := k ≤ 5) (by omega)]; simp

set_option maxHeartbeats 1000000 in
theorem isWay_any (k : Int) (w : World) :
    Calls Tryd.prog 54 #[.int .i64 k] w fun e w' => e = .returned (.bool (wayB k)) ∧ Below w.heap.size w w' := by
  by_cases h : k < 1 ∨ 5 < k
  · rw [wayB_false h]
    have HL := fun W (hW : Ways W w.heap.size) => look_out hW h
    have HLL := Lib.hid HL
    clear HL h
    have hne : ∀ w, (binOp .neq 104 .nilFunc .nilFunc).run Tryd.prog w = .ok (.bool false) w := fun w => by kernel_rfl
    go_enter Tryd.func54, Tryd.ntmps54
    go_wp2_with fail
    ((with_reducible refine (ups_any _).mono ?_))
    rintro e1 w1 ⟨rfl, hw, hb⟩
    have hl := HLL.out w1 hw
    go_wp2
    go_ret
    exact ⟨rfl, hb⟩
  · rw [wayB_true (by omega) (by omega)]
    have HL := fun W (hW : Ways W w.heap.size) => look_in hW (k := k) (by omega) (by omega)
    have HLL := Lib.hid HL
    obtain ⟨f, hf⟩ : ∃ f, wayF k = .func (.func f) #[] #[] := by
      obtain rfl | rfl | rfl | rfl | rfl : k = 1 ∨ k = 2 ∨ k = 3 ∨ k = 4 ∨ k = 5 := by omega
      · exact ⟨_, rfl⟩
      · exact ⟨_, rfl⟩
      · exact ⟨_, rfl⟩
      · exact ⟨_, rfl⟩
      · exact ⟨_, rfl⟩
    rw [hf] at HLL
    clear HL h hf
    have hne : ∀ w, (binOp .neq 104 (.func (.func f) #[] #[]) .nilFunc).run Tryd.prog w = .ok (.bool true) w := fun w => by kernel_rfl
    go_enter Tryd.func54, Tryd.ntmps54
    go_wp2_with fail
    ((with_reducible refine (ups_any _).mono ?_))
    rintro e1 w1 ⟨rfl, hw, hb⟩
    have hl := HLL.out w1 hw
    go_wp2
    go_ret
    exact ⟨rfl, hb⟩

end Go.Proofs.YtpdmajoofllhdaaDoor
