/- dyad: two, where both are well formed; Add, Mul. -/
import Derived.Test.YtpdmajoofllhdaaDoorZDyad8
import Derived.Test.YtpdmajoofllhdaaDoorZE
import Derived.Test.YtpdmajoofllhdaaDoorZA
namespace Go.Proofs.YtpdmajoofllhdaaDoor
open Go.RowKit Go.Slip

/-- What a dyad that came in stands for. -/
def dyV (a : Din) : Dv := bare ⟨a.g, val B32 a.xs, a.e⟩

theorem dyV_bare (a : Din) : Bare (dyV a) := bare_bare _

/-- A dyad that came in, as the walks ask for it. -/
structure InD (w : World) (a : Din) : Prop where
  rd : Rd w .u32 a.p a.xs
  cap : a.xs.length ≤ a.c
  len : a.xs.length ≤ 9223372036854775807
  lt : ∀ x ∈ a.xs, x < B32

theorem InD.past {w w' : World} {a : Din} (h : InD w a) (hb : Below w.heap.size w w') : InD w' a := ⟨h.rd.past hb, h.cap, h.len, h.lt⟩
theorem InD.laid {w : World} {a : Din} (h : InD w a) (o : Obj) : InD (w.alloc o) a := ⟨h.rd.laid o, h.cap, h.len, h.lt⟩
theorem InD.drew {w : World} {a : Din} (h : InD w a) : InD w.drew a := ⟨h.rd.drew, h.cap, h.len, h.lt⟩

/-- Where nothing is wrong with it. -/
theorem InD.ok {w : World} {a : Din} (h : InD w a) (he : errDy a = 0) : ∃ m, a.xs = dig B32 m ∧ val B32 a.xs = m ∧ (dig B32 m).length ≤ 1200 ∧ -20000 ≤ a.e ∧ a.e ≤ 20000 := by
  unfold errDy at he
  by_cases h1 : errNat a.xs = 0
  · rw [if_pos h1] at he
    obtain ⟨h2, h3⟩ := errNat_ok h.lt h1
    refine ⟨_, h2, rfl, by rw [← h2]; exact h3, ?_⟩
    by_cases h4 : a.e < -20000 ∨ 20000 < a.e
    · rw [if_pos h4] at he; simp at he
    · omega
  · rw [if_neg h1] at he; exact absurd he h1

theorem errDy2_ok {a b : Din} (h : errDy2 a b = 0) : errDy a = 0 ∧ errDy b = 0 := by
  unfold errDy2 at h
  by_cases h1 : errDy a = 0
  · rw [if_pos h1] at h; exact ⟨h1, h⟩
  · rw [if_neg h1] at h; exact absurd h h1

/-- Its length and its exponent. -/
theorem dyV_bd {w : World} {a : Din} (h : InD w a) (he : errDy a = 0) : (dig B32 (dyV a).m).length ≤ 1200 ∧ -20000 ≤ (dyV a).e ∧ (dyV a).e ≤ 58400 := by
  obtain ⟨m, _, hv, hl, h1, h2⟩ := h.ok he
  unfold dyV
  rw [hv]
  refine ⟨Nat.le_trans (bare_len B32_two _) hl, ?_⟩
  have := bare_e ⟨a.g, m, a.e⟩ (n := 1200) hl h1 h2 (by omega) (by omega)
  omega

/-- What a call on two tells. -/
def errTwo (a b : Din) (r : Dv) : Int := if errDy2 a b = 0 then errD r else errDy2 a b
def doneTwo (a b : Din) (r : Dv) : Dv := if errDy2 a b = 0 then doneD r else ⟨false, 0, 0⟩

theorem GivesDE.mono {w w' : World} {base base' : Nat} {d : Dv} {er : Int} {en : Ending} (h : GivesDE w base d er en w') (hb : base' ≤ base) : GivesDE w base' d er en w' := by
  obtain ⟨p, c, h1, h2, h3⟩ := h
  exact ⟨p, c, h1, h2.mono hb, h3⟩



end Go.Proofs.YtpdmajoofllhdaaDoor
