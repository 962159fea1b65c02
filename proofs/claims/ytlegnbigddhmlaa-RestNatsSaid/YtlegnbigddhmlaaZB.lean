/- How slices of small integers stand in memory: 'Rd' (it reads as this list) and 'Own' (it reads so, and lies in a row of the call's own); the walk's laws for an index, a load, a store, an append, a make over them. No program is in sight here.
   More of the walk over slices: 'make' with a capacity of its own, 'a[k:]'. No program is in sight here.
   Texts as lists of bytes; '[]byte(s)'. No program is in sight here.
   Blocks of a call's own that are known whole: 'Bx'; worlds that differ in one block: 'Only'; a world that has been laid is put behind a name. No program is in sight here. -/
import Derived.Test.YtlegnbigddhmlaaZA
import Derived.WalkKit
import Derived.WalkSpells
import Derived.WalkLawsBesides
import Derived.Deep.QuietTactic
import Derived.BigQuiet
import Derived.StillTailTactics
import Derived.Lib.Hide
import Derived.Deep.DeepMust
import Derived.Maps.AppendAt
import Derived.Lib.ConvBytes
namespace Go.Slip
open Go.RowKit

/-- The length of a slice in a slot: for a loop's measure. -/
def slLen : Value → Nat | .slice _ n _ => n | _ => 0

theorem ret_slice {p : Option Addr} {n m c : Nat} (h : n = m) : Ending.returned (.slice p n c) = .returned (.slice p m c) := by rw [h]
theorem ret_int {k : IntKind} {m n : Int} (h : m = n) : Ending.returned (.int k m) = .returned (.int k n) := by rw [h]
theorem ret_bool {m n : Bool} (h : m = n) : Ending.returned (.bool m) = .returned (.bool n) := by rw [h]

/-- An upper half and a lower one, put together. -/
theorem or32 (r x : Nat) (hr : r < 4294967296) (hx : x < 4294967296) : bits .or .u64 ((r : Int) * 4294967296) (x : Int) = (r : Int) * 4294967296 + (x : Int) := by
  have h := u64_or_nat (r * 4294967296) x (by omega) (by omega)
  rw [nat_join 32 (r * 4294967296) x (by omega) (by omega)] at h
  simp only [Int.natCast_add, Int.natCast_mul] at h
  exact h

/-- Where element j lies. -/
def at_ (p : Option Addr) (j : Nat) : Addr := ⟨(p.getD ⟨0, 0, none⟩).block, (p.getD ⟨0, 0, none⟩).off + j, none⟩

/-- The block. -/
def blk (p : Option Addr) : Nat := (p.getD ⟨0, 0, none⟩).block
@[simp] theorem at_block (p : Option Addr) (j : Nat) : (at_ p j).block = blk p := rfl

/-- Where there is an element there is an address. -/
def Solid (p : Option Addr) (n : Nat) : Prop := 0 < n → p.isSome = true ∧ (p.getD ⟨0, 0, none⟩).spot = none

theorem Solid.mono {p : Option Addr} {n m : Nat} (h : Solid p n) (hm : m ≤ n) : Solid p m := fun h0 => h (by omega)

theorem Solid.some {p : Option Addr} {n : Nat} (h : Solid p n) (h0 : 0 < n) : p = some ⟨blk p, (p.getD ⟨0, 0, none⟩).off, none⟩ := by
  obtain ⟨h1, h2⟩ := h h0
  cases p with
  | none => simp at h1
  | some a => cases a; simp [blk] at *; exact h2

/-- A slice over these cells reads as this list. -/
structure Rd (w : World) (k : IntKind) (p : Option Addr) (xs : List Nat) : Prop where
  solid : Solid p xs.length
  cells : ∀ j, j < xs.length → w.cell? (at_ p j) = some (.int k ((dg xs j : Nat) : Int))

theorem Rd.nil (w : World) (k : IntKind) (p : Option Addr) : Rd w k p [] := ⟨fun h => by simp at h, fun j hj => by simp at hj⟩

theorem Rd.lt {w : World} {k : IntKind} {p : Option Addr} {xs : List Nat} (h : Rd w k p xs) (h0 : 0 < xs.length) : blk p < w.heap.size :=
  World.block_lt_of_cell? w (at_ p 0) (h.cells 0 h0)

theorem Rd.same {w w' : World} {k : IntKind} {p : Option Addr} {xs : List Nat} (h : Rd w k p xs) (hb : 0 < xs.length → w'.heap[blk p]? = w.heap[blk p]?) : Rd w' k p xs :=
  ⟨h.solid, fun j hj => by rw [World.cell?_of_block (w := w) (a := at_ p j) (hb (by omega))]; exact h.cells j hj⟩

theorem Rd.below {w w' : World} {B : Nat} {k : IntKind} {p : Option Addr} {xs : List Nat} (h : Rd w k p xs) (hb : Below B w w') (hp : 0 < xs.length → blk p < B) : Rd w' k p xs :=
  h.same fun h0 => hb.block _ (hp h0)

theorem Rd.past {w w' : World} {k : IntKind} {p : Option Addr} {xs : List Nat} (h : Rd w k p xs) (hb : Below w.heap.size w w') : Rd w' k p xs :=
  h.below hb fun h0 => h.lt h0

theorem Rd.grown {w w' : World} {k : IntKind} {p : Option Addr} {xs : List Nat} {row : Option Nat} (h : Rd w k p xs) (hg : w.grownBy w' row) (hne : some (blk p) ≠ row) : Rd w' k p xs :=
  h.same fun h0 => hg.block _ (h.lt h0) hne

theorem Rd.take {w : World} {k : IntKind} {p : Option Addr} {xs : List Nat} (h : Rd w k p xs) (n : Nat) : Rd w k p (xs.take n) := by
  refine ⟨h.solid.mono (by simp; omega), fun j hj => ?_⟩
  rw [h.cells j (by simp at hj; omega)]
  simp only [List.length_take] at hj
  rw [dg_take (by omega)]

theorem getD_add (p : Option Addr) (m : Nat) (hp : p.isSome = true) : ((p.map (·.add m)).getD ⟨0, 0, none⟩) = (p.getD ⟨0, 0, none⟩).add m := by
  cases p <;> simp at *

theorem at_map (p : Option Addr) (m j : Nat) (hp : p.isSome = true) : at_ (p.map (·.add m)) j = at_ p (m + j) := by
  unfold at_
  rw [getD_add p m hp]
  unfold Addr.add
  split <;> simp_all [Nat.add_assoc]

theorem Rd.drop {w : World} {k : IntKind} {p : Option Addr} {xs : List Nat} (h : Rd w k p xs) (n : Nat) : Rd w k (p.map (·.add n)) (xs.drop n) := by
  refine ⟨fun h0 => ?_, fun j hj => ?_⟩
  · have h1 := h.solid (by simp at h0; omega)
    refine ⟨by simpa using h1.1, ?_⟩
    rw [getD_add p n h1.1]
    unfold Addr.add
    split
    · exact h1.2
    · rfl
  · simp only [List.length_drop] at hj
    have h1 := h.solid (by omega)
    rw [at_map p n j h1.1, h.cells (n + j) (by omega), dg_drop]

/-- A slice in a row of the call's own: from block 'base' on, not frozen, its first cells this list. -/
def Own (w : World) (base : Nat) (k : IntKind) (e : TypeId) (p : Option Addr) (c : Nat) (xs : List Nat) : Prop :=
  w.ownsRow base e 1 (.slice p xs.length c) xs.length (xs.map fun x : Nat => Value.int k (x : Int))

theorem Own.nil (w : World) (base : Nat) (k : IntKind) (e : TypeId) : Own w base k e none 0 [] := World.ownsRow_nil w base e 1

theorem Own.form {w : World} {base : Nat} {k : IntKind} {e : TypeId} {p : Option Addr} {c : Nat} {xs : List Nat} (h : Own w base k e p c xs) :
    (p = none ∧ c = 0 ∧ xs = []) ∨ ∃ g, p = some ⟨g, 0, none⟩ ∧ base ≤ g ∧ g < w.heap.size ∧ xs.length ≤ c ∧ c ≤ maxLen := by
  rcases h.2 with ⟨h1, h2⟩ | ⟨g, cap, cur, hv, hb, hg, hn, hc, _, _⟩
  · left
    simp only [Value.slice.injEq] at h1
    exact ⟨h1.1, h1.2.2, List.eq_nil_of_length_eq_zero h2⟩
  · right
    simp only [Value.slice.injEq] at hv
    obtain ⟨rfl, _, rfl⟩ := hv
    exact ⟨g, rfl, hb, (Array.getElem?_eq_some_iff.1 hg).1, hn, hc⟩

theorem Own.mono {w : World} {base b' : Nat} {k : IntKind} {e : TypeId} {p : Option Addr} {c : Nat} {xs : List Nat} (h : Own w base k e p c xs) (hb : b' ≤ base) : Own w b' k e p c xs := by
  refine ⟨h.1, ?_⟩
  rcases h.2 with h1 | ⟨g, cap, cur, hv, hbg, r⟩
  · exact .inl h1
  · exact .inr ⟨g, cap, cur, hv, by omega, r⟩

theorem Own.le_cap {w : World} {base : Nat} {k : IntKind} {e : TypeId} {p : Option Addr} {c : Nat} {xs : List Nat} (h : Own w base k e p c xs) : xs.length ≤ c := by
  rcases h.form with ⟨_, rfl, rfl⟩ | ⟨g, _, _, _, h, _⟩
  · simp
  · exact h

theorem Own.rd {w : World} {base : Nat} {k : IntKind} {e : TypeId} {p : Option Addr} {c : Nat} {xs : List Nat} (h : Own w base k e p c xs) : Rd w k p xs := by
  rcases h.form with ⟨rfl, _, rfl⟩ | ⟨g, rfl, _⟩
  · exact Rd.nil w k none
  · refine ⟨fun _ => ⟨rfl, rfl⟩, fun j hj => ?_⟩
    have h1 := World.ownsRow.cellAt (w := w) (base := base) (e := e) (size := 1) (g := g) (n := xs.length) (cap := c) h j (by omega)
    simp only [at_, Option.getD_some, Nat.zero_add]
    rw [h1]
    simp [hj, dg_of_lt]

theorem Own.solid {w : World} {base : Nat} {k : IntKind} {e : TypeId} {p : Option Addr} {c : Nat} {xs : List Nat} (h : Own w base k e p c xs) : Solid p xs.length := h.rd.solid

theorem Own.blk_lt {w : World} {base : Nat} {k : IntKind} {e : TypeId} {p : Option Addr} {c : Nat} {xs : List Nat} (h : Own w base k e p c xs) (hp : p.isSome = true) : base ≤ blk p ∧ blk p < w.heap.size := by
  rcases h.form with ⟨rfl, _, rfl⟩ | ⟨g, rfl, h1, h2, _⟩
  · simp at hp
  · exact ⟨h1, h2⟩

theorem Own.same {w w' : World} {base : Nat} {k : IntKind} {e : TypeId} {p : Option Addr} {c : Nat} {xs : List Nat} (h : Own w base k e p c xs) (hb : p.isSome = true → w'.heap[blk p]? = w.heap[blk p]?) : Own w' base k e p c xs := by
  refine ⟨h.1, ?_⟩
  rcases h.2 with h1 | ⟨g, cap, cur, hv, hbg, hg, r⟩
  · exact .inl h1
  · simp only [Value.slice.injEq] at hv
    obtain ⟨rfl, h2, rfl⟩ := hv
    exact .inr ⟨g, c, cur, rfl, hbg, by rw [← hg]; exact hb rfl, r⟩

theorem Own.below {w w' : World} {base B : Nat} {k : IntKind} {e : TypeId} {p : Option Addr} {c : Nat} {xs : List Nat} (h : Own w base k e p c xs) (hb : Below B w w') (hp : p.isSome = true → blk p < B) : Own w' base k e p c xs :=
  h.same fun h0 => hb.block _ (hp h0)

theorem Own.past {w w' : World} {base : Nat} {k : IntKind} {e : TypeId} {p : Option Addr} {c : Nat} {xs : List Nat} (h : Own w base k e p c xs) (hb : Below w.heap.size w w') : Own w' base k e p c xs :=
  h.below hb fun h0 => (h.blk_lt h0).2

theorem Own.grown {w w' : World} {base : Nat} {k : IntKind} {e : TypeId} {p : Option Addr} {c : Nat} {xs : List Nat} {row : Option Nat} (h : Own w base k e p c xs) (hg : w.grownBy w' row) (hne : p.isSome = true → some (blk p) ≠ row) : Own w' base k e p c xs :=
  h.same fun h0 => hg.block _ (h.blk_lt h0).2 (hne h0)

theorem Rd.drew {w : World} {k : IntKind} {p : Option Addr} {xs : List Nat} (h : Rd w k p xs) : Rd w.drew k p xs := ⟨h.solid, h.cells⟩
theorem Own.drew {w : World} {base : Nat} {k : IntKind} {e : TypeId} {p : Option Addr} {c : Nat} {xs : List Nat} (h : Own w base k e p c xs) : Own w.drew base k e p c xs := ⟨h.1, h.2⟩

theorem Rd.drewN {w : World} {k : IntKind} {p : Option Addr} {xs : List Nat} (h : Rd w k p xs) (n : Nat) : Rd (w.drewN n) k p xs := h.past (below_drewN (Below.refl _ _) n)
theorem Own.drewN {w : World} {base : Nat} {k : IntKind} {e : TypeId} {p : Option Addr} {c : Nat} {xs : List Nat} (h : Own w base k e p c xs) (n : Nat) : Own (w.drewN n) base k e p c xs := h.past (below_drewN (Below.refl _ _) n)

theorem Own.laid {w : World} {base : Nat} {k : IntKind} {e : TypeId} {p : Option Addr} {c : Nat} {xs : List Nat} (h : Own w base k e p c xs) (o : Obj) : Own (w.alloc o) base k e p c xs :=
  h.past ((Below.refl _ _).alloc (Nat.le_refl _) o)
theorem Rd.laid {w : World} {k : IntKind} {p : Option Addr} {xs : List Nat} (h : Rd w k p xs) (o : Obj) : Rd (w.alloc o) k p xs :=
  h.past ((Below.refl _ _).alloc (Nat.le_refl _) o)

/-- A new block of two numbers. -/
theorem own_two (w : World) (k : IntKind) (e : TypeId) (m n : Int) (h0 : 0 ≤ m) (h1 : 0 ≤ n) : Own (w.alloc (.cells #[.int k m, .int k n] e)) w.heap.size k e (some ⟨w.heap.size, 0, none⟩) 2 [m.toNat, n.toNat] := by
  unfold Own
  simp only [List.map_cons, List.map_nil, Int.toNat_of_nonneg h0, Int.toNat_of_nonneg h1, List.length_cons, List.length_nil]
  exact World.ownsRow_lit w #[.int k m, .int k n] 2 (Nat.le_refl _) (by simp [maxLen]) rfl

theorem own_one (w : World) (k : IntKind) (e : TypeId) (m : Int) (h0 : 0 ≤ m) : Own (w.alloc (.cells #[.int k m] e)) w.heap.size k e (some ⟨w.heap.size, 0, none⟩) 1 [m.toNat] := by
  unfold Own
  simp only [List.map_cons, List.map_nil, Int.toNat_of_nonneg h0, List.length_cons, List.length_nil]
  exact World.ownsRow_lit w #[.int k m] 1 (Nat.le_refl _) (by simp [maxLen]) rfl

/-- A shorter slice of the same row. -/
theorem Own.take {w : World} {base : Nat} {k : IntKind} {e : TypeId} {p : Option Addr} {c : Nat} {xs : List Nat} (h : Own w base k e p c xs) (n : Nat) : Own w base k e p c (xs.take n) := by
  by_cases hn : xs.length ≤ n
  · rw [List.take_of_length_le hn]; exact h
  · refine ⟨by simp, ?_⟩
    rcases h.2 with ⟨h1, h2⟩ | ⟨g, cap, cur, hv, hbg, hg, hnc, hc, hcs, htake⟩
    · omega
    · simp only [Value.slice.injEq] at hv
      obtain ⟨rfl, _, rfl⟩ := hv
      have hl : (xs.take n).length = n := by simp; omega
      refine .inr ⟨g, c, cur, by rw [hl], hbg, hg, by omega, hc, hcs, ?_⟩
      rw [hl, Nat.mul_one, List.map_take, ← htake, List.take_take]
      congr 1
      omega

/-- The same row, seen with another capacity. -/
theorem stored_own {w : World} {base : Nat} {k : IntKind} {e : TypeId} {p : Option Addr} {c : Nat} {xs : List Nat} (h : Own w base k e p c xs) (j : Nat) (hj : j < xs.length) (n : Nat) :
    Own (w.setCell (at_ p j) (.int k (n : Int))) base k e p c (xs.set j n) ∧ w.grownBy (w.setCell (at_ p j) (.int k (n : Int))) (some (blk p)) ∧ base ≤ blk p := by
  rcases h.form with ⟨rfl, _, rfl⟩ | ⟨g, rfl, hb, _⟩
  · simp at hj
  · have h1 := World.ownsRow.stored (w := w) (base := base) (e := e) (size := 1) (g := g) (n := xs.length) (cap := c) h j (.int k (n : Int))
    simp only [at_, Option.getD_some, Nat.zero_add]
    refine ⟨?_, h1.2, hb⟩
    unfold Own
    rw [List.length_set, List.map_set]
    exact h1.1

theorem frozen_own {w : World} {base : Nat} {k : IntKind} {e : TypeId} {p : Option Addr} {c : Nat} {xs : List Nat} (h : Own w base k e p c xs) (j : Nat) (hj : j < xs.length) : w.frozen? (at_ p j) = false := by
  rcases h.form with ⟨rfl, _, rfl⟩ | ⟨g, rfl, hb, _⟩
  · simp at hj
  · simpa [at_] using World.ownsRow.frozenAt (w := w) (base := base) (e := e) (size := 1) (g := g) (n := xs.length) (cap := c) h j

/-- A slice that is written to lies in another block than a list that is read (if that one has something). -/
def Apart (p q : Option Addr) (ys : List Nat) : Prop := 0 < ys.length → p.isSome = true → blk p ≠ blk q

theorem Apart.none (q : Option Addr) (ys : List Nat) : Apart none q ys := fun _ h => by simp at h

theorem Rd.appended {w w' : World} {k : IntKind} {p q : Option Addr} {ys : List Nat} (h : Rd w k q ys) (hg : w.grownBy w' (p.map (·.block))) (ha : Apart p q ys) : Rd w' k q ys := by
  refine h.same fun h0 => hg.block _ (h.lt h0) fun e => ?_
  cases p with
  | none => simp at e
  | some a => simp at e; exact ha h0 rfl e.symm

theorem Rd.written {w w' : World} {k : IntKind} {p q : Option Addr} {ys : List Nat} (h : Rd w k q ys) (hg : w.grownBy w' (some (blk p))) (ha : Apart p q ys) (hp : p.isSome = true) : Rd w' k q ys :=
  h.same fun h0 => hg.block _ (h.lt h0) fun e => ha h0 hp (by simpa using e.symm)

theorem Apart.next {w : World} {k : IntKind} {p p' q : Option Addr} {ys : List Nat} (h : Apart p q ys) (hr : Rd w k q ys) (hat : p'.isSome = true → p.map (·.block) = some (blk p') ∨ blk p' = w.heap.size) : Apart p' q ys := by
  intro h0 hp
  rcases hat hp with e | e
  · cases p with
    | none => simp at e
    | some a => simp at e; rw [← e]; exact h h0 rfl
  · have := hr.lt h0; omega

section laws
variable {P : Program} (w : World)

theorem add_at (p : Option Addr) (n j : Nat) (h : Solid p n) (h0 : 0 < n) : (p.getD ⟨0, 0, none⟩).add j = at_ p j := by
  have h1 := h h0
  unfold Addr.add at_
  split
  · rename_i hj; subst hj
    generalize p.getD ⟨0, 0, none⟩ = a at *
    cases a; simp at *; exact h1.2
  · rfl

/-- An index, whatever the slice's address. -/
@[go_sem] theorem run_indexAt_solid (t : TypeId) (p : Option Addr) (n c : Nat) (k : IntKind) (i : Int) (h : P.underlying t = some (.slice (P.elem t))) (hp : Solid p n) :
    (Instr.indexAt t (.slice p n c) (.int k i)).run P w =
      if 0 ≤ i ∧ i < n then ((sizeOf (P.elem t)).run P w).andThen fun s w => .ok (.pointer (some (at_ p (i.toNat * s)))) w else (boundsPanic k i n .index).run P w := by
  cases p with
  | none =>
    have hn : n = 0 := by
      rcases Nat.eq_zero_or_pos n with h0 | h0
      · exact h0
      · have := (hp h0).1; simp at this
    subst hn
    rw [if_neg (by omega)]
    simp [Instr.indexAt, run_underlying h, asIntOf]
  | some a =>
    rw [run_indexAt_slice (h := h)]
    by_cases hi : 0 ≤ i ∧ i < n
    · rw [if_pos hi, if_pos hi]
      have ha := fun s => add_at (some a) n (i.toNat * s) hp (by omega)
      simp only [Option.getD_some] at ha
      simp only [ha]
    · rw [if_neg hi, if_neg hi]

/-- A slice against nil. -/
@[go_sem] theorem run_eql_slice_none (t : TypeId) (p : Option Addr) (n c : Nat) (h : P.underlying t = some (.slice (P.elem t))) :
    (binOp .eql t (.slice p n c) (.slice none 0 0)).run P w = .ok (.bool p.isNone) w := Lib.run_eql_slice_nil w t (P.elem t) p n c 0 0 h

end laws

/-- What the walk asks of a slice type: its elements are integers of one kind, one cell each. -/
structure SlTy (P : Program) (t e : TypeId) (k : IntKind) (bytes : Nat) : Prop where
  ht : P.underlying t = some (.slice e)
  hi : ∃ i, P.info? e = some i ∧ i.zero = some (.int k 0) ∧ i.size = 1 ∧ i.bytes = bytes
  le : bytes ≤ 8

section walk
variable {P : Program} {ops : Array Oper} {rest : List Oper} {o : Oper} {a : Act} {K : Act → World → Prop} {Q : Exit → Act → World → Prop} {w : World}

/-- The law on 'grownBy', as 'Below'. -/
theorem below_of_grown {w w' : World} {B : Nat} {row : Option Nat} (hg : w.grownBy w' row) (hB : B ≤ w.heap.size) (hr : ∀ k, row = some k → B ≤ k) : Below B w w' :=
  (Below.refl B w).grown hg hB hr

/-- A store into a row of the call's own. -/
theorem wp_store (x y : Operand) (t : TypeId) (ho : o.op = .store t x y) {ts k bytes} (e : TypeId) (hty : SlTy P ts t k bytes)
    (base : Nat) (p : Option Addr) (c : Nat) (xs : List Nat) (hown : Own w base k e p c xs) (j : Nat) (hj : j < xs.length) (n : Int) (h0 : 0 ≤ n)
    (hx : a.eval x = .pointer (some (at_ p j))) (hy : a.eval y = .int k n)
    (h : ∀ w', Own w' base k e p c (xs.set j n.toNat) → w.grownBy w' (some (blk p)) → Below base w w' → K (a.put o.dst undef) w') : o.wp P a w K Q := by
  obtain ⟨i, hi, hz, hs, hb⟩ := hty.hi
  have h1 := stored_own hown j hj n.toNat
  have h2 := frozen_own hown j hj
  have h3 := hown.rd.cells j hj
  have en : ((n.toNat : Nat) : Int) = n := Int.toNat_of_nonneg h0
  rw [en] at h1
  unfold Oper.wp execOp
  simp only [ho, hx, hy, Instr.storeAt, Instr.sureAddr]
  have e1 : (storeVar t (at_ p j) (.int k n)).run P w = .ok () (w.setCell (at_ p j) (.int k n)) := by
    have ha : (at_ p j).add 0 = at_ p j := by simp [Addr.add]
    simp [storeVar, sizeOf, typeInfo, hi, hs, Value.cells, storeCells, ha, store, Sem.run, h2, h3]
  simp [e1, Oper.upon]
  have hlt := hown.rd.lt (by omega)
  exact (h _ h1.1 h1.2.1 (below_of_grown h1.2.1 (Nat.le_of_lt (Nat.lt_of_le_of_lt h1.2.2 hlt)) (fun k hk => by cases hk; exact h1.2.2)))

theorem wpl_store (hgd : o.guard = none) (x y : Operand) (t : TypeId) (ho : o.op = .store t x y) {ts k bytes} (e : TypeId) (hty : SlTy P ts t k bytes)
    (base : Nat) (p : Option Addr) (c : Nat) (xs : List Nat) (hown : Own w base k e p c xs) (j : Nat) (hj : j < xs.length) (n : Int) (h0 : 0 ≤ n)
    (hx : a.eval x = .pointer (some (at_ p j))) (hy : a.eval y = .int k n)
    (h : ∀ w', Own w' base k e p c (xs.set j n.toNat) → w.grownBy w' (some (blk p)) → Below base w w' → wpList P ops Q rest (a.put o.dst undef) w') : wpList P ops Q (o :: rest) a w :=
  wpList_plain hgd fun _ hK => wp_store x y t ho e hty base p c xs hown j hj n h0 hx hy fun w' h900 h901 h902 => hK _ _ (h w' h900 h901 h902)

theorem step_store {E : Prop} (hgd : o.guard = none) (x y : Operand) (t : TypeId) (ho : o.op = .store t x y) {ts k bytes} (e : TypeId) (hty : SlTy P ts t k bytes)
    (base : Nat) (p : Option Addr) (c : Nat) (xs : List Nat) (hown : Own w base k e p c xs) (j : Nat) (hj : j < xs.length) (n : Int) (h0 : 0 ≤ n)
    (hx : a.eval x = .pointer (some (at_ p j))) (hy : a.eval y = .int k n)
    (h : ∀ w', Own w' base k e p c (xs.set j n.toNat) → w.grownBy w' (some (blk p)) → Below base w w' → K (a.put o.dst undef) w') : if Region.wanted o (yielded ops a.tmps) = true then o.wp P a w K Q else E := by
  rw [if_pos (by simp [Region.wanted, hgd])]
  exact wp_store x y t ho e hty base p c xs hown j hj n h0 hx hy h

theorem oneCell_int {k : IntKind} {xs : List Nat} : ∀ u ∈ xs.map (fun x : Nat => Value.int k (x : Int)), u.oneCell' = true := by
  intro u hu
  obtain ⟨x, _, rfl⟩ := List.mem_map.1 hu
  rfl

/-- An append onto a row of the call's own, whatever is appended. -/
theorem run_append_rd (w : World) {t e : TypeId} {k : IntKind} {bytes : Nat} (hty : SlTy P t e k bytes) (ty : TypeId) (base : Nat) (p : Option Addr) (c : Nat) (xs : List Nat) (hown : Own w base k e p c xs)
    (q : Option Addr) (c2 : Nat) (ys : List Nat) (hrd : Rd w k q ys) (hb : (xs.length + ys.length) * bytes ≤ 140737488355328) (h63 : xs.length + ys.length ≤ maxLen) (hbase : base ≤ w.heap.size) :
    ∃ p' c' w', (Builtin.append_ #[t, t] ty #[.slice p xs.length c, .slice q ys.length c2]).run P w = .ok (.slice p' (xs.length + ys.length) c') w' ∧ Own w' base k e p' c' (xs ++ ys) ∧
      w.grownBy w' (p.map (·.block)) ∧ ((p' = none ↔ p = none ∧ ys.length = 0) ∧ (p'.isSome = true → p.map (·.block) = some (blk p') ∨ blk p' = w.heap.size)) := by
  obtain ⟨i, hi, hz, hs, hbt⟩ := hty.hi
  by_cases hq : q = none
  · have h0 : ys = [] := by
      rcases Nat.eq_zero_or_pos ys.length with h | h
      · exact List.eq_nil_of_length_eq_zero h
      · have := (hrd.solid h).1; simp [hq] at this
    subst h0 hq
    refine ⟨p, c, w, ?_, by simpa using hown, ⟨rfl, rfl, rfl, Nat.le_refl _, fun _ _ _ => rfl⟩, by simp, fun h => .inl (by cases p <;> simp_all [blk])⟩
    have hle := hown.le_cap
    rcases hown.form with ⟨rfl, rfl, rfl⟩ | ⟨g, rfl, _⟩
    · simp [Builtin.append_, run_underlying hty.ht, sizeOf, typeInfo, hi, Builtin.lenOf, Builtin.firstCells]
    · simp [Builtin.append_, run_underlying hty.ht, sizeOf, typeInfo, hi, Builtin.lenOf, Builtin.firstCells, hle, storeCells]
  · obtain ⟨b, rfl⟩ := Option.ne_none_iff_exists'.1 hq
    have hnews : ∀ j u, (ys.map fun x : Nat => Value.int k (x : Int))[j]? = some u → w.cell? (b.add j) = some u := by
      intro j u hu
      have hj : j < ys.length := by
        have := (List.getElem?_eq_some_iff.1 hu).1; simpa using this
      have h1 := hrd.cells j hj
      have h2 := add_at (some b) ys.length j hrd.solid (by omega)
      simp only [Option.getD_some] at h2
      rw [h2, h1]
      rw [← hu]
      simp [hj, dg_of_lt]
    obtain ⟨v', w', hr, ho, hg, hn, hat⟩ := run_append_own_at (P := P) w base t ty e i (.int k 0) 1 bytes hty.ht hi hz hs hbt rfl (by omega) _ _ _ hown b ys.length c2 (ys.map fun x : Nat => Value.int k (x : Int)) (by simp) hnews oneCell_int h63 hb hbase
    have hv : ∃ p' c', v' = .slice p' (xs.length + ys.length) c' := by
      rcases ho.2 with ⟨h1, h2⟩ | ⟨g, cap, cur, h1, _⟩
      · exact ⟨none, 0, by rw [h1]; congr 1; omega⟩
      · exact ⟨_, _, h1⟩
    obtain ⟨p', c', rfl⟩ := hv
    refine ⟨p', c', w', hr, ?_, ?_, ?_⟩
    · unfold Own
      rw [List.length_append, List.map_append]
      exact ho
    · cases p with
      | none => exact hg
      | some a => exact hg
    · refine ⟨?_, fun hp' => ?_⟩
      rotate_left
      · obtain ⟨g, rfl⟩ := Option.isSome_iff_exists.1 hp'
        rcases hat with hat | hat
        · left
          simp only [Value.ownBlock] at hat
          cases p with
          | none => simp at hat
          | some a => simpa [blk] using hat.symm
        · right
          simpa [Value.ownBlock, blk] using hat
      constructor
      · rintro rfl
        rcases ho.2 with ⟨h1, h2⟩ | ⟨g, cap, cur, h1, _⟩
        · have h3 := hn.1 h1
          simp only [Value.slice.injEq] at h3
          exact ⟨h3.1.1, h3.2⟩
        · simp at h1
      · rintro ⟨rfl, h0⟩
        have hx0 : xs.length = 0 ∧ c = 0 := by
          rcases hown.form with ⟨_, h1, h2⟩ | ⟨g, h1, _⟩
          · exact ⟨by simp [h2], h1⟩
          · simp at h1
        have h3 := hn.2 ⟨by rw [hx0.1, hx0.2], h0⟩
        simp only [Value.slice.injEq] at h3
        exact h3.1

/-- The same in the walk; the new length as 'xs ++ ys' has it. -/
theorem wp_append (s x : Operand) (t : TypeId) (ho : o.op = .call { callee := .builtin .append, args := #[s, x], argTypes := #[t, t] })
    {e : TypeId} {k : IntKind} {bytes : Nat} (hty : SlTy P t e k bytes) (base : Nat) (p : Option Addr) (n c : Nat) (xs : List Nat) (hown : Own w base k e p c xs) (hn : n = xs.length)
    (q : Option Addr) (m c2 : Nat) (ys : List Nat) (hrd : Rd w k q ys) (hm : m = ys.length) (hs : a.eval s = .slice p n c) (hx : a.eval x = .slice q m c2)
    (hb : xs.length + ys.length ≤ 4000000000) (hbase : base ≤ w.heap.size)
    (h : ∀ p' c' w', Own w' base k e p' c' (xs ++ ys) → w.grownBy w' (p.map (·.block)) → Below base w w' → ((p' = none ↔ p = none ∧ ys.length = 0) ∧ (p'.isSome = true → p.map (·.block) = some (blk p') ∨ blk p' = w.heap.size)) → K (a.put o.dst (.slice p' (xs ++ ys).length c')) w') : o.wp P a w K Q := by
  subst hn hm
  obtain ⟨p', c', w', hr, h1, h2, h3⟩ := run_append_rd (P := P) w hty o.type base p c xs hown q c2 ys hrd (by have := Nat.mul_le_mul hb hty.le; omega) (by simp only [maxLen]; omega) hbase
  unfold Oper.wp execOp
  simp only [ho, resolve, invoke, builtin, Sem.run_bind, Sem.run_pure, Result.andThen_ok, List.map_toArray, List.map_cons, List.map_nil, hs, hx, hr]
  have h4 := h p' c' w' h1 h2 (below_of_grown h2 hbase fun k hk => by
    cases p with
    | none => cases hk
    | some a => have := (hown.blk_lt rfl).1; cases hk; exact this) h3
  rw [List.length_append] at h4
  exact h4

theorem wpl_append (hgd : o.guard = none) (s x : Operand) (t : TypeId) (ho : o.op = .call { callee := .builtin .append, args := #[s, x], argTypes := #[t, t] })
    {e : TypeId} {k : IntKind} {bytes : Nat} (hty : SlTy P t e k bytes) (base : Nat) (p : Option Addr) (n c : Nat) (xs : List Nat) (hown : Own w base k e p c xs) (hn : n = xs.length)
    (q : Option Addr) (m c2 : Nat) (ys : List Nat) (hrd : Rd w k q ys) (hm : m = ys.length) (hs : a.eval s = .slice p n c) (hx : a.eval x = .slice q m c2)
    (hb : xs.length + ys.length ≤ 4000000000) (hbase : base ≤ w.heap.size)
    (h : ∀ p' c' w', Own w' base k e p' c' (xs ++ ys) → w.grownBy w' (p.map (·.block)) → Below base w w' → ((p' = none ↔ p = none ∧ ys.length = 0) ∧ (p'.isSome = true → p.map (·.block) = some (blk p') ∨ blk p' = w.heap.size)) → wpList P ops Q rest (a.put o.dst (.slice p' (xs ++ ys).length c')) w') : wpList P ops Q (o :: rest) a w :=
  wpList_plain hgd fun _ hK => wp_append s x t ho hty base p n c xs hown hn q m c2 ys hrd hm hs hx hb hbase fun p' c' w' h900 h901 h902 h903 => hK _ _ (h p' c' w' h900 h901 h902 h903)

theorem step_append {E : Prop} (hgd : o.guard = none) (s x : Operand) (t : TypeId) (ho : o.op = .call { callee := .builtin .append, args := #[s, x], argTypes := #[t, t] })
    {e : TypeId} {k : IntKind} {bytes : Nat} (hty : SlTy P t e k bytes) (base : Nat) (p : Option Addr) (n c : Nat) (xs : List Nat) (hown : Own w base k e p c xs) (hn : n = xs.length)
    (q : Option Addr) (m c2 : Nat) (ys : List Nat) (hrd : Rd w k q ys) (hm : m = ys.length) (hs : a.eval s = .slice p n c) (hx : a.eval x = .slice q m c2)
    (hb : xs.length + ys.length ≤ 4000000000) (hbase : base ≤ w.heap.size)
    (h : ∀ p' c' w', Own w' base k e p' c' (xs ++ ys) → w.grownBy w' (p.map (·.block)) → Below base w w' → ((p' = none ↔ p = none ∧ ys.length = 0) ∧ (p'.isSome = true → p.map (·.block) = some (blk p') ∨ blk p' = w.heap.size)) → K (a.put o.dst (.slice p' (xs ++ ys).length c')) w') : if Region.wanted o (yielded ops a.tmps) = true then o.wp P a w K Q else E := by
  rw [if_pos (by simp [Region.wanted, hgd])]
  exact wp_append s x t ho hty base p n c xs hown hn q m c2 ys hrd hm hs hx hb hbase h

/-- 'make' of so many noughts. -/
theorem wp_make (x y : Operand) (t : TypeId) (ho : o.op = .makeSlice t x y) {e : TypeId} {k : IntKind} {bytes : Nat} (hty : SlTy P t e k bytes) (kl kc : IntKind) (n : Nat) (i1 i2 : Int)
    (hx : a.eval x = .int kl i1) (hy : a.eval y = .int kc i2) (h1 : i1 = n) (h2 : i2 = n) (hb : n ≤ 4000000000)
    (h : ∀ p' c' w', Own w' w.heap.size k e p' c' (List.replicate n 0) → Below w.heap.size w w' → w.heap.size < w'.heap.size → K (a.put o.dst (.slice p' n c')) w') : o.wp P a w K Q := by
  subst h1 h2
  obtain ⟨i, hi, hz, hs, hbt⟩ := hty.hi
  obtain ⟨w', hr, h1, h2⟩ := run_make_full (P := P) w w.heap.size t e i (.int k 0) 1 hty.ht hi hz hs kl kc n (by rw [hbt]; have := Nat.mul_le_mul hty.le hb; omega) (by simp only [maxLen]; omega) (Nat.le_refl _)
  unfold Oper.wp execOp
  simp only [ho, hx, hy]
  simp only [Sem.run_bind, hr, Result.andThen_ok, Sem.run_pure]
  refine (h _ _ w' ?_ (below_of_grown h2 (Nat.le_refl _) (fun k hk => by cases hk)) ?_)
  · unfold Own
    rw [List.length_replicate, List.map_replicate]
    have : (madeCells (Value.cells (.int k 0)) (n * 1)).toList = List.replicate n (.int k ((0 : Nat) : Int)) := by
      rw [Nat.mul_one]; exact toList_madeCells_one _ _
    rw [← this]
    exact h1
  · exact (World.ownsRow.lt h1 w.heap.size rfl).2

theorem wpl_make (hgd : o.guard = none) (x y : Operand) (t : TypeId) (ho : o.op = .makeSlice t x y) {e : TypeId} {k : IntKind} {bytes : Nat} (hty : SlTy P t e k bytes) (kl kc : IntKind) (n : Nat) (i1 i2 : Int)
    (hx : a.eval x = .int kl i1) (hy : a.eval y = .int kc i2) (h1 : i1 = n) (h2 : i2 = n) (hb : n ≤ 4000000000)
    (h : ∀ p' c' w', Own w' w.heap.size k e p' c' (List.replicate n 0) → Below w.heap.size w w' → w.heap.size < w'.heap.size → wpList P ops Q rest (a.put o.dst (.slice p' n c')) w') : wpList P ops Q (o :: rest) a w :=
  wpList_plain hgd fun _ hK => wp_make x y t ho hty kl kc n i1 i2 hx hy h1 h2 hb fun p' c' w' h900 h901 h902 => hK _ _ (h p' c' w' h900 h901 h902)

theorem step_make {E : Prop} (hgd : o.guard = none) (x y : Operand) (t : TypeId) (ho : o.op = .makeSlice t x y) {e : TypeId} {k : IntKind} {bytes : Nat} (hty : SlTy P t e k bytes) (kl kc : IntKind) (n : Nat) (i1 i2 : Int)
    (hx : a.eval x = .int kl i1) (hy : a.eval y = .int kc i2) (h1 : i1 = n) (h2 : i2 = n) (hb : n ≤ 4000000000)
    (h : ∀ p' c' w', Own w' w.heap.size k e p' c' (List.replicate n 0) → Below w.heap.size w w' → w.heap.size < w'.heap.size → K (a.put o.dst (.slice p' n c')) w') : if Region.wanted o (yielded ops a.tmps) = true then o.wp P a w K Q else E := by
  rw [if_pos (by simp [Region.wanted, hgd])]
  exact wp_make x y t ho hty kl kc n i1 i2 hx hy h1 h2 hb h

theorem range1 : Array.range 1 = #[0] := by decide
theorem range2 : Array.range 2 = #[0, 1] := by decide

/-- A literal slice of no element, one, or two. -/
theorem wp_build0 (t : TypeId) (ho : o.op = .buildSlice t 0 #[]) {e : TypeId} {k : IntKind} {bytes : Nat} (hty : SlTy P t e k bytes)
    (h : ∀ p' w', Own w' w.heap.size k e p' 0 [] → Below w.heap.size w w' → w.heap.size < w'.heap.size → p'.isSome = true → K (a.put o.dst (.slice p' 0 0)) w') : o.wp P a w K Q := by
  obtain ⟨i, hi, hz, hs, hbt⟩ := hty.hi
  unfold Oper.wp execOp
  simp only [ho]
  have hr : (Instr.buildSlice t 0 #[]).run P w = .ok (.slice (some ⟨w.heap.size, 0, none⟩) 0 0) (w.alloc (.cells #[] e)) := by
    simp [Instr.buildSlice, run_underlying hty.ht, sizeOf, typeInfo, hi, Instr.fill, newRow, Array.range_zero']
  simp [hr, Oper.upon]
  exact (h _ _ (World.ownsRow_lit w #[] 0 (Nat.le_refl _) (by simp [maxLen]) rfl) ((Below.refl _ _).alloc (Nat.le_refl _) _) (by simp) rfl)

theorem wpl_build0 (hgd : o.guard = none) (t : TypeId) (ho : o.op = .buildSlice t 0 #[]) {e : TypeId} {k : IntKind} {bytes : Nat} (hty : SlTy P t e k bytes)
    (h : ∀ p' w', Own w' w.heap.size k e p' 0 [] → Below w.heap.size w w' → w.heap.size < w'.heap.size → p'.isSome = true → wpList P ops Q rest (a.put o.dst (.slice p' 0 0)) w') : wpList P ops Q (o :: rest) a w :=
  wpList_plain hgd fun _ hK => wp_build0 t ho hty fun p' w' h900 h901 h902 h903 => hK _ _ (h p' w' h900 h901 h902 h903)

theorem step_build0 {E : Prop} (hgd : o.guard = none) (t : TypeId) (ho : o.op = .buildSlice t 0 #[]) {e : TypeId} {k : IntKind} {bytes : Nat} (hty : SlTy P t e k bytes)
    (h : ∀ p' w', Own w' w.heap.size k e p' 0 [] → Below w.heap.size w w' → w.heap.size < w'.heap.size → p'.isSome = true → K (a.put o.dst (.slice p' 0 0)) w') : if Region.wanted o (yielded ops a.tmps) = true then o.wp P a w K Q else E := by
  rw [if_pos (by simp [Region.wanted, hgd])]
  exact wp_build0 t ho hty h

theorem wp_build1 (t : TypeId) (y : Operand) (ho : o.op = .buildSlice t 1 #[(0, y)]) {e : TypeId} {k : IntKind} {bytes : Nat} (hty : SlTy P t e k bytes) (n : Int) (h0 : 0 ≤ n) (hy : a.eval y = .int k n)
    (h : ∀ p' w', Own w' w.heap.size k e p' 1 [n.toNat] → Below w.heap.size w w' → w.heap.size < w'.heap.size → p'.isSome = true → K (a.put o.dst (.slice p' 1 1)) w') : o.wp P a w K Q := by
  obtain ⟨i, hi, hz, hs, hbt⟩ := hty.hi
  unfold Oper.wp execOp
  have en : ((n.toNat : Nat) : Int) = n := Int.toNat_of_nonneg h0
  simp only [ho]
  have hr : (Instr.buildSlice t 1 #[(0, .int k n)]).run P w = .ok (.slice (some ⟨w.heap.size, 0, none⟩) 1 1) (w.alloc (.cells #[.int k n] e)) := by
    simp [Instr.buildSlice, run_underlying hty.ht, sizeOf, typeInfo, hi, hs, Instr.fill, newRow, zeroValue, hz, Value.cells, List.zipIdx, range1]
  simp [hr, hy, Oper.upon]
  refine (h _ _ ?_ ((Below.refl _ _).alloc (Nat.le_refl _) _) (by simp) rfl)
  unfold Own
  simp only [List.map_cons, List.map_nil, en, List.length_cons, List.length_nil]
  exact World.ownsRow_lit w #[.int k n] 1 (Nat.le_refl _) (by simp [maxLen]) rfl

theorem wpl_build1 (hgd : o.guard = none) (t : TypeId) (y : Operand) (ho : o.op = .buildSlice t 1 #[(0, y)]) {e : TypeId} {k : IntKind} {bytes : Nat} (hty : SlTy P t e k bytes) (n : Int) (h0 : 0 ≤ n) (hy : a.eval y = .int k n)
    (h : ∀ p' w', Own w' w.heap.size k e p' 1 [n.toNat] → Below w.heap.size w w' → w.heap.size < w'.heap.size → p'.isSome = true → wpList P ops Q rest (a.put o.dst (.slice p' 1 1)) w') : wpList P ops Q (o :: rest) a w :=
  wpList_plain hgd fun _ hK => wp_build1 t y ho hty n h0 hy fun p' w' h900 h901 h902 h903 => hK _ _ (h p' w' h900 h901 h902 h903)

theorem step_build1 {E : Prop} (hgd : o.guard = none) (t : TypeId) (y : Operand) (ho : o.op = .buildSlice t 1 #[(0, y)]) {e : TypeId} {k : IntKind} {bytes : Nat} (hty : SlTy P t e k bytes) (n : Int) (h0 : 0 ≤ n) (hy : a.eval y = .int k n)
    (h : ∀ p' w', Own w' w.heap.size k e p' 1 [n.toNat] → Below w.heap.size w w' → w.heap.size < w'.heap.size → p'.isSome = true → K (a.put o.dst (.slice p' 1 1)) w') : if Region.wanted o (yielded ops a.tmps) = true then o.wp P a w K Q else E := by
  rw [if_pos (by simp [Region.wanted, hgd])]
  exact wp_build1 t y ho hty n h0 hy h

theorem wp_build2 (t : TypeId) (x y : Operand) (ho : o.op = .buildSlice t 2 #[(0, x), (1, y)]) {e : TypeId} {k : IntKind} {bytes : Nat} (hty : SlTy P t e k bytes) (m n : Int) (h0 : 0 ≤ m) (h1 : 0 ≤ n) (hx : a.eval x = .int k m) (hy : a.eval y = .int k n)
    (h : ∀ p' w', Own w' w.heap.size k e p' 2 [m.toNat, n.toNat] → Below w.heap.size w w' → w.heap.size < w'.heap.size → p'.isSome = true → K (a.put o.dst (.slice p' 2 2)) w') : o.wp P a w K Q := by
  obtain ⟨i, hi, hz, hs, hbt⟩ := hty.hi
  unfold Oper.wp execOp
  have em : ((m.toNat : Nat) : Int) = m := Int.toNat_of_nonneg h0
  have en : ((n.toNat : Nat) : Int) = n := Int.toNat_of_nonneg h1
  simp only [ho]
  have hr : (Instr.buildSlice t 2 #[(0, .int k m), (1, .int k n)]).run P w = .ok (.slice (some ⟨w.heap.size, 0, none⟩) 2 2) (w.alloc (.cells #[.int k m, .int k n] e)) := by
    simp [Instr.buildSlice, run_underlying hty.ht, sizeOf, typeInfo, hi, hs, Instr.fill, newRow, zeroValue, hz, Value.cells, List.zipIdx, range2]
  simp [hr, hx, hy, Oper.upon]
  refine (h _ _ ?_ ((Below.refl _ _).alloc (Nat.le_refl _) _) (by simp) rfl)
  unfold Own
  simp only [List.map_cons, List.map_nil, em, en, List.length_cons, List.length_nil]
  exact World.ownsRow_lit w #[.int k m, .int k n] 2 (Nat.le_refl _) (by simp [maxLen]) rfl

theorem wpl_build2 (hgd : o.guard = none) (t : TypeId) (x y : Operand) (ho : o.op = .buildSlice t 2 #[(0, x), (1, y)]) {e : TypeId} {k : IntKind} {bytes : Nat} (hty : SlTy P t e k bytes) (m n : Int) (h0 : 0 ≤ m) (h1 : 0 ≤ n) (hx : a.eval x = .int k m) (hy : a.eval y = .int k n)
    (h : ∀ p' w', Own w' w.heap.size k e p' 2 [m.toNat, n.toNat] → Below w.heap.size w w' → w.heap.size < w'.heap.size → p'.isSome = true → wpList P ops Q rest (a.put o.dst (.slice p' 2 2)) w') : wpList P ops Q (o :: rest) a w :=
  wpList_plain hgd fun _ hK => wp_build2 t x y ho hty m n h0 h1 hx hy fun p' w' h900 h901 h902 h903 => hK _ _ (h p' w' h900 h901 h902 h903)

theorem step_build2 {E : Prop} (hgd : o.guard = none) (t : TypeId) (x y : Operand) (ho : o.op = .buildSlice t 2 #[(0, x), (1, y)]) {e : TypeId} {k : IntKind} {bytes : Nat} (hty : SlTy P t e k bytes) (m n : Int) (h0 : 0 ≤ m) (h1 : 0 ≤ n) (hx : a.eval x = .int k m) (hy : a.eval y = .int k n)
    (h : ∀ p' w', Own w' w.heap.size k e p' 2 [m.toNat, n.toNat] → Below w.heap.size w w' → w.heap.size < w'.heap.size → p'.isSome = true → K (a.put o.dst (.slice p' 2 2)) w') : if Region.wanted o (yielded ops a.tmps) = true then o.wp P a w K Q else E := by
  rw [if_pos (by simp [Region.wanted, hgd])]
  exact wp_build2 t x y ho hty m n h0 h1 hx hy h

/-- A text of these bytes. -/
def strOf (xs : List Nat) : ByteArray := ⟨(xs.map UInt8.ofNat).toArray⟩

theorem strOf_data (xs : List Nat) : (strOf xs).data.toList = xs.map UInt8.ofNat := by simp [strOf]
theorem strOf_size (xs : List Nat) : (strOf xs).size = xs.length := by simp [strOf, ByteArray.size]

theorem strOf_nums (xs : List Nat) : strOfNums (xs.map fun x : Nat => (x : Int)) = strOf xs := by
  simp [strOfNums, strOf]

theorem run_convert_str (w : World) (src dst e : TypeId) (hs : P.underlying src = some (.slice e)) (he : P.underlying e = some (.int .u8)) (hd : P.underlying dst = some .string) (p : Option Addr) (n c : Nat) (xs : List Nat) (hr : Rd w .u8 p xs) (hn : n = xs.length) :
    (convert src dst (.slice p n c)).run P w = .ok (.string (strOf xs)) w := by
  subst hn
  by_cases h0 : 0 < xs.length
  · have hp := hr.solid.some h0
    rw [hp, run_convert_bytes_arg w src e hs he _ _ xs.length c (xs.map fun x : Nat => (x : Int)) (by simp) (fun i hi => ?_) dst hd, strOf_nums]
    have h1 := hr.cells i hi
    unfold at_ at h1
    rw [show (blk p) = (p.getD ⟨0, 0, none⟩).block from rfl, h1]
    simp [List.getD, hi, dg_of_lt]
  · obtain rfl : xs = [] := List.eq_nil_of_length_eq_zero (by omega)
    cases p with
    | none => exact run_convert_bytes_nil w src e hs he 0 c dst hd
    | some a =>
      rw [run_convert_bytes_string w src dst e _ _ c hs he hd]
      show (Conv.bytesToString (.slice (some a) 0 c)).run P w = _
      rw [run_bytesToString w a 0 c [] (by simp [loadCells, loadCellsFrom, Sem.run_pure])]
      rfl

theorem wp_str (x : Operand) (src dst : TypeId) (ho : o.op = .convert src dst x) {e : TypeId} (hs : P.underlying src = some (.slice e)) (he : P.underlying e = some (.int .u8)) (hd : P.underlying dst = some .string)
    (p : Option Addr) (n c : Nat) (xs : List Nat) (hr : Rd w .u8 p xs) (hn : n = xs.length) (hx : a.eval x = .slice p n c) (h : K (a.put o.dst (.string (strOf xs))) w) : o.wp P a w K Q := by
  unfold Oper.wp execOp
  simp only [ho, hx]
  have hr := run_convert_str (P := P) w src dst e hs he hd p n c xs hr hn
  simp [hr, Oper.upon]
  exact h

theorem wpl_str (hgd : o.guard = none) (x : Operand) (src dst : TypeId) (ho : o.op = .convert src dst x) {e : TypeId} (hs : P.underlying src = some (.slice e)) (he : P.underlying e = some (.int .u8)) (hd : P.underlying dst = some .string)
    (p : Option Addr) (n c : Nat) (xs : List Nat) (hr : Rd w .u8 p xs) (hn : n = xs.length) (hx : a.eval x = .slice p n c) (h : wpList P ops Q rest (a.put o.dst (.string (strOf xs))) w) : wpList P ops Q (o :: rest) a w :=
  wpList_plain hgd fun _ hK => wp_str x src dst ho hs he hd p n c xs hr hn hx (hK _ _ h)

end walk
end Go.Slip

namespace Go.Slip
open Go.RowKit

section walk
variable {P : Program} {ops : Array Oper} {rest : List Oper} {o : Oper} {a : Act} {K : Act → World → Prop} {Q : Exit → Act → World → Prop} {w : World}

/-- 'make' of so many noughts, with room for more. -/
theorem wp_make2 (x y : Operand) (t : TypeId) (ho : o.op = .makeSlice t x y) {e : TypeId} {k : IntKind} {bytes : Nat} (hty : SlTy P t e k bytes) (kl kc : IntKind) (n m : Nat) (i1 i2 : Int)
    (hx : a.eval x = .int kl i1) (hy : a.eval y = .int kc i2) (h1 : i1 = n) (h2 : i2 = m) (hnm : n ≤ m) (hb : m ≤ 4000000000)
    (h : ∀ p' c' w', Own w' w.heap.size k e p' c' (List.replicate n 0) → Below w.heap.size w w' → w.heap.size < w'.heap.size → K (a.put o.dst (.slice p' n c')) w') : o.wp P a w K Q := by
  subst h1 h2
  obtain ⟨i, hi, hz, hs, hbt⟩ := hty.hi
  have hbb : (i.bytes : Int) * (m : Int) ≤ 281474976710656 := by
    have h1 : m * i.bytes ≤ 4000000000 * 8 := Nat.mul_le_mul hb (by rw [hbt]; exact hty.le)
    have h2 : ((i.bytes * m : Nat) : Int) ≤ 281474976710656 := by rw [Nat.mul_comm]; omega
    rwa [Int.natCast_mul] at h2
  have hr := run_make (P := P) w t e i (.int k 0) hty.ht hi hz kl kc n m (by omega) (by omega) hbb (by omega)
  simp only [Int.toNat_natCast, hs, Nat.mul_one] at hr
  unfold Oper.wp execOp
  simp only [ho, hx, hy]
  simp only [Sem.run_bind, hr, Result.andThen_ok, Sem.run_pure]
  have hO : Own (w.alloc (.cells (madeCells (Value.cells (.int k 0)) m) e)) w.heap.size k e (some ⟨w.heap.size, 0, none⟩) m (List.replicate m 0) := by
    unfold Own
    rw [List.length_replicate, List.map_replicate]
    have : (madeCells (Value.cells (.int k 0)) m).toList = List.replicate m (.int k ((0 : Nat) : Int)) := toList_madeCells_one _ _
    rw [← this]
    exact World.ownsRow_lit w _ m (Nat.le_refl _) (by simp only [maxLen]; omega) (by simp [madeCells])
  have hO2 := hO.take n
  rw [List.take_replicate, Nat.min_eq_left hnm] at hO2
  exact h _ _ _ hO2 ((Below.refl _ _).alloc (Nat.le_refl _) _) (by simp)

theorem wpl_make2 (hgd : o.guard = none) (x y : Operand) (t : TypeId) (ho : o.op = .makeSlice t x y) {e : TypeId} {k : IntKind} {bytes : Nat} (hty : SlTy P t e k bytes) (kl kc : IntKind) (n m : Nat) (i1 i2 : Int)
    (hx : a.eval x = .int kl i1) (hy : a.eval y = .int kc i2) (h1 : i1 = n) (h2 : i2 = m) (hnm : n ≤ m) (hb : m ≤ 4000000000)
    (h : ∀ p' c' w', Own w' w.heap.size k e p' c' (List.replicate n 0) → Below w.heap.size w w' → w.heap.size < w'.heap.size → wpList P ops Q rest (a.put o.dst (.slice p' n c')) w') : wpList P ops Q (o :: rest) a w :=
  wpList_plain hgd fun _ hK => wp_make2 x y t ho hty kl kc n m i1 i2 hx hy h1 h2 hnm hb fun p' c' w' h900 h901 h902 => hK _ _ (h p' c' w' h900 h901 h902)

end walk

theorem sliced_low (p : Option Addr) (l n c : Nat) (h : l < c) : sliced p l n c 1 = .slice (p.map (·.add l)) (n - l) (c - l) := by
  unfold sliced
  rw [if_neg (by omega), Nat.mul_one]

end Go.Slip

namespace Go.Slip
open Go.RowKit

/-- A text as a list of its bytes. -/
def bytesOf (s : ByteArray) : List Nat := s.data.toList.map UInt8.toNat

theorem bytesOf_length (s : ByteArray) : (bytesOf s).length = s.size := by unfold bytesOf; rw [List.length_map, Array.length_toList]; rfl
theorem dg_bytesOf (s : ByteArray) (j : Nat) (h : j < s.size) : (s[j]'h).toNat = dg (bytesOf s) j := by
  rw [dg_of_lt (by rw [bytesOf_length]; exact h)]
  simp [bytesOf]; rfl
theorem bytesOf_lt (s : ByteArray) : ∀ x ∈ bytesOf s, x < 256 := by
  intro x hx
  obtain ⟨u, _, rfl⟩ := List.mem_map.1 hx
  exact u.toNat_lt

theorem bytesOf_extract (s : ByteArray) (i j : Nat) : bytesOf (s.extract i j) = ((bytesOf s).take j).drop i := by
  unfold bytesOf
  rw [ByteArray.data_extract, Array.toList_extract, List.extract_eq_take_drop]
  rw [← List.map_take, ← List.map_drop, List.drop_take]

/-- Decimal digits alone. -/
def AllDig (s : ByteArray) : Prop := ∀ j, j < s.size → 48 ≤ dg (bytesOf s) j ∧ dg (bytesOf s) j ≤ 57

theorem below_bytesWorld {w : World} {B : Nat} (hB : B ≤ w.heap.size) (e : TypeId) (s : ByteArray) : Below B w (Lib.bytesWorld w e s) := by
  refine ⟨?_, ?_, ?_, by rw [Lib.bytesWorld_size]; omega, fun i hi => Lib.bytesWorld_at_old w e s i (by omega)⟩
  all_goals (unfold Lib.bytesWorld World.freeze; split <;> rfl)

theorem rd_bytesWorld (w : World) (e : TypeId) (s : ByteArray) : Rd (Lib.bytesWorld w e s) .u8 (some ⟨w.heap.size, 0, none⟩) (bytesOf s) := by
  refine ⟨fun _ => ⟨rfl, rfl⟩, fun j hj => ?_⟩
  have hj2 : j < s.size := by rw [← bytesOf_length]; exact hj
  have h := Lib.bytesWorld_cell w e s j hj2
  simp only [at_, Option.getD_some, Nat.zero_add]
  rw [h, dg_of_lt hj]
  simp [bytesOf, List.getD, hj2]

section walk
variable {P : Program} {ops : Array Oper} {rest : List Oper} {o : Oper} {a : Act} {K : Act → World → Prop} {Q : Exit → Act → World → Prop} {w : World}

/-- '[]byte(s)'. -/
theorem wp_bytes (x : Operand) (src dst : TypeId) (ho : o.op = .convert src dst x) {e : TypeId} (hs : P.underlying src = some .string) (hd : P.underlying dst = some (.slice e)) (he : P.underlying e = some (.int .u8))
    (s : ByteArray) (hx : a.eval x = .string s) (h : ∀ p' c' w', Rd w' .u8 p' (bytesOf s) → Below w.heap.size w w' → K (a.put o.dst (.slice p' s.size c')) w') : o.wp P a w K Q := by
  unfold Oper.wp execOp
  simp only [ho, hx]
  have hr := Lib.run_convert_string_bytes (P := P) w src dst e s hs hd he
  simp [hr, Oper.upon]
  exact h _ _ _ (rd_bytesWorld w e s) (below_bytesWorld (Nat.le_refl _) e s)

theorem wpl_bytes (hgd : o.guard = none) (x : Operand) (src dst : TypeId) (ho : o.op = .convert src dst x) {e : TypeId} (hs : P.underlying src = some .string) (hd : P.underlying dst = some (.slice e)) (he : P.underlying e = some (.int .u8))
    (s : ByteArray) (hx : a.eval x = .string s) (h : ∀ p' c' w', Rd w' .u8 p' (bytesOf s) → Below w.heap.size w w' → wpList P ops Q rest (a.put o.dst (.slice p' s.size c')) w') : wpList P ops Q (o :: rest) a w :=
  wpList_plain hgd fun _ hK => wp_bytes x src dst ho hs hd he s hx fun p' c' w' h900 h901 => hK _ _ (h p' c' w' h900 h901)

end walk
end Go.Slip

namespace Go.Slip
open Go.RowKit

/-- Block b holds just these cells, and may be written. -/
def Bx (w : World) (b : Nat) (vs : Array Value) : Prop := ∃ t, w.heap[b]? = some (.cells vs t)

theorem Bx.lt {w : World} {b : Nat} {vs : Array Value} (h : Bx w b vs) : b < w.heap.size := by
  obtain ⟨t, h⟩ := h
  exact (Array.getElem?_eq_some_iff.1 h).1

theorem Bx.cell {w : World} {b : Nat} {vs : Array Value} (h : Bx w b vs) (i : Nat) : w.cell? ⟨b, i, none⟩ = vs[i]? := by
  obtain ⟨t, h⟩ := h
  simp [World.cell?, h]

theorem Bx.c {w : World} {b : Nat} {vs : Array Value} (h : Bx w b vs) (i : Nat) {v : Value} (hv : vs[i]? = some v) : w.cell? ⟨b, i, none⟩ = some v := (h.cell i).trans hv

theorem Bx.f {w : World} {b : Nat} {vs : Array Value} (h : Bx w b vs) (i : Nat) : w.frozen? ⟨b, i, none⟩ = false := by
  obtain ⟨t, h⟩ := h
  simp [World.frozen?, h]

theorem Bx.same {w w' : World} {b : Nat} {vs : Array Value} (h : Bx w b vs) (hb : w'.heap[b]? = w.heap[b]?) : Bx w' b vs := by
  obtain ⟨t, h⟩ := h
  exact ⟨t, hb.trans h⟩

theorem Bx.past {w w' : World} {b : Nat} {vs : Array Value} (h : Bx w b vs) (hb : Below w.heap.size w w') : Bx w' b vs := h.same (hb.block _ h.lt)
theorem Bx.below {w w' : World} {B b : Nat} {vs : Array Value} (h : Bx w b vs) (hb : Below B w w') (hB : b < B) : Bx w' b vs := h.same (hb.block _ hB)
theorem Bx.drew {w : World} {b : Nat} {vs : Array Value} (h : Bx w b vs) : Bx w.drew b vs := h
theorem Bx.drewN {w : World} {b : Nat} {vs : Array Value} (h : Bx w b vs) (n : Nat) : Bx (w.drewN n) b vs := h.past (below_drewN (Below.refl _ _) n)

theorem bx_new (w : World) (vs : Array Value) (t : TypeId) : Bx (w.alloc (.cells vs t)) w.heap.size vs := ⟨t, by show (w.heap.push _)[_]? = _; simp⟩

theorem Bx.laid {w : World} {b : Nat} {vs : Array Value} (h : Bx w b vs) (o : Obj) : Bx (w.alloc o) b vs := h.past ((Below.refl _ _).alloc (Nat.le_refl _) _)

theorem Bx.set {w : World} {b : Nat} {vs : Array Value} (h : Bx w b vs) (i : Nat) (v : Value) : Bx (w.setCell ⟨b, i, none⟩ v) b (vs.setIfInBounds i v) := by
  obtain ⟨t, h⟩ := h
  refine ⟨t, ?_⟩
  show (w.heap.modify b _)[b]? = _
  rw [Array.getElem?_modify, if_pos rfl, h]
  rfl

theorem Bx.e1 {w : World} {b : Nat} {v0 : Value} (h : Bx w b #[v0]) : w.cell? ⟨b, 0, none⟩ = some v0 := h.c 0 rfl
theorem Bx.e2 {w : World} {b : Nat} {v0 v1 : Value} (h : Bx w b #[v0, v1]) : w.cell? ⟨b, 0, none⟩ = some v0 ∧ w.cell? ⟨b, 1, none⟩ = some v1 := ⟨h.c 0 rfl, h.c 1 rfl⟩
theorem Bx.e3 {w : World} {b : Nat} {v0 v1 v2 : Value} (h : Bx w b #[v0, v1, v2]) : w.cell? ⟨b, 0, none⟩ = some v0 ∧ w.cell? ⟨b, 1, none⟩ = some v1 ∧ w.cell? ⟨b, 2, none⟩ = some v2 := ⟨h.c 0 rfl, h.c 1 rfl, h.c 2 rfl⟩
theorem Bx.e4 {w : World} {b : Nat} {v0 v1 v2 v3 : Value} (h : Bx w b #[v0, v1, v2, v3]) : w.cell? ⟨b, 0, none⟩ = some v0 ∧ w.cell? ⟨b, 1, none⟩ = some v1 ∧ w.cell? ⟨b, 2, none⟩ = some v2 ∧ w.cell? ⟨b, 3, none⟩ = some v3 := ⟨h.c 0 rfl, h.c 1 rfl, h.c 2 rfl, h.c 3 rfl⟩
theorem Bx.e5 {w : World} {b : Nat} {v0 v1 v2 v3 v4 : Value} (h : Bx w b #[v0, v1, v2, v3, v4]) : w.cell? ⟨b, 0, none⟩ = some v0 ∧ w.cell? ⟨b, 1, none⟩ = some v1 ∧ w.cell? ⟨b, 2, none⟩ = some v2 ∧ w.cell? ⟨b, 3, none⟩ = some v3 ∧ w.cell? ⟨b, 4, none⟩ = some v4 := ⟨h.c 0 rfl, h.c 1 rfl, h.c 2 rfl, h.c 3 rfl, h.c 4 rfl⟩
theorem Bx.e6 {w : World} {b : Nat} {v0 v1 v2 v3 v4 v5 : Value} (h : Bx w b #[v0, v1, v2, v3, v4, v5]) : w.cell? ⟨b, 0, none⟩ = some v0 ∧ w.cell? ⟨b, 1, none⟩ = some v1 ∧ w.cell? ⟨b, 2, none⟩ = some v2 ∧ w.cell? ⟨b, 3, none⟩ = some v3 ∧ w.cell? ⟨b, 4, none⟩ = some v4 ∧ w.cell? ⟨b, 5, none⟩ = some v5 := ⟨h.c 0 rfl, h.c 1 rfl, h.c 2 rfl, h.c 3 rfl, h.c 4 rfl, h.c 5 rfl⟩
theorem Bx.e7 {w : World} {b : Nat} {v0 v1 v2 v3 v4 v5 v6 : Value} (h : Bx w b #[v0, v1, v2, v3, v4, v5, v6]) : w.cell? ⟨b, 0, none⟩ = some v0 ∧ w.cell? ⟨b, 1, none⟩ = some v1 ∧ w.cell? ⟨b, 2, none⟩ = some v2 ∧ w.cell? ⟨b, 3, none⟩ = some v3 ∧ w.cell? ⟨b, 4, none⟩ = some v4 ∧ w.cell? ⟨b, 5, none⟩ = some v5 ∧ w.cell? ⟨b, 6, none⟩ = some v6 := ⟨h.c 0 rfl, h.c 1 rfl, h.c 2 rfl, h.c 3 rfl, h.c 4 rfl, h.c 5 rfl, h.c 6 rfl⟩
theorem Bx.e8 {w : World} {b : Nat} {v0 v1 v2 v3 v4 v5 v6 v7 : Value} (h : Bx w b #[v0, v1, v2, v3, v4, v5, v6, v7]) : w.cell? ⟨b, 0, none⟩ = some v0 ∧ w.cell? ⟨b, 1, none⟩ = some v1 ∧ w.cell? ⟨b, 2, none⟩ = some v2 ∧ w.cell? ⟨b, 3, none⟩ = some v3 ∧ w.cell? ⟨b, 4, none⟩ = some v4 ∧ w.cell? ⟨b, 5, none⟩ = some v5 ∧ w.cell? ⟨b, 6, none⟩ = some v6 ∧ w.cell? ⟨b, 7, none⟩ = some v7 := ⟨h.c 0 rfl, h.c 1 rfl, h.c 2 rfl, h.c 3 rfl, h.c 4 rfl, h.c 5 rfl, h.c 6 rfl, h.c 7 rfl⟩

/-- w' is w but for block b. -/
structure Only (b : Nat) (w w' : World) : Prop where
  os : w'.os = w.os
  tape : w'.tape = w.tape
  output : w'.output = w.output
  size : w'.heap.size = w.heap.size
  block : ∀ k, k ≠ b → w'.heap[k]? = w.heap[k]?

theorem Only.refl (b : Nat) (w : World) : Only b w w := ⟨rfl, rfl, rfl, rfl, fun _ _ => rfl⟩
theorem Only.trans {b : Nat} {w1 w2 w3 : World} (h : Only b w1 w2) (k : Only b w2 w3) : Only b w1 w3 :=
  ⟨k.os.trans h.os, k.tape.trans h.tape, k.output.trans h.output, k.size.trans h.size, fun i hi => (k.block i hi).trans (h.block i hi)⟩
theorem only_set (w : World) (b i : Nat) (v : Value) : Only b w (w.setCell ⟨b, i, none⟩ v) :=
  ⟨rfl, rfl, rfl, by simp [World.setCell], fun k hk => Below.heap_setCell _ _ _ _ hk⟩
theorem Only.set {b : Nat} {w w' : World} (h : Only b w w') (i : Nat) (v : Value) : Only b w (w'.setCell ⟨b, i, none⟩ v) := h.trans (only_set w' b i v)

theorem only3 (w : World) (b : Nat) (v0 v1 v2 : Value) : Only b w (((w.setCell ⟨b, 0, none⟩ v0).setCell ⟨b, 1, none⟩ v1).setCell ⟨b, 2, none⟩ v2) := ((only_set w b 0 v0).set 1 v1).set 2 v2
theorem Bx.put3 {w : World} {b : Nat} {v0 v1 v2 : Value} (h : Bx w b #[v0, v1, v2]) (u0 u1 u2 : Value) : Bx (((w.setCell ⟨b, 0, none⟩ u0).setCell ⟨b, 1, none⟩ u1).setCell ⟨b, 2, none⟩ u2) b #[u0, u1, u2] := ((h.set 0 u0).set 1 u1).set 2 u2
theorem only4 (w : World) (b : Nat) (v0 v1 v2 v3 : Value) : Only b w ((((w.setCell ⟨b, 0, none⟩ v0).setCell ⟨b, 1, none⟩ v1).setCell ⟨b, 2, none⟩ v2).setCell ⟨b, 3, none⟩ v3) := (((only_set w b 0 v0).set 1 v1).set 2 v2).set 3 v3
theorem Bx.put4 {w : World} {b : Nat} {v0 v1 v2 v3 : Value} (h : Bx w b #[v0, v1, v2, v3]) (u0 u1 u2 u3 : Value) : Bx ((((w.setCell ⟨b, 0, none⟩ u0).setCell ⟨b, 1, none⟩ u1).setCell ⟨b, 2, none⟩ u2).setCell ⟨b, 3, none⟩ u3) b #[u0, u1, u2, u3] := (((h.set 0 u0).set 1 u1).set 2 u2).set 3 u3
theorem only6 (w : World) (b : Nat) (v0 v1 v2 v3 v4 v5 : Value) : Only b w ((((((w.setCell ⟨b, 0, none⟩ v0).setCell ⟨b, 1, none⟩ v1).setCell ⟨b, 2, none⟩ v2).setCell ⟨b, 3, none⟩ v3).setCell ⟨b, 4, none⟩ v4).setCell ⟨b, 5, none⟩ v5) := (((((only_set w b 0 v0).set 1 v1).set 2 v2).set 3 v3).set 4 v4).set 5 v5
theorem Bx.put6 {w : World} {b : Nat} {v0 v1 v2 v3 v4 v5 : Value} (h : Bx w b #[v0, v1, v2, v3, v4, v5]) (u0 u1 u2 u3 u4 u5 : Value) : Bx ((((((w.setCell ⟨b, 0, none⟩ u0).setCell ⟨b, 1, none⟩ u1).setCell ⟨b, 2, none⟩ u2).setCell ⟨b, 3, none⟩ u3).setCell ⟨b, 4, none⟩ u4).setCell ⟨b, 5, none⟩ u5) b #[u0, u1, u2, u3, u4, u5] := (((((h.set 0 u0).set 1 u1).set 2 u2).set 3 u3).set 4 u4).set 5 u5

theorem Only.below {b B : Nat} {w w' : World} (h : Only b w w') (hB : B ≤ b) : Below B w w' :=
  ⟨h.os, h.tape, h.output, by rw [h.size]; exact Nat.le_refl _, fun k hk => h.block k (by omega)⟩

theorem Bx.only {w w' : World} {b k : Nat} {vs : Array Value} (h : Bx w b vs) (hb : Only k w w') (hne : b ≠ k) : Bx w' b vs := h.same (hb.block _ hne)
theorem Own.only {w w' : World} {base k : Nat} {kd : IntKind} {e : TypeId} {p : Option Addr} {c : Nat} {xs : List Nat} (h : Own w base kd e p c xs) (hb : Only k w w') (hne : p.isSome = true → blk p ≠ k) : Own w' base kd e p c xs :=
  h.same fun h0 => hb.block _ (hne h0)
theorem Rd.only {w w' : World} {k : Nat} {kd : IntKind} {p : Option Addr} {xs : List Nat} (h : Rd w kd p xs) (hb : Only k w w') (hne : 0 < xs.length → blk p ≠ k) : Rd w' kd p xs :=
  h.same fun h0 => hb.block _ (hne h0)

/-- w' has all blocks of w as they were, but for block b. -/
structure Keep (b : Nat) (w w' : World) : Prop where
  os : w'.os = w.os
  tape : w'.tape = w.tape
  output : w'.output = w.output
  size : w.heap.size ≤ w'.heap.size
  block : ∀ k, k < w.heap.size → k ≠ b → w'.heap[k]? = w.heap[k]?

theorem Below.keep {w w' : World} (h : Below w.heap.size w w') (b : Nat) : Keep b w w' := ⟨h.os, h.tape, h.output, h.size, fun k hk _ => h.block k hk⟩
theorem Only.keep {b : Nat} {w w' : World} (h : Only b w w') : Keep b w w' := ⟨h.os, h.tape, h.output, by rw [h.size]; exact Nat.le_refl _, fun k _ hk => h.block k hk⟩
theorem Keep.trans {b : Nat} {w1 w2 w3 : World} (h : Keep b w1 w2) (k : Keep b w2 w3) : Keep b w1 w3 :=
  ⟨k.os.trans h.os, k.tape.trans h.tape, k.output.trans h.output, Nat.le_trans h.size k.size, fun i hi hn => (k.block i (Nat.lt_of_lt_of_le hi h.size) hn).trans (h.block i hi hn)⟩
theorem Keep.below {b B : Nat} {w w' : World} (h : Keep b w w') (hB : B ≤ b) (hs : B ≤ w.heap.size) : Below B w w' := ⟨h.os, h.tape, h.output, h.size, fun k hk => h.block k (by omega) (by omega)⟩
theorem Bx.keep {w w' : World} {b k : Nat} {vs : Array Value} (h : Bx w b vs) (hb : Keep k w w') (hne : b ≠ k) : Bx w' b vs := h.same (hb.block _ h.lt hne)
theorem Rd.keep {w w' : World} {k : Nat} {kd : IntKind} {p : Option Addr} {xs : List Nat} (h : Rd w kd p xs) (hb : Keep k w w') (hne : 0 < xs.length → blk p ≠ k) : Rd w' kd p xs :=
  h.same fun h0 => hb.block _ (h.lt h0) (hne h0)
theorem Own.keep {w w' : World} {base k : Nat} {kd : IntKind} {e : TypeId} {p : Option Addr} {c : Nat} {xs : List Nat} (h : Own w base kd e p c xs) (hb : Keep k w w') (hne : p.isSome = true → blk p ≠ k) : Own w' base kd e p c xs :=
  h.same fun h0 => hb.block _ (h.blk_lt h0).2 (hne h0)

/-- One, two, three new blocks: the world behind a name. -/
theorem below_lay1 (w : World) (o : Obj) : Below w.heap.size w (w.alloc o) := (Below.refl _ _).alloc (Nat.le_refl _) _
theorem below_lay2 (w : World) (o1 o2 : Obj) : Below w.heap.size w ((w.alloc o1).alloc o2) := (below_lay1 w o1).alloc (by simp) _
theorem below_lay3 (w : World) (o1 o2 o3 : Obj) : Below w.heap.size w (((w.alloc o1).alloc o2).alloc o3) := (below_lay2 w o1 o2).alloc (by simp; omega) _
theorem below_lay4 (w : World) (o1 o2 o3 o4 : Obj) : Below w.heap.size w ((((w.alloc o1).alloc o2).alloc o3).alloc o4) := (below_lay3 w o1 o2 o3).alloc (by simp; omega) _
theorem below_lay5 (w : World) (o1 o2 o3 o4 o5 : Obj) : Below w.heap.size w (((((w.alloc o1).alloc o2).alloc o3).alloc o4).alloc o5) := (below_lay4 w o1 o2 o3 o4).alloc (by simp; omega) _

theorem lay1 (w : World) (v1 : Array Value) (t1 : TypeId) : ∃ W, W = w.alloc (.cells v1 t1) ∧ Below w.heap.size w W ∧ w.heap.size < W.heap.size ∧ Bx W w.heap.size v1 :=
  ⟨_, rfl, below_lay1 _ _, by simp, bx_new _ _ _⟩
theorem lay2 (w : World) (v1 : Array Value) (t1 : TypeId) (v2 : Array Value) (t2 : TypeId) : ∃ W, W = (w.alloc (.cells v1 t1)).alloc (.cells v2 t2) ∧ Below w.heap.size w W ∧ w.heap.size + 1 < W.heap.size ∧ Bx W w.heap.size v1 ∧ Bx W (w.heap.size + 1) v2 :=
  ⟨_, rfl, below_lay2 _ _ _, by simp, (bx_new _ _ _).laid _, by simpa using bx_new (w.alloc (.cells v1 t1)) v2 t2⟩
theorem lay3 (w : World) (v1 : Array Value) (t1 : TypeId) (v2 : Array Value) (t2 : TypeId) (v3 : Array Value) (t3 : TypeId) :
    ∃ W, W = ((w.alloc (.cells v1 t1)).alloc (.cells v2 t2)).alloc (.cells v3 t3) ∧ Below w.heap.size w W ∧ w.heap.size + 1 + 1 < W.heap.size ∧ Bx W w.heap.size v1 ∧ Bx W (w.heap.size + 1) v2 ∧ Bx W (w.heap.size + 1 + 1) v3 := by
  obtain ⟨W, rfl, _, _, h1, h2⟩ := lay2 w v1 t1 v2 t2
  exact ⟨_, rfl, below_lay3 _ _ _ _, by simp, h1.laid _, h2.laid _, by simpa using bx_new ((w.alloc (.cells v1 t1)).alloc (.cells v2 t2)) v3 t3⟩
theorem lay4 (w : World) (v1 : Array Value) (t1 : TypeId) (v2 : Array Value) (t2 : TypeId) (v3 : Array Value) (t3 : TypeId) (v4 : Array Value) (t4 : TypeId) :
    ∃ W, W = (((w.alloc (.cells v1 t1)).alloc (.cells v2 t2)).alloc (.cells v3 t3)).alloc (.cells v4 t4) ∧ Below w.heap.size w W ∧ w.heap.size + 1 + 1 + 1 < W.heap.size ∧ Bx W w.heap.size v1 ∧ Bx W (w.heap.size + 1) v2 ∧ Bx W (w.heap.size + 1 + 1) v3 ∧ Bx W (w.heap.size + 1 + 1 + 1) v4 := by
  obtain ⟨W, rfl, _, _, h1, h2, h3⟩ := lay3 w v1 t1 v2 t2 v3 t3
  exact ⟨_, rfl, below_lay4 _ _ _ _ _, by simp, h1.laid _, h2.laid _, h3.laid _, by simpa using bx_new (((w.alloc (.cells v1 t1)).alloc (.cells v2 t2)).alloc (.cells v3 t3)) v4 t4⟩
theorem lay5 (w : World) (v1 : Array Value) (t1 : TypeId) (v2 : Array Value) (t2 : TypeId) (v3 : Array Value) (t3 : TypeId) (v4 : Array Value) (t4 : TypeId) (v5 : Array Value) (t5 : TypeId) :
    ∃ W, W = ((((w.alloc (.cells v1 t1)).alloc (.cells v2 t2)).alloc (.cells v3 t3)).alloc (.cells v4 t4)).alloc (.cells v5 t5) ∧ Below w.heap.size w W ∧ w.heap.size + 1 + 1 + 1 + 1 < W.heap.size ∧ Bx W w.heap.size v1 ∧ Bx W (w.heap.size + 1) v2 ∧ Bx W (w.heap.size + 1 + 1) v3 ∧ Bx W (w.heap.size + 1 + 1 + 1) v4 ∧ Bx W (w.heap.size + 1 + 1 + 1 + 1) v5 := by
  obtain ⟨W, rfl, _, _, h1, h2, h3, h4⟩ := lay4 w v1 t1 v2 t2 v3 t3 v4 t4
  exact ⟨_, rfl, below_lay5 _ _ _ _ _ _, by simp, h1.laid _, h2.laid _, h3.laid _, h4.laid _, by simpa using bx_new ((((w.alloc (.cells v1 t1)).alloc (.cells v2 t2)).alloc (.cells v3 t3)).alloc (.cells v4 t4)) v5 t5⟩

section
variable {P : Program} {f : FuncId} {args : Array Value} {R : Ending → World → Prop} {w : World} {v1 v2 v3 v4 v5 : Array Value} {t1 t2 t3 t4 t5 : TypeId}
theorem calls_lay1 (h : ∀ W, Below w.heap.size w W → w.heap.size < W.heap.size → Bx W w.heap.size v1 → Calls P f args W R) : Calls P f args (w.alloc (.cells v1 t1)) R := by
  obtain ⟨W, rfl, a, b, c⟩ := lay1 w v1 t1
  exact h _ a b c
theorem calls_lay2 (h : ∀ W, Below w.heap.size w W → w.heap.size + 1 < W.heap.size → Bx W w.heap.size v1 → Bx W (w.heap.size + 1) v2 → Calls P f args W R) : Calls P f args ((w.alloc (.cells v1 t1)).alloc (.cells v2 t2)) R := by
  obtain ⟨W, rfl, a, b, c, d⟩ := lay2 w v1 t1 v2 t2
  exact h _ a b c d
theorem calls_lay3 (h : ∀ W, Below w.heap.size w W → w.heap.size + 1 + 1 < W.heap.size → Bx W w.heap.size v1 → Bx W (w.heap.size + 1) v2 → Bx W (w.heap.size + 1 + 1) v3 → Calls P f args W R) : Calls P f args (((w.alloc (.cells v1 t1)).alloc (.cells v2 t2)).alloc (.cells v3 t3)) R := by
  obtain ⟨W, rfl, a, b, c, d, e⟩ := lay3 w v1 t1 v2 t2 v3 t3
  exact h _ a b c d e
theorem calls_lay4 (h : ∀ W, Below w.heap.size w W → w.heap.size + 1 + 1 + 1 < W.heap.size → Bx W w.heap.size v1 → Bx W (w.heap.size + 1) v2 → Bx W (w.heap.size + 1 + 1) v3 → Bx W (w.heap.size + 1 + 1 + 1) v4 → Calls P f args W R) : Calls P f args ((((w.alloc (.cells v1 t1)).alloc (.cells v2 t2)).alloc (.cells v3 t3)).alloc (.cells v4 t4)) R := by
  obtain ⟨W, rfl, a, b, c, d, e, g⟩ := lay4 w v1 t1 v2 t2 v3 t3 v4 t4
  exact h _ a b c d e g
theorem calls_lay5 (h : ∀ W, Below w.heap.size w W → w.heap.size + 1 + 1 + 1 + 1 < W.heap.size → Bx W w.heap.size v1 → Bx W (w.heap.size + 1) v2 → Bx W (w.heap.size + 1 + 1) v3 → Bx W (w.heap.size + 1 + 1 + 1) v4 → Bx W (w.heap.size + 1 + 1 + 1 + 1) v5 → Calls P f args W R) : Calls P f args (((((w.alloc (.cells v1 t1)).alloc (.cells v2 t2)).alloc (.cells v3 t3)).alloc (.cells v4 t4)).alloc (.cells v5 t5)) R := by
  obtain ⟨W, rfl, a, b, c, d, e, g, i⟩ := lay5 w v1 t1 v2 t2 v3 t3 v4 t4 v5 t5
  exact h _ a b c d e g i
variable {c : Code} {Q : Exit → Act → World → Prop} {a : Act}
theorem wp_lay1 (h : ∀ W, Below w.heap.size w W → w.heap.size < W.heap.size → Bx W w.heap.size v1 → c.wp P Q a W) : c.wp P Q a (w.alloc (.cells v1 t1)) := by
  obtain ⟨W, rfl, a, b, c⟩ := lay1 w v1 t1
  exact h _ a b c
theorem wp_lay2 (h : ∀ W, Below w.heap.size w W → w.heap.size + 1 < W.heap.size → Bx W w.heap.size v1 → Bx W (w.heap.size + 1) v2 → c.wp P Q a W) : c.wp P Q a ((w.alloc (.cells v1 t1)).alloc (.cells v2 t2)) := by
  obtain ⟨W, rfl, a, b, c, d⟩ := lay2 w v1 t1 v2 t2
  exact h _ a b c d
theorem wp_lay3 (h : ∀ W, Below w.heap.size w W → w.heap.size + 1 + 1 < W.heap.size → Bx W w.heap.size v1 → Bx W (w.heap.size + 1) v2 → Bx W (w.heap.size + 1 + 1) v3 → c.wp P Q a W) : c.wp P Q a (((w.alloc (.cells v1 t1)).alloc (.cells v2 t2)).alloc (.cells v3 t3)) := by
  obtain ⟨W, rfl, a, b, c, d, e⟩ := lay3 w v1 t1 v2 t2 v3 t3
  exact h _ a b c d e
theorem wp_lay4 (h : ∀ W, Below w.heap.size w W → w.heap.size + 1 + 1 + 1 < W.heap.size → Bx W w.heap.size v1 → Bx W (w.heap.size + 1) v2 → Bx W (w.heap.size + 1 + 1) v3 → Bx W (w.heap.size + 1 + 1 + 1) v4 → c.wp P Q a W) : c.wp P Q a ((((w.alloc (.cells v1 t1)).alloc (.cells v2 t2)).alloc (.cells v3 t3)).alloc (.cells v4 t4)) := by
  obtain ⟨W, rfl, a, b, c, d, e, g⟩ := lay4 w v1 t1 v2 t2 v3 t3 v4 t4
  exact h _ a b c d e g
/-- A store into a block that is known whole. -/
theorem calls_set {b i : Nat} {v : Value} {vs : Array Value} (hX : Bx w b vs) (h : ∀ W, Only b w W → Bx W b (vs.setIfInBounds i v) → Calls P f args W R) : Calls P f args (w.setCell ⟨b, i, none⟩ v) R :=
  h _ (only_set _ _ _ _) (hX.set i v)
theorem wp_set {b i : Nat} {v : Value} {vs : Array Value} (hX : Bx w b vs) (h : ∀ W, Only b w W → Bx W b (vs.setIfInBounds i v) → c.wp P Q a W) : c.wp P Q a (w.setCell ⟨b, i, none⟩ v) :=
  h _ (only_set _ _ _ _) (hX.set i v)
end

end Go.Slip
