/- An append onto a row of the call's own as far as the form reaches; twin, spoil. -/
import Derived.Test.YtlegnbigddhmlaaZC
import Derived.Deep.LoopGhost
namespace Go.Slip
open Go.RowKit

section walk
variable {P : Program} {ops : Array Oper} {rest : List Oper} {o : Oper} {a : Act} {K : Act → World → Prop} {Q : Exit → Act → World → Prop} {w : World}

theorem wp_appendB (s x : Operand) (t : TypeId) (ho : o.op = .call { callee := .builtin .append, args := #[s, x], argTypes := #[t, t] })
    {e : TypeId} {k : IntKind} {bytes : Nat} (hty : SlTy P t e k bytes) (base : Nat) (p : Option Addr) (n c : Nat) (xs : List Nat) (hown : Own w base k e p c xs) (hn : n = xs.length)
    (q : Option Addr) (m c2 : Nat) (ys : List Nat) (hrd : Rd w k q ys) (hm : m = ys.length) (hs : a.eval s = .slice p n c) (hx : a.eval x = .slice q m c2)
    (hb : (xs.length + ys.length) * bytes ≤ 140737488355328) (h63 : xs.length + ys.length ≤ maxLen) (hbase : base ≤ w.heap.size)
    (h : ∀ p' c' w', Own w' base k e p' c' (xs ++ ys) → w.grownBy w' (p.map (·.block)) → Below base w w' → K (a.put o.dst (.slice p' (xs ++ ys).length c')) w') : o.wp P a w K Q := by
  subst hn hm
  obtain ⟨p', c', w', hr, h1, h2, h3⟩ := run_append_rd (P := P) w hty o.type base p c xs hown q c2 ys hrd hb h63 hbase
  unfold Oper.wp execOp
  simp only [ho, resolve, invoke, builtin, Sem.run_bind, Sem.run_pure, Result.andThen_ok, List.map_toArray, List.map_cons, List.map_nil, hs, hx, hr]
  have h4 := h p' c' w' h1 h2 (below_of_grown h2 hbase fun k hk => by
    cases p with
    | none => cases hk
    | some a => have := (hown.blk_lt rfl).1; cases hk; exact this)
  rw [List.length_append] at h4
  exact h4

theorem wpl_appendB (hgd : o.guard = none) (s x : Operand) (t : TypeId) (ho : o.op = .call { callee := .builtin .append, args := #[s, x], argTypes := #[t, t] })
    {e : TypeId} {k : IntKind} {bytes : Nat} (hty : SlTy P t e k bytes) (base : Nat) (p : Option Addr) (n c : Nat) (xs : List Nat) (hown : Own w base k e p c xs) (hn : n = xs.length)
    (q : Option Addr) (m c2 : Nat) (ys : List Nat) (hrd : Rd w k q ys) (hm : m = ys.length) (hs : a.eval s = .slice p n c) (hx : a.eval x = .slice q m c2)
    (hb : (xs.length + ys.length) * bytes ≤ 140737488355328) (h63 : xs.length + ys.length ≤ maxLen) (hbase : base ≤ w.heap.size)
    (h : ∀ p' c' w', Own w' base k e p' c' (xs ++ ys) → w.grownBy w' (p.map (·.block)) → Below base w w' → wpList P ops Q rest (a.put o.dst (.slice p' (xs ++ ys).length c')) w') : wpList P ops Q (o :: rest) a w :=
  wpList_plain hgd fun _ hK => wp_appendB s x t ho hty base p n c xs hown hn q m c2 ys hrd hm hs hx hb h63 hbase fun p' c' w' h900 h901 h902 => hK _ _ (h p' c' w' h900 h901 h902)

end walk

theorem map_blk {p : Option Addr} (h : p.isSome = true) : p.map (·.block) = some (blk p) := by
  cases p with
  | none => simp at h
  | some a => rfl

/-- A row in another block than the one that is written. -/
theorem Own.kept {w w' : World} {base : Nat} {k : IntKind} {e : TypeId} {p q : Option Addr} {c : Nat} {xs : List Nat} (h : Own w base k e p c xs) (hg : w.grownBy w' (q.map (·.block))) (hne : q.isSome = true → p.isSome = true → blk q ≠ blk p) : Own w' base k e p c xs := by
  refine h.grown hg fun hp => ?_
  cases q with
  | none => simp
  | some a =>
    have := hne rfl hp
    simp [blk] at this ⊢
    exact fun e => this e.symm

end Go.Slip
namespace Go.Proofs.Ytlegnbigddhmlaa
open Go.RowKit Go.Slip

set_option maxHeartbeats 400000 in
theorem twin_any (p : Option Addr) (n c : Nat) (xs : List Nat) (w : World) (hr : Rd w .u32 p xs) (hn : n = xs.length) (hl : xs.length * 4 ≤ 140737488351232) :
    Calls Try.prog 5 #[.slice p n c] w (Gives w .u32 26 xs) := by
  subst hn
  go_enter Try.func5, Try.ntmps5
  go_wp2_with (first
    | (refine wpl_build0 rfl _ rfl tyNat ?_; intro p1 w1 ho1 hb1 hz1 hp1)
    | (at_builtin; refine wpl_appendB rfl _ _ _ rfl tyNat _ _ _ _ _ ho1 rfl _ _ _ _ (hr.past hb1) rfl rfl rfl ?_ ?_ ?_ ?_; (simp; omega); (unfold maxLen; simp; omega); omega; intro p2 c2 w2 ho2 hg2 hb2))
  go_ret
  exact ⟨p2, c2, rfl, ho2, hb1.trans hb2⟩

set_option maxHeartbeats 400000 in
theorem spoil_any (p : Option Addr) (n c base : Nat) (xs : List Nat) (w : World) (ho : Own w base .u32 26 p c xs) (hn : n = xs.length) (hl : xs.length ≤ 1000000000) :
    Calls Try.prog 21 #[.slice p n c] w fun e w' => e = .returned (.tuple #[]) ∧ w.grownBy w' (p.map (·.block)) ∧ Below base w w' := by
  subst hn
  go_enter Try.func21, Try.ntmps21
  go_wp2
  go_loopw [2] (fun iv wr => ∃ (i : Nat) (L : List Nat), iv = .int .i64 i ∧ i ≤ xs.length ∧ Hid (L.length = xs.length) ∧ Own wr base .u32 26 p c L ∧ w.grownBy wr (p.map (·.block)) ∧ Below base w wr)
    (fun iv _ => xs.length - (intOf iv).toNat)
  case atStart => exact ⟨0, xs, rfl, Nat.zero_le _, rfl, ho, World.grownBy.refl _ _, Below.refl _ _⟩
  case round =>
    obtain ⟨i, L, rfl, hi, hL, hoL, hgL, hbL⟩ := hrel
    by_cases hlt : i < xs.length
    · have hsL := hoL.solid
      rw [hL.out] at hsL
      have hps := Lib.hid (hsL (by omega)).1
      go_wp2_with (refine wpl_store rfl _ _ _ rfl 26 tyNat _ _ _ _ hoL i (by rw [hL.out]; omega) 77 (by omega) rfl rfl ?_; intro w3 ho3 hg3 hb3)
      rw [← map_blk hps.out] at hg3
      go_roundw
      case rel => exact ⟨i + 1, _, by go_num, hlt, (by show (List.set _ _ _).length = _; rw [List.length_set]; exact hL.out), ho3, hgL.trans hg3, hbL.trans hb3⟩
      case measure => simp [intOf]; omega
    · go_wp2
      go_end0
      exact ⟨rfl, hgL, hbL⟩

end Go.Proofs.Ytlegnbigddhmlaa
