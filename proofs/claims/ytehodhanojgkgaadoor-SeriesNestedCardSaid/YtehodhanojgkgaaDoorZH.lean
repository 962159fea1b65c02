/- ball: quotient.
   ball: rows of numbers; how far what is cut, and a quotient, goes. -/
import Derived.Test.YtehodhanojgkgaaDoorZG
import Derived.Test.YtehodhanojgkgaaDoorZLimb13
import Derived.Maps.AppendAt
namespace Go.Proofs.YtehodhanojgkgaaDoor
open Go.RowKit Go.Slip

theorem signW_any (x : Rw) (w : World) :
    Calls Tryd.prog 51 #[.agg #[.bool x.g, .slice x.p (dig B32 x.m).length x.c, .int .i64 x.e]] w fun en w' => en = .returned (.int .i64 (dSign x.v)) ∧ Below w.heap.size w w' :=
  signD_any x.g x.p _ x.c x.e x.m w rfl

/-- One store of three cells into the box of the result. -/
theorem givesD_put {w wk : World} {base b : Nat} {d : Dv} {p : Option Addr} {c : Nat} {v0 v1 v2 : Value} (hs : Below w.heap.size w wk) (ho : Own wk base .u32 58 p c (dig B32 d.m)) (hB : w.heap.size ≤ b)
    (hne : p.isSome = true → blk p ≠ b) :
    GivesD w base d (.returned (.agg #[.bool d.neg, .slice p (dig B32 d.m).length c, .int .i64 d.e])) (((wk.setCell ⟨b, 0, none⟩ v0).setCell ⟨b, 1, none⟩ v1).setCell ⟨b, 2, none⟩ v2) :=
  have hO := only3 wk b v0 v1 v2
  ⟨p, c, rfl, ho.only hO hne, hs.trans (hO.below hB)⟩

theorem dSign_m {x : Rw} : dSign x.v = 0 ↔ x.m = 0 := by
  unfold dSign Rw.v
  simp only
  split
  · simp [*]
  · split <;> simp [*]

theorem shl1_any (p : Option Addr) (c : Nat) (a : Nat) (w : World) (hp : Rd w .u32 p (dig B32 a)) (hl : (dig B32 a).length ≤ 1000000000) :
    Calls Tryd.prog 79 #[.slice p (dig B32 a).length c, .int .i64 1] w (Gives w .u32 58 (dig B32 (a * 2 ^ 1))) := shl_any p _ c a 1 w hp rfl hl (by omega)

theorem of1_any (w : World) : Calls Tryd.prog 75 #[.int .i64 1] w (Gives w .u32 58 (dig B32 1)) := of_any 1 w (by omega)

theorem bare_neg {g : Bool} {m : Nat} {e : Int} (h : 0 < m) : bare ⟨g, m, e⟩ = ⟨g, (bare ⟨false, m, e⟩).m, (bare ⟨false, m, e⟩).e⟩ := by
  rw [bare_pos h, bare_pos h]

theorem _root_.Go.Slip.Bx.put0of3 {w : World} {b : Nat} {v0 v1 v2 : Value} (h : Bx w b #[v0, v1, v2]) (u : Value) : Bx (w.setCell ⟨b, 0, none⟩ u) b #[u, v1, v2] := h.set 0 u
theorem wp_put0of3 {P : Program} {c : Code} {Q : Exit → Act → World → Prop} {a : Act} {w : World} {b : Nat} {v0 v1 v2 u : Value} (hX : Bx w b #[v0, v1, v2]) (h : ∀ W, Only b w W → Bx W b #[u, v1, v2] → c.wp P Q a W) : c.wp P Q a (w.setCell ⟨b, 0, none⟩ u) :=
  h _ (only_set _ _ _ _) (hX.put0of3 u)

end Go.Proofs.YtehodhanojgkgaaDoor

namespace Go.Slip

theorem pCut_bd {a : Dv} (b : Nat) (up : Bool) {n : Nat} {lo hi : Int} (hl : (dig B32 a.m).length ≤ n) (h1 : lo ≤ a.e) (h2 : a.e ≤ hi) (h3 : lo ≤ 0) (h4 : 0 ≤ hi) :
    (dig B32 (pCut a b up).m).length ≤ n + 2 ∧ lo ≤ (pCut a b up).e ∧ (pCut a b up).e ≤ hi + 64 * n + 64 := by
  have hb := blen_len32 a.m
  unfold pCut
  split
  · omega
  · have hm : (dig B32 (a.m / 2 ^ (blen a.m - b) + if up ≠ a.neg then 1 else 0)).length ≤ n + 2 := by
      refine Nat.le_trans (dig_len_add B32_two _ _) ?_
      have h5 := dig_len_mono B32_two (Nat.div_le_self a.m (2 ^ (blen a.m - b)))
      have h6 : (dig B32 (if up ≠ a.neg then 1 else 0)).length ≤ 1 := (dig_len_le B32_two _ 1).2 (by split <;> decide)
      omega
    have h7 := bare_e ⟨a.neg, a.m / 2 ^ (blen a.m - b) + (if up ≠ a.neg then 1 else 0), a.e + ((blen a.m - b : Nat) : Int)⟩ (n := n + 2) hm (lo := lo) (hi := hi + 32 * n) (by simp only; omega) (by simp only; omega) h3 (by omega)
    have h8 := bare_len B32_two ⟨a.neg, a.m / 2 ^ (blen a.m - b) + (if up ≠ a.neg then 1 else 0), a.e + ((blen a.m - b : Nat) : Int)⟩
    refine ⟨Nat.le_trans h8 hm, h7.1, ?_⟩
    have := h7.2
    omega

theorem pOver_bd {a c : Dv} (b : Nat) (up : Bool) (hb : b ≤ 5000) (hal : (dig B32 a.m).length ≤ 1300) (hcl : (dig B32 c.m).length ≤ 1300) (ha1 : -100000 ≤ a.e) (ha2 : a.e ≤ 100000) (hc1 : -100000 ≤ c.e) (hc2 : c.e ≤ 100000) :
    (dig B32 (pOver a c b up).m).length ≤ 3000 ∧ -900000 ≤ (pOver a c b up).e ∧ (pOver a c b up).e ≤ 900000 := by
  unfold pOver
  split
  · omega
  · have hLY := blen_len32 c.m
    have hN : b + 2 + blen c.m - blen a.m ≤ 46700 := by omega
    generalize b + 2 + blen c.m - blen a.m = N at *
    unfold stickyQ
    have l1 : (dig B32 (a.m * 2 ^ N / c.m)).length ≤ 2761 := by
      refine Nat.le_trans (dig_len_mono B32_two (Nat.div_le_self _ _)) ?_
      have := len_shl a.m N
      omega
    have l2 : (dig B32 (2 ^ 1 * (a.m * 2 ^ N / c.m))).length ≤ 2762 := by
      refine Nat.le_trans (dig_len_mul B32_two _ _) ?_
      have : (dig B32 (2 ^ 1)).length ≤ 1 := (dig_len_le B32_two _ 1).2 (by decide)
      omega
    have l3 : (dig B32 (2 ^ 1 * (a.m * 2 ^ N / c.m) + if a.m * 2 ^ N % c.m ≠ 0 then 1 else 0)).length ≤ 2764 := by
      refine Nat.le_trans (dig_len_add B32_two _ _) ?_
      have h6 : (dig B32 (if a.m * 2 ^ N % c.m ≠ 0 then 1 else 0)).length ≤ 1 := (dig_len_le B32_two _ 1).2 (by split <;> decide)
      omega
    have h7 := bare_e ⟨xor a.neg c.neg, 2 ^ 1 * (a.m * 2 ^ N / c.m) + (if a.m * 2 ^ N % c.m ≠ 0 then 1 else 0), a.e - c.e - N - (1 : Nat)⟩ (n := 2764) l3 (lo := -300000) (hi := 200000) (by simp only; omega) (by simp only; omega) (by omega) (by omega)
    have h8 := bare_len B32_two ⟨xor a.neg c.neg, 2 ^ 1 * (a.m * 2 ^ N / c.m) + (if a.m * 2 ^ N % c.m ≠ 0 then 1 else 0), a.e - c.e - N - (1 : Nat)⟩
    have h9 := pCut_bd b up (n := 2764) (Nat.le_trans h8 l3) h7.1 (h7.2) (by omega) (by omega)
    omega

end Go.Slip
namespace Go.Proofs.YtehodhanojgkgaaDoor
open Go.RowKit Go.Slip

theorem tyRaws : Tryd.prog.underlying 121 = some (.slice 62) := by kernel_rfl
theorem tyRaw : ∃ i z, Tryd.prog.info? 62 = some i ∧ i.zero = some z ∧ i.size = 3 ∧ i.bytes = 40 ∧ z.cells.size = 3 := by
  have h : (Tryd.prog.info? 62).map (fun i => (i.zero.map (fun z => z.cells.size), i.size, i.bytes)) = some (some 3, 3, 40) := by kernel_rfl
  cases hi : Tryd.prog.info? 62 with
  | none => rw [hi] at h; simp at h
  | some i =>
    rw [hi] at h
    simp only [Option.map_some, Option.some.injEq, Prod.mk.injEq] at h
    obtain ⟨h1, h2, h3⟩ := h
    cases hz : i.zero with
    | none => rw [hz] at h1; simp at h1
    | some z => rw [hz] at h1; simp at h1; exact ⟨i, z, rfl, hz, h2, h3, h1⟩

def rowCells (L : List Rw) : List Value := L.flatMap fun x => [.bool x.g, .slice x.p (dig B32 x.m).length x.c, .int .i64 x.e]

theorem rowCells_len (L : List Rw) : (rowCells L).length = L.length * 3 := by
  induction L with
  | nil => rfl
  | cons x L ih => show (_ :: _ :: _ :: rowCells L).length = _; simp only [List.length_cons, ih]; omega

theorem rowCells_app (L M : List Rw) : rowCells (L ++ M) = rowCells L ++ rowCells M := List.flatMap_append

theorem rowCells_at (L : List Rw) : ∀ (j : Nat) (h : j < L.length), (rowCells L)[j * 3]? = some (.bool L[j].g) ∧ (rowCells L)[j * 3 + 1]? = some (.slice L[j].p (dig B32 L[j].m).length L[j].c) ∧ (rowCells L)[j * 3 + 2]? = some (.int .i64 L[j].e) := by
  induction L with
  | nil => intro j h; simp at h
  | cons x L ih =>
    intro j h
    match j with
    | 0 => exact ⟨rfl, rfl, rfl⟩
    | j + 1 =>
      have h2 := ih j (by simpa using h)
      show (_ :: _ :: _ :: rowCells L)[(j + 1) * 3]? = _ ∧ (_ :: _ :: _ :: rowCells L)[(j + 1) * 3 + 1]? = _ ∧ (_ :: _ :: _ :: rowCells L)[(j + 1) * 3 + 2]? = _
      rw [show (j + 1) * 3 = j * 3 + 1 + 1 + 1 by omega]
      simpa using h2

/-- A row of numbers of the call's own. -/
def RowW (w : World) (base : Nat) (v : Value) (L : List Rw) : Prop := w.ownsRow base 62 3 v L.length (rowCells L)

/-- A row that holds these numbers. -/
def Ov (w : World) (base0 base : Nat) (v : Value) (D : List Dv) : Prop := ∃ L : List Rw, RowW w base0 v L ∧ L.map Rw.v = D ∧ ∀ x ∈ L, InW w base x

/-- The row is not in this block. -/
def Off (v : Value) (k : Nat) : Prop := v.ownBlock ≠ some k

theorem Ov.nil (w : World) (base0 base : Nat) : Ov w base0 base (.slice none 0 0) [] := ⟨[], World.ownsRow_nil _ _ _ _, rfl, by simp⟩

theorem Ov.lt {w : World} {base0 base : Nat} {v : Value} {D : List Dv} (h : Ov w base0 base v D) : ∀ k, v.ownBlock = some k → base0 ≤ k ∧ k < w.heap.size := by
  obtain ⟨L, h1, _⟩ := h
  exact World.ownsRow.lt h1

theorem Ov.off {w : World} {base0 base : Nat} {v : Value} {D : List Dv} (h : Ov w base0 base v D) {k : Nat} (hk : k < base0 ∨ w.heap.size ≤ k) : Off v k := fun h1 => by
  have := h.lt k h1
  omega

theorem Off.app {w : World} {v v' : Value} {k : Nat} (h : Off v k) (ha : v'.ownBlock = v.ownBlock ∨ v'.ownBlock = some w.heap.size) (hk : k < w.heap.size) : Off v' k := fun h1 => by
  rcases ha with h2 | h2
  · exact h (h2.symm.trans h1)
  · rw [h2] at h1; simp at h1; omega

theorem RowW.past {w w' : World} {base : Nat} {v : Value} {L : List Rw} (h : RowW w base v L) (hb : Below w.heap.size w w') : RowW w' base v L := by
  refine ⟨h.1, ?_⟩
  rcases h.2 with hn | ⟨g, cap, cur, hv, hbg, hg, r⟩
  · exact .inl hn
  · exact .inr ⟨g, cap, cur, hv, hbg, (hb.block _ (Array.getElem?_eq_some_iff.1 hg).1).trans hg, r⟩

theorem Ov.past {w w' : World} {base0 base : Nat} {v : Value} {D : List Dv} (h : Ov w base0 base v D) (hb : Below w.heap.size w w') : Ov w' base0 base v D := by
  obtain ⟨L, h1, h2, h3⟩ := h
  exact ⟨L, h1.past hb, h2, fun x hx => (h3 x hx).past hb⟩

/-- Numbers lie in no row of structs. -/
theorem InW.grown {w w' : World} {base base2 : Nat} {x : Rw} {v : Value} {n : Nat} {xs : List Value} (h : InW w base x) (hg : w.grownBy w' v.ownBlock) (h2 : w.ownsRow base2 62 3 v n xs) : InW w' base x :=
  ⟨h.ow.grown hg (fun hp he => by
    rcases h2.2 with ⟨h3, _⟩ | ⟨g, cap, cur, hv, _, hgg, _⟩
    · rw [h3] at he; simp [Value.ownBlock] at he
    · rw [hv] at he
      simp only [Value.ownBlock, Option.some.injEq] at he
      exact h.ow.ne_tb (b := g) ⟨cur, (0, 0), hgg⟩ (by decide) hp he), h.len, h.lo, h.hi⟩

theorem Ov.grown {w w' : World} {base0 base base2 base3 : Nat} {v v2 : Value} {D D2 : List Dv} (h : Ov w base0 base v D) (hg : w.grownBy w' v2.ownBlock) (h2 : Ov w base2 base3 v2 D2) (hne : v.ownBlock = none ∨ v.ownBlock ≠ v2.ownBlock) : Ov w' base0 base v D := by
  obtain ⟨L, h3, h4, h5⟩ := h
  obtain ⟨L2, h6, _⟩ := h2
  exact ⟨L, h3.kept hg hne, h4, fun x hx => (h5 x hx).grown hg h6⟩

theorem _root_.Go.Slip.Bx.grown {w w' : World} {b : Nat} {v : Value} {vs : Array Value} (h : Bx w b vs) (hg : w.grownBy w' v.ownBlock) (hne : Off v b) : Bx w' b vs :=
  h.same (hg.block _ h.lt fun he => hne he.symm)

theorem RowW.el {w : World} {base : Nat} {v : Value} {L : List Rw} (h : RowW w base v L) (h0 : 0 < L.length) :
    ∃ g c, v = .slice (some ⟨g, 0, none⟩) L.length c ∧ L.length ≤ c ∧ ∀ j (hj : j < L.length), El w g (j * 3) L[j] := by
  rcases h.2 with ⟨_, h1⟩ | ⟨g, cap, cur, hv, hb, hg, hn, _, _, _⟩
  · omega
  · refine ⟨g, cap, hv, hn, fun j hj => ?_⟩
    have hc := World.ownsRow.cells h (g := g) (by rw [hv]; rfl)
    obtain ⟨k0, k1, k2⟩ := rowCells_at L j hj
    have e0 := hc _ _ k0
    have e1 := hc _ _ k1
    have e2 := hc _ _ k2
    simp only [Addr.add_lit, Nat.zero_add] at e0 e1 e2
    exact ⟨e0, e1, e2, (Array.getElem?_eq_some_iff.1 hg).1⟩

/-- One number more. -/
theorem wpl_appendW {ops : Array Oper} {rest : List Oper} {o : Oper} {a : Act} {Q : Exit → Act → World → Prop} {w : World} (hgd : o.guard = none) (s x : Operand)
    (ho : o.op = .call { callee := .builtin .append, args := #[s, x], argTypes := #[121, 121] })
    (base0 base : Nat) (v : Value) (D : List Dv) (hs : a.eval s = v) (h : Ov w base0 base v D) (q c2 : Nat) (y : Rw) (hx : a.eval x = .slice (some ⟨q, 0, none⟩) 1 c2) (hq : El w q 0 y) (hy : InW w base y) (hD : D.length ≤ 1000) (hbase : base0 ≤ w.heap.size)
    (hK : ∀ v' w', Ov w' base0 base v' (D ++ [y.v]) → w.grownBy w' v.ownBlock → (v'.ownBlock = v.ownBlock ∨ v'.ownBlock = some w.heap.size) → wpList Tryd.prog ops Q rest (a.put o.dst v') w') :
    wpList Tryd.prog ops Q (o :: rest) a w := by
  obtain ⟨i, z, hi, hz, h1, h2, h3⟩ := tyRaw
  obtain ⟨L, k1, k2, k3⟩ := h
  have hl : L.length = D.length := by rw [← k2, List.length_map]
  refine wpList_append_own_at w hgd s x _ ho base0 62 i z 3 40 tyRaws hi hz h1 h2 h3 (by omega) v L.length (rowCells L) hs k1 ⟨q, 0, none⟩ 1 c2 (rowCells [y]) hx (by rw [rowCells_len]; rfl) ?_ ?_ (by unfold maxLen; omega) (by omega) hbase ?_
  · intro j u hj
    rw [Addr.add_lit, Nat.zero_add]
    match j, hj with
    | 0, hj => simp [rowCells] at hj; subst hj; exact hq.c0
    | 1, hj => simp [rowCells] at hj; subst hj; exact hq.c1
    | 2, hj => simp [rowCells] at hj; subst hj; exact hq.c2
    | j + 3, hj => simp [rowCells] at hj
  · intro u hu
    simp [rowCells] at hu
    rcases hu with rfl | rfl | rfl <;> rfl
  · intro v' w' ho' hg _ hat
    refine hK v' w' ⟨L ++ [y], ?_, by rw [List.map_append, k2]; rfl, fun z hz => ?_⟩ hg hat
    · unfold RowW
      rw [rowCells_app, List.length_append]
      exact ho'
    · rcases List.mem_append.1 hz with h4 | h4
      · exact (k3 z h4).grown hg k1
      · simp only [List.mem_singleton] at h4
        subst h4
        exact hy.grown hg k1

end Go.Proofs.YtehodhanojgkgaaDoor
