/- ball: Over. -/
import Derived.Test.YtehodhanojgkgaaDoorZH
namespace Go.Slip

end Go.Slip
namespace Go.Proofs.YtehodhanojgkgaaDoor
open Go.RowKit Go.Slip

/-- Quotients of one by some; of some by some. -/
def ovRow (b : Nat) (up : Bool) (x : Rw) (l : List Rw) : List Dv := l.map fun y => pOver x.v y.v b up
def ovAll (b : Nat) (up : Bool) (l m : List Rw) : List Dv := l.flatMap fun x => ovRow b up x m

theorem ovRow_take {b : Nat} {up : Bool} {x : Rw} {m : List Rw} {j : Nat} (h : j < m.length) : ovRow b up x (m.take (j + 1)) = ovRow b up x (m.take j) ++ [pOver x.v m[j].v b up] := by
  unfold ovRow
  rw [List.take_succ_eq_append_getElem h, List.map_append]
  rfl

theorem ovAll_take {b : Nat} {up : Bool} {l m : List Rw} {i : Nat} (h : i < l.length) : ovAll b up (l.take (i + 1)) m = ovAll b up (l.take i) m ++ ovRow b up l[i] m := by
  unfold ovAll
  rw [List.take_succ_eq_append_getElem h, List.flatMap_append]
  simp

theorem ovAll_len (b : Nat) (up : Bool) (l m : List Rw) : (ovAll b up l m).length = l.length * m.length := by
  induction l with
  | nil => simp [ovAll]
  | cons x l ih =>
    have : ovAll b up (x :: l) m = ovRow b up x m ++ ovAll b up l m := rfl
    rw [this, List.length_append, ih, List.length_cons, Nat.add_mul, Nat.one_mul]
    simp only [ovRow, List.length_map]
    omega

theorem ov_len (b : Nat) (up : Bool) (x : Rw) (l m : List Rw) (i j : Nat) (hl : l.length = 2) (hm : m.length = 2) : (ovAll b up (l.take i) m ++ ovRow b up x (m.take j)).length ≤ 1000 := by
  rw [List.length_append, ovAll_len, hm]
  simp only [ovRow, List.length_map, List.length_take]
  omega

/-- Small enough to be divided. -/
structure Sm (x : Rw) : Prop where
  len : (dig B32 x.m).length ≤ 1300
  lo : -100000 ≤ x.e
  hi : x.e ≤ 100000

theorem over_inW {w : World} {base : Nat} {x y : Rw} {b : Nat} {up : Bool} {p : Option Addr} {c : Nat} (hx : Sm x) (hy : Sm y) (hb : b ≤ 5000) (ho : Own w base .u32 58 p c (dig B32 (pOver x.v y.v b up).m)) :
    InW w base ⟨(pOver x.v y.v b up).neg, p, c, (pOver x.v y.v b up).m, (pOver x.v y.v b up).e⟩ := by
  obtain ⟨h1, h2, h3⟩ := pOver_bd (a := x.v) (c := y.v) b up hb hx.len hy.len hx.lo hx.hi hy.lo hy.hi
  exact ⟨ho, by simp only; omega, by simp only; omega, by simp only; omega⟩

theorem tb_new (w : World) (vs : Array Value) (t : TypeId) : Tb (w.alloc (.cells vs t)) w.heap.size t := ⟨vs, (0, 0), by show (w.heap.push _)[_]? = _; simp⟩

theorem wp_layT4 {P : Program} {c : Code} {Q : Exit → Act → World → Prop} {a : Act} {w : World} {v1 v2 v3 v4 : Array Value} {t1 t2 t3 t4 : TypeId} (h : ∀ W, Below w.heap.size w W → w.heap.size + 1 + 1 + 1 < W.heap.size → Bx W w.heap.size v1 → Bx W (w.heap.size + 1) v2 → Bx W (w.heap.size + 1 + 1) v3 → Bx W (w.heap.size + 1 + 1 + 1) v4 → Tb W (w.heap.size + 1 + 1) t3 → c.wp P Q a W) :
    c.wp P Q a ((((w.alloc (.cells v1 t1)).alloc (.cells v2 t2)).alloc (.cells v3 t3)).alloc (.cells v4 t4)) := by
  obtain ⟨W, rfl, k1, k2, k3, k4, k5, k6⟩ := lay4 w v1 t1 v2 t2 v3 t3 v4 t4
  refine h _ k1 k2 k3 k4 k5 k6 ?_
  have h1 := tb_new ((w.alloc (.cells v1 t1)).alloc (.cells v2 t2)) v3 t3
  rw [show ((w.alloc (.cells v1 t1)).alloc (.cells v2 t2)).heap.size = w.heap.size + 1 + 1 by simp] at h1
  exact h1.past (below_lay1 _ _)

theorem Tb.grown {w w' : World} {b : Nat} {t : TypeId} {v : Value} (h : Tb w b t) (hg : w.grownBy w' v.ownBlock) (hne : Off v b) : Tb w' b t := by
  have hl := h.lt
  obtain ⟨vs, fz, h⟩ := h
  exact ⟨vs, fz, (hg.block _ hl fun he => hne he.symm).trans h⟩

theorem two_el {P : Nat → Rw → Prop} {x y : Rw} {L : List Rw} (hL : L = [x, y]) (h0 : P 0 x) (h1 : P 1 y) : ∀ i (h : i < L.length), P i (L[i]) := by
  subst hL
  intro i h
  match i, h with
  | 0, _ => exact h0
  | 1, _ => exact h1

theorem ap_symm {a b : Option Nat} (h : a = none ∨ a ≠ b) : b = none ∨ b ≠ a := by
  by_cases hb : b = none
  · exact .inl hb
  · right
    rintro rfl
    rcases h with h | h
    · exact hb h
    · exact h rfl
theorem ap_next {w : World} {v v' u : Value} (h : v.ownBlock = none ∨ v.ownBlock ≠ u.ownBlock) (ha : v'.ownBlock = v.ownBlock ∨ v'.ownBlock = some w.heap.size) (hu : ∀ k, u.ownBlock = some k → k < w.heap.size) : v'.ownBlock = none ∨ v'.ownBlock ≠ u.ownBlock := by
  rcases ha with ha | ha
  · rw [ha]; exact h
  · right
    rw [ha]
    intro he
    have := hu _ he.symm
    omega

theorem El.new (w : World) (r : Rw) (t : TypeId) : El (w.alloc (.cells #[.bool r.g, .slice r.p (dig B32 r.m).length r.c, .int .i64 r.e] t)) w.heap.size 0 r :=
  have h := bx_new w #[.bool r.g, .slice r.p (dig B32 r.m).length r.c, .int .i64 r.e] t
  ⟨h.c 0 rfl, h.c 1 rfl, h.c 2 rfl, h.lt⟩

theorem underB : ∃ f0 f1 : Field, Tryd.prog.underlying 64 = some (.struct #[f0, f1]) ∧ f0.type = 62 ∧ f0.offset = 0 ∧ f1.type = 62 ∧ f1.offset = 3 := by
  have h := Tryd.underlying64
  exact ⟨_, _, h, rfl, rfl, rfl, rfl⟩

theorem run_fieldB0 (v0 v1 v2 v3 v4 v5 : Value) (W : World) : (Instr.field 64 (.agg #[v0, v1, v2, v3, v4, v5]) 0).run Tryd.prog W = .ok (.agg #[v0, v1, v2]) W := by
  obtain ⟨f0, f1, h, h0, h1, h2, h3⟩ := underB
  obtain ⟨i, z, hi, hz, k1, k2, k3⟩ := tyRaw
  obtain ⟨d, hd⟩ : ∃ d, Tryd.prog.underlying 62 = some (.struct d) := ⟨_, Tryd.underlying62⟩
  simp [Instr.field, run_underlying h, h0, h1, part, isAgg, asAgg, sizeOf, typeInfo, hi, k1, run_underlying hd]
theorem run_fieldB1 (v0 v1 v2 v3 v4 v5 : Value) (W : World) : (Instr.field 64 (.agg #[v0, v1, v2, v3, v4, v5]) 1).run Tryd.prog W = .ok (.agg #[v3, v4, v5]) W := by
  obtain ⟨f0, f1, h, h0, h1, h2, h3⟩ := underB
  obtain ⟨i, z, hi, hz, k1, k2, k3⟩ := tyRaw
  obtain ⟨d, hd⟩ : ∃ d, Tryd.prog.underlying 62 = some (.struct d) := ⟨_, Tryd.underlying62⟩
  simp [Instr.field, run_underlying h, h2, h3, part, isAgg, asAgg, sizeOf, typeInfo, hi, k1, run_underlying hd]

/-- around, of a row. -/
theorem around_ov (b base0 base : Nat) (v : Value) (d : Dv) (D : List Dv) (w : World) (O : Ov w base0 base v (d :: D)) (h1 : 1 ≤ D.length) (h2 : D.length ≤ 900) (hb : b ≤ 1000000) (hT : TabW w) (hbase : base ≤ w.heap.size) :
    Calls Tryd.prog 82 #[.int .i64 b, v] w (GivesB w base (pCut (lowD d D) b false) (pCut (highD d D) b true)) := by
  obtain ⟨L, k1, k2, k3⟩ := O
  match L, k1, k2, k3 with
  | a :: L, k1, k2, k3 =>
    simp only [List.map_cons, List.cons.injEq] at k2
    obtain ⟨k4, k5⟩ := k2
    have hl : L.length = D.length := by rw [← k5, List.length_map]
    obtain ⟨g, c, hv, hc, hel⟩ := k1.el (by simp)
    rw [hv]
    have h := around_any b g c base (a :: L) w _ rfl (by simp; omega) hc (by simp; omega) (fun j hj => (hel j hj).e3) (fun j hj => k3 _ (List.getElem_mem hj)) (hel 0 (by simp)).lt hb hT hbase
    simp only [List.getElem_cons_zero, List.tail_cons] at h
    rw [lowR_v, highR_v, k4, k5] at h
    exact h

end Go.Proofs.YtehodhanojgkgaaDoor
