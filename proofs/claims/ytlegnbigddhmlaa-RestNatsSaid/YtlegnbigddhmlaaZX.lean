/- Steps of a walk, one operation at a time, each value and each new world named by hand (for texts that sx.py prints). No program is in sight here.
   Steps of a walk in few words (for texts that sx.py prints). No program is in sight here.
   Steps of a walk: what an exit passes. No program is in sight here.
   Steps over slices in rows of the call's own, as sx.py prints them: append, a slice's part, an index, a load. No program is in sight here. -/
import Derived.Test.YtlegnbigddhmlaaZB
import Derived.Deep.RegionHeld3
import Derived.KernelRfl
import Derived.IntWalk
import Derived.LoopN
import Derived.Deep.LoopGhost
import Derived.Test.YtlegnbigddhmlaaZRst1
namespace Go.Slip
open Go.RowKit

/-- Block b holds just these cells, of this type, and may be written. -/
def Bt (w : World) (b : Nat) (t : TypeId) (vs : Array Value) : Prop := w.heap[b]? = some (.cells vs t)
theorem Bt.bx {w : World} {b : Nat} {t : TypeId} {vs : Array Value} (h : Bt w b t vs) : Bx w b vs := ⟨t, h⟩
theorem Bt.lt {w : World} {b : Nat} {t : TypeId} {vs : Array Value} (h : Bt w b t vs) : b < w.heap.size := h.bx.lt
theorem Bt.same {w w' : World} {b : Nat} {t : TypeId} {vs : Array Value} (h : Bt w b t vs) (hb : w'.heap[b]? = w.heap[b]?) : Bt w' b t vs := hb.trans h
theorem Bt.past {w w' : World} {b : Nat} {t : TypeId} {vs : Array Value} (h : Bt w b t vs) (hb : Below w.heap.size w w') : Bt w' b t vs := h.same (hb.block _ h.lt)
theorem Bt.only {w w' : World} {b k : Nat} {t : TypeId} {vs : Array Value} (h : Bt w b t vs) (hb : Only k w w') (hne : b ≠ k) : Bt w' b t vs := h.same (hb.block _ hne)
theorem Bt.keep {w w' : World} {b k : Nat} {t : TypeId} {vs : Array Value} (h : Bt w b t vs) (hb : Keep k w w') (hne : b ≠ k) : Bt w' b t vs := h.same (hb.block _ h.lt hne)
theorem bt_new (w : World) (vs : Array Value) (t : TypeId) : Bt (w.alloc (.cells vs t)) w.heap.size t vs := by show (w.heap.push _)[_]? = _; simp
theorem Bt.set {w : World} {b : Nat} {t : TypeId} {vs : Array Value} (h : Bt w b t vs) (i : Nat) (v : Value) : Bt (w.setCell ⟨b, i, none⟩ v) b t (vs.setIfInBounds i v) := by
  show (w.heap.modify b _)[b]? = _
  rw [Array.getElem?_modify, if_pos rfl, h]
  rfl
theorem Bt.e1 {w : World} {b : Nat} {t : TypeId} {v0 : Value} (h : Bt w b t #[v0]) : w.cell? ⟨b, 0, none⟩ = some v0 := h.bx.c 0 rfl
/-- What lies in a block of another type is another block. -/
theorem Own.far {w : World} {base : Nat} {k : IntKind} {e : TypeId} {p : Option Addr} {c : Nat} {xs : List Nat} (h : Own w base k e p c xs) {b : Nat} {t : TypeId} {vs : Array Value} (hX : Bt w b t vs) (hne : Nat.beq t e = false) (hp : p.isSome = true) : blk p ≠ b := by
  rcases h.2 with ⟨h1, h2⟩ | ⟨g, cap, cur, hv, hb, hg, _⟩
  · simp only [Value.slice.injEq] at h1
    rw [h1.1] at hp; cases hp
  · simp only [Value.slice.injEq] at hv
    intro hE
    rw [hv.1] at hE
    have hE2 : g = b := hE
    subst hE2
    have hE3 := hg.symm.trans hX
    simp only [Option.some.injEq, Obj.cells.injEq] at hE3
    rw [hE3.2.1] at hne
    simp at hne
theorem Own.put {w w' : World} {base : Nat} {k : IntKind} {e : TypeId} {p : Option Addr} {c : Nat} {xs : List Nat} (h : Own w base k e p c xs) {b : Nat} {t : TypeId} {vs : Array Value} (hX : Bt w b t vs) (hO : Only b w w') (hne : Nat.beq t e = false) : Own w' base k e p c xs :=
  h.only hO (h.far hX hne)
theorem Own.putK {w w' : World} {base : Nat} {k : IntKind} {e : TypeId} {p : Option Addr} {c : Nat} {xs : List Nat} (h : Own w base k e p c xs) {b : Nat} {t : TypeId} {vs : Array Value} (hX : Bt w b t vs) (hO : Keep b w w') (hne : Nat.beq t e = false) : Own w' base k e p c xs :=
  h.keep hO (h.far hX hne)
/-- No digit lies there. -/
def noDig (k : IntKind) (vs : Array Value) : Bool := vs.all fun v => match v with | .int k' _ => !(decide (k' = k)) | _ => true
theorem Rd.far {w : World} {k : IntKind} {p : Option Addr} {xs : List Nat} (h : Rd w k p xs) {b : Nat} {t : TypeId} {vs : Array Value} (hX : Bt w b t vs) (hne : noDig k vs = true) (hp : 0 < xs.length) : blk p ≠ b := by
  intro hE
  have h1 := h.cells 0 hp
  have h2 : w.cell? (at_ p 0) = vs[(p.getD ⟨0, 0, none⟩).off + 0]? := by
    have := hX.bx.cell ((p.getD ⟨0, 0, none⟩).off + 0)
    rw [← this]
    unfold at_
    rw [show (p.getD ⟨0, 0, none⟩).block = b from hE]
  rw [h2] at h1
  unfold noDig at hne
  rw [Array.all_eq_true_iff_forall_mem] at hne
  have := hne _ (Array.mem_of_getElem? h1)
  simp at this
theorem Rd.put {w w' : World} {k : IntKind} {p : Option Addr} {xs : List Nat} (h : Rd w k p xs) {b : Nat} {t : TypeId} {vs : Array Value} (hX : Bt w b t vs) (hO : Only b w w') (hne : noDig k vs = true) : Rd w' k p xs := h.only hO (h.far hX hne)
theorem Rd.putK {w w' : World} {k : IntKind} {p : Option Addr} {xs : List Nat} (h : Rd w k p xs) {b : Nat} {t : TypeId} {vs : Array Value} (hX : Bt w b t vs) (hO : Keep b w w') (hne : noDig k vs = true) : Rd w' k p xs := h.keep hO (h.far hX hne)

/-- One operation, and what comes behind it. -/
structure OpW (P : Program) (ops : Array Oper) (Q : Exit → Act → World → Prop) (o : Oper) (K : Act → World → Prop) (a : Act) (w : World) : Prop where
  out : if Region.wanted o (yielded ops a.tmps) = true then o.wp P a w K Q else K (a.put o.dst undef) w

/-- A plain region's list, a drawn region: so that no elaborator looks into them. -/
structure WpL (P : Program) (ops : Array Oper) (Q : Exit → Act → World → Prop) (l : List Oper) (a : Act) (w : World) : Prop where
  out : wpList P ops Q l a w
structure WpH (P : Program) (ops : Array Oper) (Q : Exit → Act → World → Prop) (S : World → Prop) (fuel : Nat) (listed : Array Bool) (a : Act) (w : World) : Prop where
  out : wpAnyH P .any ops Q S fuel listed a w

section
variable {P : Program} {ops : Array Oper} {Q : Exit → Act → World → Prop} {a : Act} {w : World} {rest : List Oper} {o : Oper} {K : Act → World → Prop}

/-- In a plain region. -/
theorem sx_step (h : ∀ K : Act → World → Prop, Shut (∀ a w, WpL P ops Q rest a w → K a w) → OpW P ops Q o K a w) : WpL P ops Q (o :: rest) a w :=
  ⟨wpList_step fun K hK => (h K (fun a w k => hK a w k.out)).out⟩

theorem sx_region {id : Nat} {l : List Oper} (h : WpL P l.toArray Q l a w) : (Code.region id l.toArray false).wp P Q a w := wp_region_lit h.out
theorem sx_nil (h : Q .normal a w) : WpL P ops Q [] a w := ⟨h⟩

theorem OpW.mono {K' : Act → World → Prop} (h : ∀ a w, K a w → K' a w) (hh : OpW P ops Q o K a w) : OpW P ops Q o K' a w := by
  refine ⟨?_⟩
  replace hh := hh.out
  split
  · rename_i hw; rw [if_pos hw] at hh; exact Oper.wp_mono h hh
  · rename_i hw; rw [if_neg hw] at hh; exact h _ _ hh

theorem wpList_of (h : OpW P ops Q o (WpL P ops Q rest) a w) : WpL P ops Q (o :: rest) a w :=
  sx_step fun _ hK => h.mono hK.out

/-- It is not wanted. -/
theorem opw_off (d : Option Tmp) (hd : o.dst = d) (hw : Region.wanted o (yielded ops a.tmps) = false) (h : K (a.put d undef) w) : OpW P ops Q o K a w := by
  subst hd
  refine ⟨?_⟩
  rw [if_neg (by simp [hw])]
  exact h

theorem opw_val (d : Option Tmp) (hd : o.dst = d) (v : Value) (hw : Region.wanted o (yielded ops a.tmps) = true) (hr : (execOp a.eval o).run P w = .ok (.value v) w) (h : K (a.put d v) w) : OpW P ops Q o K a w := by
  subst hd
  refine ⟨?_⟩
  rw [if_pos hw]
  unfold Oper.wp
  rw [hr]
  exact h

/-- It makes a block. -/
theorem opw_new (d : Option Tmp) (hd : o.dst = d) (vs : Array Value) (t : TypeId) (hw : Region.wanted o (yielded ops a.tmps) = true) (hr : (execOp a.eval o).run P w = .ok (.value (.pointer (some ⟨w.heap.size, 0, none⟩))) (w.alloc (.cells vs t)))
    (h : ∀ W, Below w.heap.size w W → W.heap.size = w.heap.size + 1 → Bt W w.heap.size t vs → K (a.put d (.pointer (some ⟨w.heap.size, 0, none⟩))) W) : OpW P ops Q o K a w := by
  subst hd
  refine ⟨?_⟩
  rw [if_pos hw]
  unfold Oper.wp
  rw [hr]
  exact h _ (below_lay1 _ _) (by simp) (bt_new _ _ _)

/-- It makes a block, and yields a value over it. -/
theorem opw_newv (d : Option Tmp) (hd : o.dst = d) (v : Value) (vs : Array Value) (t : TypeId) (hw : Region.wanted o (yielded ops a.tmps) = true) (hr : (execOp a.eval o).run P w = .ok (.value v) (w.alloc (.cells vs t)))
    (h : ∀ W, Below w.heap.size w W → W.heap.size = w.heap.size + 1 → Bt W w.heap.size t vs → K (a.put d v) W) : OpW P ops Q o K a w := by
  subst hd
  refine ⟨?_⟩
  rw [if_pos hw]
  unfold Oper.wp
  rw [hr]
  exact h _ (below_lay1 _ _) (by simp) (bt_new _ _ _)

/-- It calls a function. -/
theorem opw_enter (d : Option Tmp) (hd : o.dst = d) (f : FuncId) (args : Array Value) (hw : Region.wanted o (yielded ops a.tmps) = true) (hr : (execOp a.eval o).run P w = .ok (.enter f args) w)
    (h : Calls P f args w fun e w' => ∃ v, e = .returned v ∧ K (a.put d v) w') : OpW P ops Q o K a w := by
  subst hd
  refine ⟨?_⟩
  rw [if_pos hw]
  unfold Oper.wp
  rw [hr]
  refine Calls.mono h ?_
  rintro e w' ⟨v, rfl, hk⟩
  exact hk

theorem opw_skip (d : Option Tmp) (hd : o.dst = d) {w' : World} (hw : Region.wanted o (yielded ops a.tmps) = true) (hr : (execOp a.eval o).run P w = .ok .skip w') (h : K (a.put d undef) w') : OpW P ops Q o K a w := by
  subst hd
  refine ⟨?_⟩
  rw [if_pos hw]
  unfold Oper.wp
  rw [hr]
  exact h

end

/-! ### Loads and stores -/
/-- A type of so many cells, a struct. -/
structure SxAgg (P : Program) (t : TypeId) (n : Nat) : Prop where
  row : ∃ d, P.underlying t = some d ∧ d.isRow = true
  size : (P.info? t).map (·.size) = some n

theorem sxAgg_of {P : Program} {t : TypeId} {n : Nat} (h : (match P.underlying t with | some d => d.isRow | none => false) = true) (k : (P.info? t).map (·.size) = some n) : SxAgg P t n := by
  refine ⟨?_, k⟩
  revert h
  cases P.underlying t with
  | none => intro h; cases h
  | some d => intro h; exact ⟨d, rfl, h⟩

/-- A type of one cell. -/
structure SxOne (P : Program) (t : TypeId) : Prop where
  row : ∃ d, P.underlying t = some d ∧ d.isRow = false
  size : (P.info? t).map (·.size) = some 1

theorem sxOne_of {P : Program} {t : TypeId} (h : (match P.underlying t with | some d => d.isRow | none => true) = false) (k : (P.info? t).map (·.size) = some 1) : SxOne P t := by
  refine ⟨?_, k⟩
  revert h
  cases P.underlying t with
  | none => intro h; cases h
  | some d => intro h; exact ⟨d, rfl, h⟩

/-- The cells from off on are these. -/
def Part (vs : Array Value) (off : Nat) (cs : List Value) : Prop := ∀ j v, cs[j]? = some v → vs[off + j]? = some v

theorem part_of {vs : Array Value} {off : Nat} {cs : List Value} (h : (vs.toList.drop off).take cs.length = cs) : Part vs off cs := by
  intro j v hv
  have hj := (List.getElem?_eq_some_iff.1 hv).1
  rw [← h, List.getElem?_take, if_pos hj, List.getElem?_drop] at hv
  simpa using hv

theorem Bx.rangeAt {w : World} {b : Nat} {vs : Array Value} (h : Bx w b vs) {off : Nat} {cs : List Value} (hc : Part vs off cs) : w.rangeAt b off cs := fun j v hv => by
  rw [h.cell]
  exact hc j v hv

theorem run_ld {P : Program} {w : World} {b : Nat} {t : TypeId} {vs : Array Value} (h : Bt w b t vs) {ty n : Nat} (hT : SxAgg P ty n) (off : Nat) (cs : List Value) (hc : (vs.toList.drop off).take cs.length = cs) (hn : cs.length = n) :
    (Instr.loadAt ty (.pointer (some ⟨b, off, none⟩))).run P w = .ok (.agg cs.toArray) w := by
  obtain ⟨⟨d, hu, hd⟩, hi⟩ := hT
  exact run_loadAt_mid w b off ty cs d (h.bx.rangeAt (part_of hc)) hu hd (by rw [hi, hn])

theorem run_isAgg_one {P : Program} {w : World} {ty : Nat} (hT : SxOne P ty) : (isAgg ty).run P w = .ok false w := by
  obtain ⟨⟨d, hu, hd⟩, -⟩ := hT
  unfold isAgg
  rw [Sem.run_bind, run_underlying hu w]
  cases d <;> simp_all [TypeDesc.isRow]

theorem run_ld1 {P : Program} {w : World} {b : Nat} {t : TypeId} {vs : Array Value} (h : Bt w b t vs) {ty : Nat} (hT : SxOne P ty) (off : Nat) (v : Value) (hc : vs[off]? = some v) :
    (Instr.loadAt ty (.pointer (some ⟨b, off, none⟩))).run P w = .ok v w := by
  have hl : (load ⟨b, off, none⟩).run P w = .ok v w := by
    have := h.bx.c off hc
    simp [go_sem, this]
  simp only [Instr.loadAt, Instr.sureAddr, Sem.run_bind, Sem.run_pure, Result.andThen_ok, loadVar, run_isAgg_one hT]
  simpa using hl

section
variable {P : Program} {ops : Array Oper} {Q : Exit → Act → World → Prop} {a : Act} {w : World} {K : Act → World → Prop}

theorem exec_ld {ty : TypeId} {x : Operand} {dst : Option Tmp} {t2 : TypeId} {pos : String} {af : Array Edge} {g : Option (Nat × Bool)} {p v : Value} (hx : a.eval x = p) (h : (Instr.loadAt ty p).run P w = .ok v w) :
    (execOp a.eval ⟨dst, .load ty x, t2, pos, af, g⟩).run P w = .ok (.value v) w := by
  unfold execOp
  simp only [hx, Sem.run_bind, h, Result.andThen_ok, Sem.run_pure]
end

/-- What a row is behind a store. -/
def putL (vs : Array Value) (off : Nat) : List Value → Array Value
  | [] => vs
  | v :: r => putL (vs.setIfInBounds off v) (off + 1) r

theorem Bt.setCells {b : Nat} {t : TypeId} : ∀ (cs : List Value) (off : Nat) (w : World) (vs : Array Value), Bt w b t vs → Bt (w.setCells b off cs) b t (putL vs off cs) ∧ Only b w (w.setCells b off cs)
  | [], _, w, _, h => ⟨h, Only.refl _ _⟩
  | v :: r, off, w, vs, h => by
    have := Bt.setCells r (off + 1) (w.setCell ⟨b, off, none⟩ v) (vs.setIfInBounds off v) (h.set off v)
    exact ⟨this.1, (only_set w b off v).trans this.2⟩

theorem Bx.there {w : World} {b : Nat} {vs : Array Value} (h : Bx w b vs) {off n : Nat} (hn : off + n ≤ vs.size) : w.there b off n := fun j hj => by
  refine ⟨?_, h.f _⟩
  rw [h.cell, Array.getElem?_eq_getElem (by omega)]
  rfl

section
variable {P : Program} {ops : Array Oper} {Q : Exit → Act → World → Prop} {a : Act} {w : World} {K : Act → World → Prop} {o : Oper}

/-- A store of a struct. -/
theorem opw_st (d : Option Tmp) (hd : o.dst = d) {ty : TypeId} {x y : Operand} {b : Nat} {t : TypeId} {vs : Array Value} (hX : Bt w b t vs) {n : Nat} (hT : SxAgg P ty n) (off : Nat) (cs vs' : Array Value)
    (hw : Region.wanted o (yielded ops a.tmps) = true) (ho : o.op = .store ty x y) (hx : a.eval x = .pointer (some ⟨b, off, none⟩)) (hy : a.eval y = .agg cs)
    (hn : cs.size = n) (hle' : Nat.ble (off + n) vs.size = true) (h1 : cs.all (·.oneCell') = true) (hv : putL vs off cs.toList = vs')
    (h : ∀ W, Only b w W → Bt W b t vs' → K (a.put d undef) W) : OpW P ops Q o K a w := by
  subst hd
  subst hn hv
  have hle := Nat.le_of_ble_eq_true hle'
  refine ⟨?_⟩
  rw [if_pos hw]
  have hB := Bt.setCells cs.toList off w vs hX
  exact wp_store_mid ty x y ho b off cs hx hy (hX.bx.there hle) hT.size h1 (h _ hB.2 hB.1)

/-- A store of one cell. -/
theorem opw_st1 (d : Option Tmp) (hd : o.dst = d) {ty : TypeId} {x y : Operand} {b : Nat} {t : TypeId} {vs : Array Value} (hX : Bt w b t vs) (hT : SxOne P ty) (off : Nat) (v : Value) (vs' : Array Value)
    (hw : Region.wanted o (yielded ops a.tmps) = true) (ho : o.op = .store ty x y) (hx : a.eval x = .pointer (some ⟨b, off, none⟩)) (hy : a.eval y = v)
    (hle' : Nat.ble (off + 1) vs.size = true) (h1 : v.cells = #[v]) (h5 : v.oneCell' = true) (hv : vs.setIfInBounds off v = vs')
    (h : ∀ W, Only b w W → Bt W b t vs' → K (a.put d undef) W) : OpW P ops Q o K a w := by
  subst hd
  subst hv
  have hle : off < vs.size := Nat.le_of_ble_eq_true hle'
  refine ⟨?_⟩
  rw [if_pos hw]
  have h2 := hX.bx.c off (v := vs[off]) (by rw [Array.getElem?_eq_getElem hle])
  have h3 := hX.bx.f off
  have h4 : (storeCells ⟨b, off, none⟩ [v] 0).run P w = .ok () (w.setCell ⟨b, off, none⟩ v) := by
    have := run_storeCells_cells (P := P) b off [v] 0 w (fun j hj => by simp at hj; subst hj; simp [h2]) (fun j hj => by simp at hj; subst hj; simpa using h3) (fun u hu => by simp at hu; subst hu; exact h5)
    simpa [World.setCells] using this
  have hs : (storeVar ty ⟨b, off, none⟩ v).run P w = .ok () (w.setCell ⟨b, off, none⟩ v) := by
    have hz := hT.size
    cases hq : P.info? ty with
    | none => simp [hq] at hz
    | some i =>
      have hi : i.size = 1 := by simpa [hq] using hz
      unfold storeVar
      rw [h1]
      simpa [sizeOf, typeInfo, hq, hi] using h4
  unfold Oper.wp execOp
  simp only [ho, hx, hy, Instr.storeAt, Instr.sureAddr, Sem.run_bind, Sem.run_pure, Result.andThen_ok, hs]
  exact h _ (only_set _ _ _ _) (hX.set off v)

end

/-! ### Reads of the references -/
/-- A list of the reference's, from block base on. -/
structure Rf (w : World) (base : Nat) (p : Option Addr) (c : Nat) (xs : List Nat) : Prop where
  rd : Rd w .i64 p xs
  cap : xs.length ≤ c
  at_ : 0 < xs.length → base ≤ blk p
theorem Rf.past {w w' : World} {base : Nat} {p : Option Addr} {c : Nat} {xs : List Nat} (h : Rf w base p c xs) (hb : Below w.heap.size w w') : Rf w' base p c xs := ⟨h.rd.past hb, h.cap, h.at_⟩
theorem Rf.only {w w' : World} {base k : Nat} {p : Option Addr} {c : Nat} {xs : List Nat} (h : Rf w base p c xs) (hb : Only k w w') (hne : 0 < xs.length → blk p ≠ k) : Rf w' base p c xs := ⟨h.rd.only hb hne, h.cap, h.at_⟩
theorem Rf.keep {w w' : World} {base k : Nat} {p : Option Addr} {c : Nat} {xs : List Nat} (h : Rf w base p c xs) (hb : Keep k w w') (hne : 0 < xs.length → blk p ≠ k) : Rf w' base p c xs := ⟨h.rd.keep hb hne, h.cap, h.at_⟩
theorem Rf.mono {w : World} {base b' : Nat} {p : Option Addr} {c : Nat} {xs : List Nat} (h : Rf w base p c xs) (hb : b' ≤ base) : Rf w b' p c xs := ⟨h.rd, h.cap, fun h0 => Nat.le_trans hb (h.at_ h0)⟩
theorem Rf.lt {w : World} {base : Nat} {p : Option Addr} {c : Nat} {xs : List Nat} (h : Rf w base p c xs) (h0 : 0 < xs.length) : base ≤ blk p ∧ blk p < w.heap.size := ⟨h.at_ h0, h.rd.lt h0⟩
theorem rf_of {w : World} {base : Nat} {p : Option Addr} {c : Nat} {xs : List Nat} (hr : Rd w .i64 p xs) (hc : xs.length ≤ c) (hf : 0 < xs.length → False ∨ base ≤ blk p) : Rf w base p c xs := ⟨hr, hc, fun h => (hf h).resolve_left id⟩
theorem rf_ofR {w : World} {base : Nat} {p : Option Addr} {c : Nat} {xs : List Nat} (hr : Rd w .i64 p xs) (hc : xs.length ≤ c) (hf : 0 < xs.length → base ≤ blk p) : Rf w base p c xs := ⟨hr, hc, hf⟩
theorem rf_ofP {w : World} {B base : Nat} {p : Option Addr} {c : Nat} {xs : List Nat} (hr : Rd w .i64 p xs) (hc : xs.length ≤ c) (hf : 0 < xs.length → B ≤ blk p ∨ base ≤ blk p) (hB : B ≤ base) : Rf w B p c xs := ⟨hr, hc, fun h => (hf h).elim id (Nat.le_trans hB)⟩
theorem rf_nil (w : World) (base : Nat) (p : Option Addr) : Rf w base p 0 [] := ⟨Rd.nil _ _ _, Nat.le_refl _, fun h => by simp at h⟩
theorem rf_lit {w : World} {b : Nat} {t : TypeId} {k : Nat} (h : Bt w b t #[.int .i64 (k : Int)]) : Rf w b (some ⟨b, 0, none⟩) 1 [k] := by
  refine ⟨⟨fun _ => ⟨rfl, rfl⟩, fun j hj => ?_⟩, Nat.le_refl _, fun _ => Nat.le_refl _⟩
  obtain rfl : j = 0 := by simp at hj; omega
  exact h.e1

/-! ### Quotients, shifts -/
section
variable {P : Program} {a : Act} {w : World} {dst : Option Tmp} {t2 xT yT : TypeId} {pos : String} {af : Array Edge} {g : Option (Nat × Bool)} {x y : Operand} {k : IntKind} {X Y : Int}
theorem exec_quo (m : Int) (hx : a.eval x = .int k X) (hy : a.eval y = .int k Y) (h0 : Y ≠ 0) (hm : k.wrap (X.tdiv Y) = m) : (execOp a.eval ⟨dst, .binOp .quo xT x y yT, t2, pos, af, g⟩).run P w = .ok (.value (.int k m)) w := by
  unfold execOp
  simp only [hx, hy]
  simp [binOp, eqGuard, Op.intDiv, h0, hm]
theorem exec_rem (m : Int) (hx : a.eval x = .int k X) (hy : a.eval y = .int k Y) (h0 : Y ≠ 0) (hm : X.tmod Y = m) : (execOp a.eval ⟨dst, .binOp .rem xT x y yT, t2, pos, af, g⟩).run P w = .ok (.value (.int k m)) w := by
  unfold execOp
  simp only [hx, hy]
  simp [binOp, eqGuard, Op.intDiv, h0, hm]
theorem exec_shl {k2 : IntKind} (m : Int) (hx : a.eval x = .int k X) (hy : a.eval y = .int k2 Y) (h0 : 0 ≤ Y) (hm : k.wrap (X * 2 ^ (min Y.toNat k.bits)) = m) : (execOp a.eval ⟨dst, .binOp .shl xT x y yT, t2, pos, af, g⟩).run P w = .ok (.value (.int k m)) w := by
  unfold execOp
  simp only [hx, hy]
  simp [binOp, eqGuard, Op.shift, show ¬ Y < 0 by omega, hm]
theorem exec_shr {k2 : IntKind} (m : Int) (hx : a.eval x = .int k X) (hy : a.eval y = .int k2 Y) (h0 : 0 ≤ Y) (hm : X.fdiv (2 ^ (min Y.toNat k.bits)) = m) : (execOp a.eval ⟨dst, .binOp .shr xT x y yT, t2, pos, af, g⟩).run P w = .ok (.value (.int k m)) w := by
  unfold execOp
  simp only [hx, hy]
  simp [binOp, eqGuard, Op.shift, show ¬ Y < 0 by omega, hm]
end

/-! ### The order -/
theorem sx_drawn {P : Program} {ops : Array Oper} {Q : Exit → Act → World → Prop} (S : World → Prop) {id : Nat} {a : Act} {w V : World} (hV : V = w.drew) (hm : P.follows .mixedOrders = true) (hS : S V)
    (h : WpH P ops Q S ops.size (Array.replicate ops.size false) a V) : (Code.region id ops true).wp P Q a w := by
  subst hV
  exact wp_region_held_drew hm hS (fun _ => h.out)
theorem sx_done {P : Program} {ops : Array Oper} {Q : Exit → Act → World → Prop} {S : World → Prop} {fuel : Nat} {listed : Array Bool} {a : Act} {w : World} (hr : Region.ready .any ops listed = []) (h : Q .normal a w) : WpH P ops Q S fuel listed a w := ⟨wpAnyH_done hr h _⟩
/-- Whichever comes up. -/
structure Rdy (P : Program) (ops : Array Oper) (Q : Exit → Act → World → Prop) (S : World → Prop) (fuel : Nat) (listed : Array Bool) (a : Act) (w : World) (rs : List Nat) : Prop where
  out : AllReadyH P .any ops Q S fuel listed a w rs
theorem sx_ready {P : Program} {ops : Array Oper} {Q : Exit → Act → World → Prop} {S : World → Prop} (rs : List Nat) {fuel : Nat} {listed : Array Bool} {a : Act} {w : World} (hr : Region.ready .any ops listed = rs) (hne : rs.isEmpty = false)
    (h : Rdy P ops Q S fuel listed a w rs) : WpH P ops Q S (fuel + 1) listed a w := ⟨wpAnyH_ready hr (by intro hn; rw [hn] at hne; cases hne) h.out⟩
theorem rdy_nil {P : Program} {ops : Array Oper} {Q : Exit → Act → World → Prop} {S : World → Prop} {fuel : Nat} {listed : Array Bool} {a : Act} {w : World} : Rdy P ops Q S fuel listed a w [] := ⟨AllReadyH.nil⟩
theorem rdy_cons {P : Program} {ops : Array Oper} {Q : Exit → Act → World → Prop} {S : World → Prop} {fuel : Nat} {listed : Array Bool} {a : Act} {w : World} {i : Nat} {o : Oper} {rs : List Nat} (listed' : Array Bool) (ho : ops[i]? = some o) (hl : listed.setIfInBounds i true = listed')
    (h : ∀ K' : Act → World → Prop, Shut (∀ a w, S w → WpH P ops Q S fuel listed' a w → K' a w) → OpW P ops Q o K' a w)
    (hs : Rdy P ops Q S fuel listed a w rs) : Rdy P ops Q S fuel listed a w (i :: rs) := by
  subst hl
  exact ⟨AllReadyH.cons ho (fun K' hK => (h K' (fun a w hS k => hK.out a w hS (fun _ => k.out))).out) hs.out⟩
/-- An operation taken first. -/
theorem sx_take {P : Program} {ops : Array Oper} {Q : Exit → Act → World → Prop} {S : World → Prop} {fuel : Nat} {listed : Array Bool} {a : Act} {w : World} (i : Nat) {oi : Oper} (d : Option Tmp) (v : Value) (listed' : Array Bool) (hi : ops[i]? = some oi) (hd : oi.dst = d) (hl : listed.setIfInBounds i true = listed')
    (hs : Region.noSelect ops = true) (hf : Region.free .any ops listed i = true) (hr : (Region.ready .any ops listed).contains i = true)
    (hQ : ∀ c a w, Q (.panic c) (a.put d v) w → Q (.panic c) a w) (hy : YieldsIf P ops S oi v a) (hS : S w)
    (h : WpH P ops Q S fuel listed' (a.put d v) w) : WpH P ops Q S (fuel + 1) listed a w := by
  subst hd hl
  exact ⟨wpAnyH_take hi hs hf hr hQ hy hS h.out⟩
structure CutQ (R : Act → World → Prop) (e : Exit) (a : Act) (w : World) : Prop where
  nm : e = .normal
  out : R a w
theorem cut_panic {R : Act → World → Prop} {c : List PanicEntry} {a a' : Act} {w : World} (h : CutQ R (.panic c) a w) : CutQ R (.panic c) a' w := by cases h.nm
theorem sx_cut {P : Program} {c : Code} {Q : Exit → Act → World → Prop} {a : Act} {w : World} {R : Act → World → Prop} (h : c.wp P (CutQ R) a w) (k : ∀ a w, R a w → Q .normal a w) : c.wp P Q a w :=
  wp_mono h fun e a w h => by
    obtain ⟨he, hr⟩ := h
    subst he
    exact k a w hr
theorem Keep.refl (b : Nat) (w : World) : Keep b w w := ⟨rfl, rfl, rfl, Nat.le_refl _, fun _ _ _ => rfl⟩
theorem Keep.step {b : Nat} {w w1 w2 : World} (h : Keep b w w1) (k : Below w1.heap.size w1 w2) : Keep b w w2 := h.trans (Below.keep k b)
theorem Keep.put {b x : Nat} {w w1 w2 : World} (h : Keep b w w1) (k : Only x w1 w2) (hx : w.heap.size ≤ x ∨ x = b) : Keep b w w2 :=
  ⟨k.os.trans h.os, k.tape.trans h.tape, k.output.trans h.output, by rw [k.size]; exact h.size, fun i hi hn => (k.block i (by omega)).trans (h.block i hi hn)⟩
theorem bthru {w w1 w2 : World} {B : Nat} (h : Below B w w1) (k : Below w1.heap.size w1 w2) (hB : B ≤ w1.heap.size := by omega) : Below B w w2 := h.trans (k.mono hB)
theorem sx_round {P : Program} {c : Code} {Q : Exit → Act → World → Prop} {n : Nat} {a : Act} {w : World} (h : c.wp P (Exit.then (Code.rounds P c Q n) Q) a w) : Code.rounds P c Q (n + 1) a w := h
theorem sx_then {next : Act → World → Prop} {Q : Exit → Act → World → Prop} {a : Act} {w : World} (h : next a w) : Exit.then next Q .normal a w := h
theorem sx_frame {P : Program} {c : Code} {Q : Exit → Act → World → Prop} {a a' : Act} {w : World} (h : a = a') (k : c.wp P Q a' w) : c.wp P Q a w := by rw [h]; exact k
theorem sx_frameQ {Q : Exit → Act → World → Prop} {e : Exit} {a a' : Act} {w : World} (h : a = a') (k : Q e a' w) : Q e a w := by rw [h]; exact k
theorem sx_inblock {id : Nat} {Q : Exit → Act → World → Prop} {a : Act} {w : World} (h : Q .normal a w) : Exit.inBlock id Q .normal a w := h
theorem sx_exit {id : Nat} {Q : Exit → Act → World → Prop} {a : Act} {w : World} (h : Q .normal a w) : Exit.inBlock id Q (.exit id) a w := by unfold Exit.inBlock; simpa using h
theorem sx_ints {k : IntKind} {n m : Int} (h : k.wrap n = m) : Value.int k (k.wrap n) = .int k m := by rw [h]
theorem sx_bools {b c : Bool} (h : b = c) : Value.bool b = .bool c := by rw [h]

end Go.Slip

namespace Go.Slip
open Go.RowKit
theorem sx_thenret {next : Act → World → Prop} {Q : Exit → Act → World → Prop} {a : Act} {w : World} (h : Q .ret a w) : Exit.then next Q .ret a w := h
theorem sx_blockret {id : Nat} {Q : Exit → Act → World → Prop} {a : Act} {w : World} (h : Q .ret a w) : Exit.inBlock id Q .ret a w := h

section
variable {P : Program} {ops : Array Oper} {Q : Exit → Act → World → Prop} {a : Act} {w : World} {rest : List Oper} {o : Oper} {K : Act → World → Prop}

/-- A value. -/
theorem sk (d : Nat) (v : Value) (h : K (a.put (some d) v) w) (hr : (execOp a.eval o).run P w = .ok (.value v) w := by kernel_rfl) (hd : o.dst = some d := by kernel_rfl) (hw : Region.wanted o (yielded ops a.tmps) = true := by kernel_rfl) : OpW P ops Q o K a w := opw_val (some d) hd v hw hr h
theorem sv (d : Nat) (v : Value) (h : WpL P ops Q rest (a.put (some d) v) w) (hr : (execOp a.eval o).run P w = .ok (.value v) w := by kernel_rfl) (hd : o.dst = some d := by kernel_rfl) (hw : Region.wanted o (yielded ops a.tmps) = true := by kernel_rfl) : WpL P ops Q (o :: rest) a w := wpList_of (opw_val (some d) hd v hw hr h)
/-- Not wanted. -/
theorem so (d : Option Tmp) (h : WpL P ops Q rest (a.put d undef) w) (hd : o.dst = d := by kernel_rfl) (hw : Region.wanted o (yielded ops a.tmps) = false := by kernel_rfl) : WpL P ops Q (o :: rest) a w := wpList_of (opw_off d hd hw h)
/-- A new block. -/
theorem snk (d : Nat) (vs : Array Value) (t : TypeId) (h : ∀ W, Below w.heap.size w W → W.heap.size = w.heap.size + 1 → Bt W w.heap.size t vs → K (a.put (some d) (.pointer (some ⟨w.heap.size, 0, none⟩))) W)
    (hd : o.dst = some d := by kernel_rfl) (hw : Region.wanted o (yielded ops a.tmps) = true := by kernel_rfl) (hr : (execOp a.eval o).run P w = .ok (.value (.pointer (some ⟨w.heap.size, 0, none⟩))) (w.alloc (.cells vs t)) := by kernel_rfl) : OpW P ops Q o K a w := opw_new (some d) hd vs t hw hr h
theorem sn (d : Nat) (vs : Array Value) (t : TypeId) (h : ∀ W, Below w.heap.size w W → W.heap.size = w.heap.size + 1 → Bt W w.heap.size t vs → WpL P ops Q rest (a.put (some d) (.pointer (some ⟨w.heap.size, 0, none⟩))) W)
    (hd : o.dst = some d := by kernel_rfl) (hw : Region.wanted o (yielded ops a.tmps) = true := by kernel_rfl) (hr : (execOp a.eval o).run P w = .ok (.value (.pointer (some ⟨w.heap.size, 0, none⟩))) (w.alloc (.cells vs t)) := by kernel_rfl) : WpL P ops Q (o :: rest) a w := wpList_of (opw_new (some d) hd vs t hw hr h)
theorem snvk (d : Nat) (v : Value) (vs : Array Value) (t : TypeId) (h : ∀ W, Below w.heap.size w W → W.heap.size = w.heap.size + 1 → Bt W w.heap.size t vs → K (a.put (some d) v) W)
    (hd : o.dst = some d := by kernel_rfl) (hw : Region.wanted o (yielded ops a.tmps) = true := by kernel_rfl) (hr : (execOp a.eval o).run P w = .ok (.value v) (w.alloc (.cells vs t)) := by kernel_rfl) : OpW P ops Q o K a w := opw_newv (some d) hd v vs t hw hr h
theorem snv (d : Nat) (v : Value) (vs : Array Value) (t : TypeId) (h : ∀ W, Below w.heap.size w W → W.heap.size = w.heap.size + 1 → Bt W w.heap.size t vs → WpL P ops Q rest (a.put (some d) v) W)
    (hd : o.dst = some d := by kernel_rfl) (hw : Region.wanted o (yielded ops a.tmps) = true := by kernel_rfl) (hr : (execOp a.eval o).run P w = .ok (.value v) (w.alloc (.cells vs t)) := by kernel_rfl) : WpL P ops Q (o :: rest) a w := wpList_of (opw_newv (some d) hd v vs t hw hr h)
/-- A call. -/
theorem sek (d : Nat) (f : FuncId) (args : Array Value) (h : Calls P f args w fun e w' => ∃ v, e = .returned v ∧ K (a.put (some d) v) w')
    (hd : o.dst = some d := by kernel_rfl) (hw : Region.wanted o (yielded ops a.tmps) = true := by kernel_rfl) (hr : (execOp a.eval o).run P w = .ok (.enter f args) w := by kernel_rfl) : OpW P ops Q o K a w := opw_enter (some d) hd f args hw hr h
theorem se (d : Nat) (f : FuncId) (args : Array Value) (h : ∀ G : Act → World → Prop, (∀ a w, WpL P ops Q rest a w → G a w) → Calls P f args w fun e w' => ∃ v, e = .returned v ∧ G (a.put (some d) v) w')
    (hd : o.dst = some d := by kernel_rfl) (hw : Region.wanted o (yielded ops a.tmps) = true := by kernel_rfl) (hr : (execOp a.eval o).run P w = .ok (.enter f args) w := by kernel_rfl) : WpL P ops Q (o :: rest) a w := wpList_of (opw_enter (some d) hd f args hw hr (h _ fun _ _ h => h))
/-- Stores. -/
theorem ssk (d : Option Tmp) {ty : TypeId} {x y : Operand} {b : Nat} {t : TypeId} {vs : Array Value} (hX : Bt w b t vs) {n : Nat} (hT : SxAgg P ty n) (off : Nat) (cs vs' : Array Value) (h : ∀ W, Only b w W → Bt W b t vs' → K (a.put d undef) W)
    (hd : o.dst = d := by kernel_rfl) (hw : Region.wanted o (yielded ops a.tmps) = true := by kernel_rfl) (ho : o.op = .store ty x y := by rfl) (hx : a.eval x = .pointer (some ⟨b, off, none⟩) := by kernel_rfl) (hy : a.eval y = .agg cs := by kernel_rfl)
    (hn : cs.size = n := by kernel_rfl) (hle' : Nat.ble (off + n) vs.size = true := by kernel_rfl) (h1 : cs.all (·.oneCell') = true := by kernel_rfl) (hv : putL vs off cs.toList = vs' := by kernel_rfl) : OpW P ops Q o K a w :=
  opw_st d hd hX hT off cs vs' hw ho hx hy hn hle' h1 hv h
theorem ss (d : Option Tmp) {ty : TypeId} {x y : Operand} {b : Nat} {t : TypeId} {vs : Array Value} (hX : Bt w b t vs) {n : Nat} (hT : SxAgg P ty n) (off : Nat) (cs vs' : Array Value) (h : ∀ W, Only b w W → Bt W b t vs' → WpL P ops Q rest (a.put d undef) W)
    (hd : o.dst = d := by kernel_rfl) (hw : Region.wanted o (yielded ops a.tmps) = true := by kernel_rfl) (ho : o.op = .store ty x y := by rfl) (hx : a.eval x = .pointer (some ⟨b, off, none⟩) := by kernel_rfl) (hy : a.eval y = .agg cs := by kernel_rfl)
    (hn : cs.size = n := by kernel_rfl) (hle' : Nat.ble (off + n) vs.size = true := by kernel_rfl) (h1 : cs.all (·.oneCell') = true := by kernel_rfl) (hv : putL vs off cs.toList = vs' := by kernel_rfl) : WpL P ops Q (o :: rest) a w :=
  wpList_of (opw_st d hd hX hT off cs vs' hw ho hx hy hn hle' h1 hv h)
theorem ss1k (d : Option Tmp) {ty : TypeId} {x y : Operand} {b : Nat} {t : TypeId} {vs : Array Value} (hX : Bt w b t vs) (hT : SxOne P ty) (off : Nat) (v : Value) (vs' : Array Value) (h : ∀ W, Only b w W → Bt W b t vs' → K (a.put d undef) W)
    (hd : o.dst = d := by kernel_rfl) (hw : Region.wanted o (yielded ops a.tmps) = true := by kernel_rfl) (ho : o.op = .store ty x y := by rfl) (hx : a.eval x = .pointer (some ⟨b, off, none⟩) := by kernel_rfl) (hy : a.eval y = v := by kernel_rfl)
    (hle' : Nat.ble (off + 1) vs.size = true := by kernel_rfl) (h1 : v.cells = #[v] := by kernel_rfl) (h5 : v.oneCell' = true := by kernel_rfl) (hv : vs.setIfInBounds off v = vs' := by kernel_rfl) : OpW P ops Q o K a w :=
  opw_st1 d hd hX hT off v vs' hw ho hx hy hle' h1 h5 hv h
theorem ss1 (d : Option Tmp) {ty : TypeId} {x y : Operand} {b : Nat} {t : TypeId} {vs : Array Value} (hX : Bt w b t vs) (hT : SxOne P ty) (off : Nat) (v : Value) (vs' : Array Value) (h : ∀ W, Only b w W → Bt W b t vs' → WpL P ops Q rest (a.put d undef) W)
    (hd : o.dst = d := by kernel_rfl) (hw : Region.wanted o (yielded ops a.tmps) = true := by kernel_rfl) (ho : o.op = .store ty x y := by rfl) (hx : a.eval x = .pointer (some ⟨b, off, none⟩) := by kernel_rfl) (hy : a.eval y = v := by kernel_rfl)
    (hle' : Nat.ble (off + 1) vs.size = true := by kernel_rfl) (h1 : v.cells = #[v] := by kernel_rfl) (h5 : v.oneCell' = true := by kernel_rfl) (hv : vs.setIfInBounds off v = vs' := by kernel_rfl) : WpL P ops Q (o :: rest) a w :=
  wpList_of (opw_st1 d hd hX hT off v vs' hw ho hx hy hle' h1 h5 hv h)
end

section
variable {P : Program} {ops : Array Oper} {Q : Exit → Act → World → Prop} {S : World → Prop} {fuel : Nat} {listed : Array Bool} {a : Act} {w : World}
/-- Taken first. -/
theorem tk (i : Nat) {oi : Oper} (d : Nat) (v : Value) (hS : S w) (h : WpH P ops Q S fuel (listed.setIfInBounds i true) (a.put (some d) v) w)
    (hy : ∀ w', S w' → (execOp a.eval oi).run P w' = .ok (.value v) w' := by intro _ _; kernel_rfl) (hi : ops[i]? = some oi := by rfl) (hd : oi.dst = some d := by kernel_rfl)
    (hs : Region.noSelect ops = true := by kernel_rfl) (hf : Region.free .any ops listed i = true := by kernel_rfl) (hr : (Region.ready .any ops listed).contains i = true := by kernel_rfl)
    (hQ : ∀ c a w, Q (.panic c) (a.put (some d) v) w → Q (.panic c) a w := by first | exact fun _ _ _ h => h | exact fun _ _ _ h => cut_panic h) (hw : Region.wanted oi (yielded ops a.tmps) = true := by kernel_rfl) : WpH P ops Q S (fuel + 1) listed a w :=
  sx_take i (some d) v _ hi hd rfl hs hf hr hQ (.inl ⟨hw, hy⟩) hS h
theorem tko (i : Nat) {oi : Oper} (d : Nat) (hS : S w) (h : WpH P ops Q S fuel (listed.setIfInBounds i true) (a.put (some d) undef) w) (hi : ops[i]? = some oi := by rfl) (hd : oi.dst = some d := by kernel_rfl)
    (hs : Region.noSelect ops = true := by kernel_rfl) (hf : Region.free .any ops listed i = true := by kernel_rfl) (hr : (Region.ready .any ops listed).contains i = true := by kernel_rfl)
    (hQ : ∀ c a w, Q (.panic c) (a.put (some d) undef) w → Q (.panic c) a w := by first | exact fun _ _ _ h => h | exact fun _ _ _ h => cut_panic h) (hw : Region.wanted oi (yielded ops a.tmps) = false := by kernel_rfl) : WpH P ops Q S (fuel + 1) listed a w :=
  sx_take i (some d) undef _ hi hd rfl hs hf hr hQ (.inr ⟨hw, rfl⟩) hS h
theorem rd1 {i : Nat} {o : Oper} {rs : List Nat} (h : ∀ K' : Act → World → Prop, Shut (∀ a w, S w → WpH P ops Q S fuel (listed.setIfInBounds i true) a w → K' a w) → OpW P ops Q o K' a w)
    (hs : Rdy P ops Q S fuel listed a w rs := by exact rdy_nil) (ho : ops[i]? = some o := by rfl) : Rdy P ops Q S fuel listed a w (i :: rs) := rdy_cons _ ho rfl h hs
theorem rd2 {i : Nat} {o : Oper} {rs : List Nat} (h : ∀ K' : Act → World → Prop, Shut (∀ a w, S w → WpH P ops Q S fuel (listed.setIfInBounds i true) a w → K' a w) → OpW P ops Q o K' a w)
    (hs : Rdy P ops Q S fuel listed a w rs) (ho : ops[i]? = some o := by rfl) : Rdy P ops Q S fuel listed a w (i :: rs) := rdy_cons _ ho rfl h hs
theorem sxr (rs : List Nat) (h : Rdy P ops Q S fuel listed a w rs) (hr : Region.ready .any ops listed = rs := by kernel_rfl) (hne : rs.isEmpty = false := by rfl) : WpH P ops Q S (fuel + 1) listed a w := sx_ready rs hr hne h
end
theorem sxd (P : Program) {ops : Array Oper} {Q : Exit → Act → World → Prop} (S : World → Prop) {id : Nat} {a : Act} {w V : World} (hV : V = w.drew) (hS : S V)
    (h : WpH P ops Q S ops.size (Array.replicate ops.size false) a V) (hm : P.follows .mixedOrders = true := by kernel_rfl) : (Code.region id ops true).wp P Q a w := sx_drawn S hV hm hS h

end Go.Slip

namespace Go.Slip
open Go.RowKit
theorem sx_thenexit {next : Act → World → Prop} {Q : Exit → Act → World → Prop} {id : Nat} {a : Act} {w : World} (h : Q (.exit id) a w) : Exit.then next Q (.exit id) a w := h
theorem sx_loop {P : Program} {Q : Exit → Act → World → Prop} {a : Act} {w : World} {c : Code} (I : Nat → Act → World → Prop) (n0 : Nat) (h0 : I n0 a w)
    (round : ∀ G : Nat → Act → World → Prop, (∀ n a w, c.wp P (Exit.then (fun a' w' => ∃ n', n' < n ∧ I n' a' w') Q) a w → G n a w) → ∀ n a w, I n a w → G n a w) : (Code.loop c).wp P Q a w :=
  wp_loop_ghost I n0 h0 (round _ fun _ _ _ h => h)
theorem sx_loop2 {P : Program} {Q : Exit → Act → World → Prop} {a : Act} {w : World} {c : Code} (K : Nat → (Nat → Value) → Act → World → Prop) (n0 : Nat) (h0 : K n0 (fun i => a.tmps[i]?.getD undef) a w)
    (round : ∀ G : Nat → Act → World → Prop, (∀ n a w, c.wp P (Exit.then (fun a' w' => ∃ n', n' < n ∧ K n' (fun i => a'.tmps[i]?.getD undef) a' w') Q) a w → G n a w) → ∀ n U a w, K n U a w → G n a w) : (Code.loop c).wp P Q a w := by
  refine wp_loop_ghost (fun n a w => ∃ U, K n U a w) n0 ⟨_, h0⟩ fun n a w ⟨U, hk⟩ => ?_
  refine round (fun n a w => c.wp P (Exit.then (fun a' w' => ∃ n', n' < n ∧ ∃ U, K n' U a' w') Q) a w) (fun n a w h => ?_) n U a w hk
  refine wp_mono h fun e a' w' hq => ?_
  cases e with
  | normal =>
    obtain ⟨n', h1, h2⟩ := hq
    exact ⟨n', h1, _, h2⟩
  | exit id => exact hq
  | goto l => exact hq
  | ret => exact hq
  | panic ch => exact hq
  | outgrown => exact hq
theorem sx_cutg {P : Program} {c : Code} {Q : Exit → Act → World → Prop} {a : Act} {w : World} {R : Act → World → Prop} (h : c.wp P (CutQ R) a w) (k : ∀ G : Act → World → Prop, (∀ a w, Q .normal a w → G a w) → ∀ a w, R a w → G a w) : c.wp P Q a w :=
  sx_cut h (k _ fun _ _ h => h)
end Go.Slip

namespace Go.Slip
open Go.RowKit

/-- The first digits of what reads. -/
theorem Rd.pre {w : World} {k : IntKind} {p : Option Addr} {xs ys : List Nat} (h : Rd w k p (xs ++ ys)) : Rd w k p xs := by
  have hl : (xs ++ ys).length = xs.length + ys.length := List.length_append
  refine ⟨fun h0 => h.solid (by omega), fun j hj => ?_⟩
  rw [h.cells j (by omega)]
  unfold dg
  rw [List.getElem?_append_left hj]

theorem elem_of {P : Program} {t e : TypeId} (h : P.underlying t = some (.slice e)) : P.elem t = e := by
  unfold Program.elem
  rw [h]

theorem run_size1 {P : Program} {t e : TypeId} {k : IntKind} {bytes : Nat} (hty : SlTy P t e k bytes) (w : World) : (sizeOf (P.elem t)).run P w = .ok 1 w := by
  obtain ⟨i, hi, -, hs, -⟩ := hty.hi
  rw [elem_of hty.ht]
  simp [sizeOf, typeInfo, hi, hs, Sem.run]

theorem ht_elem {P : Program} {t e : TypeId} {k : IntKind} {bytes : Nat} (hty : SlTy P t e k bytes) : P.underlying t = some (.slice (P.elem t)) := by
  rw [elem_of hty.ht]; exact hty.ht

theorem addr_add0 (p : Option Addr) : p.map (·.add 0) = p := by
  cases p with
  | none => rfl
  | some a => simp [Addr.add]

section
variable {P : Program} {ops : Array Oper} {Q : Exit → Act → World → Prop} {a : Act} {w : World} {rest : List Oper} {o : Oper}

/-- 'x[:m]'. -/
theorem exec_sl {t : TypeId} {x y : Operand} {dst : Option Tmp} {t2 : TypeId} {pos : String} {af : Array Edge} {g : Option (Nat × Bool)} {e : TypeId} {k : IntKind} {bytes : Nat} (hty : SlTy P t e k bytes) {p : Option Addr} {n c m : Nat}
    (hx : a.eval x = .slice p n c) (hy : a.eval y = .int .i64 ((m : Nat) : Int)) (hm : m ≤ c) : (execOp a.eval ⟨dst, .slice t x none (some y) none, t2, pos, af, g⟩).run P w = .ok (.value (.slice p m c)) w := by
  unfold execOp
  simp only [hx, Option.map_none, Option.map_some, hy, Sem.run_bind, run_sliceAt_slice (h := ht_elem hty), run_slice_h (ht := ht_elem hty) (h0 := Int.natCast_nonneg m) (h2 := Int.ofNat_le.2 hm), run_size1 hty, Result.andThen_ok, Sem.run_pure, sliced, Int.toNat_natCast, Nat.zero_mul, Nat.sub_zero, addr_add0, ite_self]

/-- 'x[m]', its place. -/
theorem exec_ix {t : TypeId} {x y : Operand} {dst : Option Tmp} {t2 : TypeId} {pos : String} {af : Array Edge} {g : Option (Nat × Bool)} {e : TypeId} {k : IntKind} {bytes : Nat} (hty : SlTy P t e k bytes) {p : Option Addr} {n c m : Nat}
    (hp : Solid p n) (hx : a.eval x = .slice p n c) (hy : a.eval y = .int .i64 ((m : Nat) : Int)) (hm : m < n) : (execOp a.eval ⟨dst, .indexAddr t x y, t2, pos, af, g⟩).run P w = .ok (.value (.pointer (some (at_ p m)))) w := by
  unfold execOp
  simp only [hx, hy, Sem.run_bind, run_indexAt_solid w t p n c .i64 m (ht_elem hty) hp, if_pos (show (0 : Int) ≤ (m : Int) ∧ (m : Int) < (n : Int) by omega), run_size1 hty, Result.andThen_ok, Sem.run_pure, Int.toNat_natCast, Nat.mul_one]

/-- What lies at such a place. -/
theorem exec_ldr {ty : TypeId} {x : Operand} {dst : Option Tmp} {t2 : TypeId} {pos : String} {af : Array Edge} {g : Option (Nat × Bool)} {k : IntKind} {p : Option Addr} {xs : List Nat} (hr : Rd w k p xs) (hT : SxOne P ty) {m : Nat} {v : Int}
    (hx : a.eval x = .pointer (some (at_ p m))) (hm : m < xs.length) (hv : ((dg xs m : Nat) : Int) = v) : (execOp a.eval ⟨dst, .load ty x, t2, pos, af, g⟩).run P w = .ok (.value (.int k v)) w := by
  refine exec_ld hx ?_
  have hl : (load (at_ p m)).run P w = .ok (.int k v) w := by
    have := hr.cells m hm
    rw [hv] at this
    simp [go_sem, this]
  simp only [Instr.loadAt, Instr.sureAddr, Sem.run_bind, Sem.run_pure, Result.andThen_ok, loadVar, run_isAgg_one hT]
  simpa using hl

/-- 'append(x, y...)' onto a row of the call's own. -/
theorem sap (d : Nat) {s x : Operand} {t : TypeId} {e : TypeId} {k : IntKind} {bytes : Nat} (hty : SlTy P t e k bytes) (base : Nat) (p : Option Addr) (n c : Nat) (xs : List Nat) (hown : Own w base k e p c xs) (hn : n = xs.length)
    (q : Option Addr) (m c2 : Nat) (ys : List Nat) (hrd : Rd w k q ys) (hm : m = ys.length) (hb : (xs.length + ys.length) * bytes ≤ 140737488355328) (h63 : xs.length + ys.length ≤ maxLen) (hbase : base ≤ w.heap.size)
    (h : ∀ p' c' w', Own w' base k e p' c' (xs ++ ys) → Below base w w' → WpL P ops Q rest (a.put (some d) (.slice p' (xs ++ ys).length c')) w')
    (ho : o.op = .call { callee := .builtin .append, args := #[s, x], argTypes := #[t, t] } := by rfl) (hd : o.dst = some d := by kernel_rfl) (hs : a.eval s = .slice p n c := by kernel_rfl) (hx : a.eval x = .slice q m c2 := by kernel_rfl)
    (hw : Region.wanted o (yielded ops a.tmps) = true := by kernel_rfl) : WpL P ops Q (o :: rest) a w := by
  refine wpList_of ⟨?_⟩
  rw [if_pos hw]
  refine wp_appendB s x t ho hty base p n c xs hown hn q m c2 ys hrd hm hs hx hb h63 hbase fun p' c' w' h1 _ h2 => ?_
  rw [hd]
  exact h p' c' w' h1 h2
end

/-- A cut behind which some slots hold whatever they hold. -/
theorem sx_cutu {P : Program} {c : Code} {Q : Exit → Act → World → Prop} {a : Act} {w : World} {R : (Nat → Value) → Act → World → Prop} (h : c.wp P (CutQ fun a' w' => R (fun i => a'.tmps[i]?.getD undef) a' w') a w)
    (k : ∀ G : Act → World → Prop, (∀ a w, Q .normal a w → G a w) → ∀ U a w, R U a w → G a w) : c.wp P Q a w :=
  sx_cut h fun a' w' hr => k (fun a w => Q .normal a w) (fun _ _ h => h) _ a' w' hr

end Go.Slip
