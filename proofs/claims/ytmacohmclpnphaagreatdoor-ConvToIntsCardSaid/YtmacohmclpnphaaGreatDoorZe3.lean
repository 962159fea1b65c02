/- Steps of a walk, one operation at a time, each value and each new world named by hand (for texts that sx.py prints). No program is in sight here. -/
import Derived.Deep.RegionHeld3
import Derived.KernelRfl
import Derived.IntWalk
import Derived.LoopN
import Derived.Deep.LoopGhost
import Derived.Laws.Sem
import Derived.Lib.ConvBytes
import Derived.Test.YtmacohmclpnphaaGreatDoorZe1
import Derived.Test.YtmacohmclpnphaaGreatDoorZe2
set_option maxHeartbeats 8000000
set_option maxRecDepth 100000
namespace Go.Slip
open Go.RowKit
def Bt (w : World) (b : Nat) (t : TypeId) (vs : Array Value) : Prop := w.heap[b]? = some (.cells vs t)
theorem Bt.bx {w : World} {b : Nat} {t : TypeId} {vs : Array Value} (h : Bt w b t vs) : Bx w b vs := ⟨t, h⟩
theorem Bt.lt {w : World} {b : Nat} {t : TypeId} {vs : Array Value} (h : Bt w b t vs) : b < w.heap.size := h.bx.lt
theorem Bt.same {w w' : World} {b : Nat} {t : TypeId} {vs : Array Value} (h : Bt w b t vs) (hb : w'.heap[b]? = w.heap[b]?) : Bt w' b t vs := hb.trans h
theorem Bt.past {w w' : World} {b : Nat} {t : TypeId} {vs : Array Value} (h : Bt w b t vs) (hb : Below w.heap.size w w') : Bt w' b t vs := h.same (hb.block _ h.lt)
theorem Bt.only {w w' : World} {b k : Nat} {t : TypeId} {vs : Array Value} (h : Bt w b t vs) (hb : Only k w w') (hne : b ≠ k) : Bt w' b t vs := h.same (hb.block _ hne)
theorem Bt.keep {w w' : World} {b k : Nat} {t : TypeId} {vs : Array Value} (h : Bt w b t vs) (hb : Keep k w w') (hne : b ≠ k) : Bt w' b t vs := h.same (hb.block _ h.lt hne)
theorem y0l (w : World) (vs : Array Value) (t : TypeId) : Bt (w.alloc (.cells vs t)) w.heap.size t vs := by show (w.heap.push _)[_]? = _; simp
theorem Bt.set {w : World} {b : Nat} {t : TypeId} {vs : Array Value} (h : Bt w b t vs) (i : Nat) (v : Value) : Bt (w.setCell ⟨b, i, none⟩ v) b t (vs.setIfInBounds i v) := by
 show (w.heap.modify b _)[b]? = _
 rw [Array.getElem?_modify, if_pos rfl, h]
 rfl
theorem Bt.e1 {w : World} {b : Nat} {t : TypeId} {v0 : Value} (h : Bt w b t #[v0]) : w.cell? ⟨b, 0, none⟩ = some v0 := h.bx.c 0 rfl
theorem Own.far {w : World} {base : Nat} {k : IntKind} {e : TypeId} {p : Option Addr} {c : Nat} {xs : List Nat} (h : Own w base k e p c xs) {b : Nat} {t : TypeId} {vs : Array Value} (hX : Bt w b t vs) (hne : Nat.beq t e = false) (hp : p.isSome = true) : blk p ≠ b := by
 rcases h.2 with ⟨h1, h2⟩ | ⟨g, cap, cur, hv, hb, hg, _⟩
 · simp only [Value.slice.injEq] at h1
   rw [h1.1] at hp; cases hp
 · simp only [Value.slice.injEq] at hv
   intro hE
   rw [hv.1] at hE
   have hE2 : g = b := hE
   subst hE2
   have hE3 := hg.symm.trans hX
   simp only [Option.some.injEq, Obj.cells.injEq] at hE3
   rw [hE3.2.1] at hne
   simp at hne
theorem Own.put {w w' : World} {base : Nat} {k : IntKind} {e : TypeId} {p : Option Addr} {c : Nat} {xs : List Nat} (h : Own w base k e p c xs) {b : Nat} {t : TypeId} {vs : Array Value} (hX : Bt w b t vs) (hO : Only b w w') (hne : Nat.beq t e = false) : Own w' base k e p c xs :=
 h.only hO (h.far hX hne)
def y0m (k : IntKind) (vs : Array Value) : Bool := vs.all fun v => match v with | .int k' _ => !(decide (k' = k)) | _ => true
theorem Rd.far {w : World} {k : IntKind} {p : Option Addr} {xs : List Nat} (h : Rd w k p xs) {b : Nat} {t : TypeId} {vs : Array Value} (hX : Bt w b t vs) (hne : y0m k vs = true) (hp : 0 < xs.length) : blk p ≠ b := by
 intro hE
 have h1 := h.cells 0 hp
 have h2 : w.cell? (at_ p 0) = vs[(p.getD ⟨0, 0, none⟩).off + 0]? := by
  have := hX.bx.cell ((p.getD ⟨0, 0, none⟩).off + 0)
  rw [← this]
  unfold at_
  rw [show (p.getD ⟨0, 0, none⟩).block = b from hE]
 rw [h2] at h1
 unfold y0m at hne
 rw [Array.all_eq_true_iff_forall_mem] at hne
 have := hne _ (Array.mem_of_getElem? h1)
 simp at this
theorem Rd.put {w w' : World} {k : IntKind} {p : Option Addr} {xs : List Nat} (h : Rd w k p xs) {b : Nat} {t : TypeId} {vs : Array Value} (hX : Bt w b t vs) (hO : Only b w w') (hne : y0m k vs = true) : Rd w' k p xs := h.only hO (h.far hX hne)
structure OpW (P : Program) (ops : Array Oper) (Q : Exit → Act → World → Prop) (o : Oper) (K : Act → World → Prop) (a : Act) (w : World) : Prop where
 out : if Region.wanted o (yielded ops a.tmps) = true then o.wp P a w K Q else K (a.put o.dst undef) w
structure WpL (P : Program) (ops : Array Oper) (Q : Exit → Act → World → Prop) (l : List Oper) (a : Act) (w : World) : Prop where
 out : wpList P ops Q l a w
structure WpH (P : Program) (ops : Array Oper) (Q : Exit → Act → World → Prop) (S : World → Prop) (fuel : Nat) (listed : Array Bool) (a : Act) (w : World) : Prop where
 out : wpAnyH P .any ops Q S fuel listed a w
section
variable {P : Program} {ops : Array Oper} {Q : Exit → Act → World → Prop} {a : Act} {w : World} {rest : List Oper} {o : Oper} {K : Act → World → Prop}
theorem y0n (h : ∀ K : Act → World → Prop, Shut (∀ a w, WpL P ops Q rest a w → K a w) → OpW P ops Q o K a w) : WpL P ops Q (o :: rest) a w :=
 ⟨wpList_step fun K hK => (h K (fun a w k => hK a w k.out)).out⟩
theorem b0e {id : Nat} {l : List Oper} (h : WpL P l.toArray Q l a w) : (Code.region id l.toArray false).wp P Q a w := wp_region_lit h.out
theorem j1f (h : Q .normal a w) : WpL P ops Q [] a w := ⟨h⟩
theorem OpW.mono {K' : Act → World → Prop} (h : ∀ a w, K a w → K' a w) (hh : OpW P ops Q o K a w) : OpW P ops Q o K' a w := by
 refine ⟨?_⟩
 replace hh := hh.out
 split
 · rename_i hw; rw [if_pos hw] at hh; exact Oper.wp_mono h hh
 · rename_i hw; rw [if_neg hw] at hh; exact h _ _ hh
theorem b0z (h : OpW P ops Q o (WpL P ops Q rest) a w) : WpL P ops Q (o :: rest) a w :=
 y0n fun _ hK => h.mono hK.out
theorem g1g (d : Option Tmp) (hd : o.dst = d) (hw : Region.wanted o (yielded ops a.tmps) = false) (h : K (a.put d undef) w) : OpW P ops Q o K a w := by
 subst hd
 refine ⟨?_⟩
 rw [if_neg (by simp [hw])]
 exact h
theorem l0m (d : Option Tmp) (hd : o.dst = d) (v : Value) (hw : Region.wanted o (yielded ops a.tmps) = true) (hr : (execOp a.eval o).run P w = .ok (.value v) w) (h : K (a.put d v) w) : OpW P ops Q o K a w := by
 subst hd
 refine ⟨?_⟩
 rw [if_pos hw]
 unfold Oper.wp
 rw [hr]
 exact h
theorem g1h (d : Option Tmp) (hd : o.dst = d) (vs : Array Value) (t : TypeId) (hw : Region.wanted o (yielded ops a.tmps) = true) (hr : (execOp a.eval o).run P w = .ok (.value (.pointer (some ⟨w.heap.size, 0, none⟩))) (w.alloc (.cells vs t)))
 (h : ∀ W, Below w.heap.size w W → W.heap.size = w.heap.size + 1 → Bt W w.heap.size t vs → K (a.put d (.pointer (some ⟨w.heap.size, 0, none⟩))) W) : OpW P ops Q o K a w := by
 subst hd
 refine ⟨?_⟩
 rw [if_pos hw]
 unfold Oper.wp
 rw [hr]
 exact h _ (b0n _ _) (by simp) (y0l _ _ _)
theorem c1l (d : Option Tmp) (hd : o.dst = d) (v : Value) (vs : Array Value) (t : TypeId) (hw : Region.wanted o (yielded ops a.tmps) = true) (hr : (execOp a.eval o).run P w = .ok (.value v) (w.alloc (.cells vs t)))
 (h : ∀ W, Below w.heap.size w W → W.heap.size = w.heap.size + 1 → Bt W w.heap.size t vs → K (a.put d v) W) : OpW P ops Q o K a w := by
 subst hd
 refine ⟨?_⟩
 rw [if_pos hw]
 unfold Oper.wp
 rw [hr]
 exact h _ (b0n _ _) (by simp) (y0l _ _ _)
theorem g0x (d : Option Tmp) (hd : o.dst = d) (f : FuncId) (args : Array Value) (hw : Region.wanted o (yielded ops a.tmps) = true) (hr : (execOp a.eval o).run P w = .ok (.enter f args) w)
 (h : Calls P f args w fun e w' => ∃ v, e = .returned v ∧ K (a.put d v) w') : OpW P ops Q o K a w := by
 subst hd
 refine ⟨?_⟩
 rw [if_pos hw]
 unfold Oper.wp
 rw [hr]
 refine Calls.mono h ?_
 rintro e w' ⟨v, rfl, hk⟩
 exact hk
end
/-! ### Loads and stores -/
structure e0h (P : Program) (t : TypeId) (n : Nat) : Prop where
 row : ∃ d, P.underlying t = some d ∧ d.isRow = true
 size : (P.info? t).map (·.size) = some n
theorem c0j {P : Program} {t : TypeId} {n : Nat} (h : (match P.underlying t with | some d => d.isRow | none => false) = true) (k : (P.info? t).map (·.size) = some n) : e0h P t n := by
 refine ⟨?_, k⟩
 revert h
 cases P.underlying t with
 | none => intro h; cases h
 | some d => intro h; exact ⟨d, rfl, h⟩
structure d0h (P : Program) (t : TypeId) : Prop where
 row : ∃ d, P.underlying t = some d ∧ d.isRow = false
 size : (P.info? t).map (·.size) = some 1
theorem c0k {P : Program} {t : TypeId} (h : (match P.underlying t with | some d => d.isRow | none => true) = false) (k : (P.info? t).map (·.size) = some 1) : d0h P t := by
 refine ⟨?_, k⟩
 revert h
 cases P.underlying t with
 | none => intro h; cases h
 | some d => intro h; exact ⟨d, rfl, h⟩
def Part (vs : Array Value) (off : Nat) (cs : List Value) : Prop := ∀ j v, cs[j]? = some v → vs[off + j]? = some v
theorem g1i {vs : Array Value} {off : Nat} {cs : List Value} (h : (vs.toList.drop off).take cs.length = cs) : Part vs off cs := by
 intro j v hv
 have hj := (List.getElem?_eq_some_iff.1 hv).1
 rw [← h, List.getElem?_take, if_pos hj, List.getElem?_drop] at hv
 simpa using hv
theorem Bx.rangeAt {w : World} {b : Nat} {vs : Array Value} (h : Bx w b vs) {off : Nat} {cs : List Value} (hc : Part vs off cs) : w.rangeAt b off cs := fun j v hv => by
 rw [h.cell]
 exact hc j v hv
theorem e1y {P : Program} {w : World} {b : Nat} {t : TypeId} {vs : Array Value} (h : Bt w b t vs) {ty n : Nat} (hT : e0h P ty n) (off : Nat) (cs : List Value) (hc : (vs.toList.drop off).take cs.length = cs) (hn : cs.length = n) :
 (Instr.loadAt ty (.pointer (some ⟨b, off, none⟩))).run P w = .ok (.agg cs.toArray) w := by
 obtain ⟨⟨d, hu, hd⟩, hi⟩ := hT
 exact run_loadAt_mid w b off ty cs d (h.bx.rangeAt (g1i hc)) hu hd (by rw [hi, hn])
theorem c0q {P : Program} {w : World} {ty : Nat} (hT : d0h P ty) : (isAgg ty).run P w = .ok false w := by
 obtain ⟨⟨d, hu, hd⟩, -⟩ := hT
 unfold isAgg
 rw [Sem.run_bind, run_underlying hu w]
 cases d <;> simp_all [TypeDesc.isRow]
theorem s0v {P : Program} {w : World} {b : Nat} {t : TypeId} {vs : Array Value} (h : Bt w b t vs) {ty : Nat} (hT : d0h P ty) (off : Nat) (v : Value) (hc : vs[off]? = some v) :
 (Instr.loadAt ty (.pointer (some ⟨b, off, none⟩))).run P w = .ok v w := by
 have hl : (load ⟨b, off, none⟩).run P w = .ok v w := by
  have := h.bx.c off hc
  simp [go_sem, this]
 simp only [Instr.loadAt, Instr.sureAddr, Sem.run_bind, Sem.run_pure, Result.andThen_ok, loadVar, c0q hT]
 simpa using hl
section
variable {P : Program} {ops : Array Oper} {Q : Exit → Act → World → Prop} {a : Act} {w : World} {K : Act → World → Prop}
theorem s0w {ty : TypeId} {x : Operand} {dst : Option Tmp} {t2 : TypeId} {pos : String} {af : Array Edge} {g : Option (Nat × Bool)} {p v : Value} (hx : a.eval x = p) (h : (Instr.loadAt ty p).run P w = .ok v w) :
 (execOp a.eval ⟨dst, .load ty x, t2, pos, af, g⟩).run P w = .ok (.value v) w := by
 unfold execOp
 simp only [hx, Sem.run_bind, h, Result.andThen_ok, Sem.run_pure]
end
def putL (vs : Array Value) (off : Nat) : List Value → Array Value
 | [] => vs
 | v :: r => putL (vs.setIfInBounds off v) (off + 1) r
theorem Bt.setCells {b : Nat} {t : TypeId} : ∀ (cs : List Value) (off : Nat) (w : World) (vs : Array Value), Bt w b t vs → Bt (w.setCells b off cs) b t (putL vs off cs) ∧ Only b w (w.setCells b off cs)
 | [], _, w, _, h => ⟨h, Only.refl _ _⟩
 | v :: r, off, w, vs, h => by
  have := Bt.setCells r (off + 1) (w.setCell ⟨b, off, none⟩ v) (vs.setIfInBounds off v) (h.set off v)
  exact ⟨this.1, (e0m w b off v).trans this.2⟩
theorem Bx.there {w : World} {b : Nat} {vs : Array Value} (h : Bx w b vs) {off n : Nat} (hn : off + n ≤ vs.size) : w.there b off n := fun j hj => by
 refine ⟨?_, h.f _⟩
 rw [h.cell, Array.getElem?_eq_getElem (by omega)]
 rfl
section
variable {P : Program} {ops : Array Oper} {Q : Exit → Act → World → Prop} {a : Act} {w : World} {K : Act → World → Prop} {o : Oper}
theorem y0o (d : Option Tmp) (hd : o.dst = d) {ty : TypeId} {x y : Operand} {b : Nat} {t : TypeId} {vs : Array Value} (hX : Bt w b t vs) {n : Nat} (hT : e0h P ty n) (off : Nat) (cs vs' : Array Value)
 (hw : Region.wanted o (yielded ops a.tmps) = true) (ho : o.op = .store ty x y) (hx : a.eval x = .pointer (some ⟨b, off, none⟩)) (hy : a.eval y = .agg cs)
 (hn : cs.size = n) (hle' : Nat.ble (off + n) vs.size = true) (h1 : cs.all (·.oneCell') = true) (hv : putL vs off cs.toList = vs')
 (h : ∀ W, Only b w W → Bt W b t vs' → K (a.put d undef) W) : OpW P ops Q o K a w := by
 subst hd
 subst hn hv
 have hle := Nat.le_of_ble_eq_true hle'
 refine ⟨?_⟩
 rw [if_pos hw]
 have hB := Bt.setCells cs.toList off w vs hX
 exact wp_store_mid ty x y ho b off cs hx hy (hX.bx.there hle) hT.size h1 (h _ hB.2 hB.1)
theorem g1j (d : Option Tmp) (hd : o.dst = d) {ty : TypeId} {x y : Operand} {b : Nat} {t : TypeId} {vs : Array Value} (hX : Bt w b t vs) (hT : d0h P ty) (off : Nat) (v : Value) (vs' : Array Value)
 (hw : Region.wanted o (yielded ops a.tmps) = true) (ho : o.op = .store ty x y) (hx : a.eval x = .pointer (some ⟨b, off, none⟩)) (hy : a.eval y = v)
 (hle' : Nat.ble (off + 1) vs.size = true) (h1 : v.cells = #[v]) (h5 : v.oneCell' = true) (hv : vs.setIfInBounds off v = vs')
 (h : ∀ W, Only b w W → Bt W b t vs' → K (a.put d undef) W) : OpW P ops Q o K a w := by
 subst hd
 subst hv
 have hle : off < vs.size := Nat.le_of_ble_eq_true hle'
 refine ⟨?_⟩
 rw [if_pos hw]
 have h2 := hX.bx.c off (v := vs[off]) (by rw [Array.getElem?_eq_getElem hle])
 have h3 := hX.bx.f off
 have h4 : (storeCells ⟨b, off, none⟩ [v] 0).run P w = .ok () (w.setCell ⟨b, off, none⟩ v) := by
  have := run_storeCells_cells (P := P) b off [v] 0 w (fun j hj => by simp at hj; subst hj; simp [h2]) (fun j hj => by simp at hj; subst hj; simpa using h3) (fun u hu => by simp at hu; subst hu; exact h5)
  simpa [World.setCells] using this
 have hs : (storeVar ty ⟨b, off, none⟩ v).run P w = .ok () (w.setCell ⟨b, off, none⟩ v) := by
  have hz := hT.size
  cases hq : P.info? ty with
  | none => simp [hq] at hz
  | some i =>
   have hi : i.size = 1 := by simpa [hq] using hz
   unfold storeVar
   rw [h1]
   simpa [sizeOf, typeInfo, hq, hi] using h4
 unfold Oper.wp execOp
 simp only [ho, hx, hy, Instr.storeAt, Instr.sureAddr, Sem.run_bind, Sem.run_pure, Result.andThen_ok, hs]
 exact h _ (e0m _ _ _ _) (hX.set off v)
end
/-! ### Reads of the references -/
structure Rf (w : World) (base : Nat) (p : Option Addr) (c : Nat) (xs : List Nat) : Prop where
 rd : Rd w .i64 p xs
 cap : xs.length ≤ c
 at_ : 0 < xs.length → base ≤ blk p
theorem Rf.past {w w' : World} {base : Nat} {p : Option Addr} {c : Nat} {xs : List Nat} (h : Rf w base p c xs) (hb : Below w.heap.size w w') : Rf w' base p c xs := ⟨h.rd.past hb, h.cap, h.at_⟩
theorem Rf.only {w w' : World} {base k : Nat} {p : Option Addr} {c : Nat} {xs : List Nat} (h : Rf w base p c xs) (hb : Only k w w') (hne : 0 < xs.length → blk p ≠ k) : Rf w' base p c xs := ⟨h.rd.only hb hne, h.cap, h.at_⟩
theorem Rf.keep {w w' : World} {base k : Nat} {p : Option Addr} {c : Nat} {xs : List Nat} (h : Rf w base p c xs) (hb : Keep k w w') (hne : 0 < xs.length → blk p ≠ k) : Rf w' base p c xs := ⟨h.rd.keep hb hne, h.cap, h.at_⟩
theorem Rf.mono {w : World} {base b' : Nat} {p : Option Addr} {c : Nat} {xs : List Nat} (h : Rf w base p c xs) (hb : b' ≤ base) : Rf w b' p c xs := ⟨h.rd, h.cap, fun h0 => Nat.le_trans hb (h.at_ h0)⟩
theorem Rf.lt {w : World} {base : Nat} {p : Option Addr} {c : Nat} {xs : List Nat} (h : Rf w base p c xs) (h0 : 0 < xs.length) : base ≤ blk p ∧ blk p < w.heap.size := ⟨h.at_ h0, h.rd.lt h0⟩
theorem l1g {w : World} {base : Nat} {p : Option Addr} {c : Nat} {xs : List Nat} (hr : Rd w .i64 p xs) (hc : xs.length ≤ c) (hf : 0 < xs.length → False ∨ base ≤ blk p) : Rf w base p c xs := ⟨hr, hc, fun h => (hf h).resolve_left id⟩
theorem j1g {w : World} {base : Nat} {p : Option Addr} {c : Nat} {xs : List Nat} (hr : Rd w .i64 p xs) (hc : xs.length ≤ c) (hf : 0 < xs.length → base ≤ blk p) : Rf w base p c xs := ⟨hr, hc, hf⟩
theorem y0p (w : World) (base : Nat) (p : Option Addr) : Rf w base p 0 [] := ⟨Rd.nil _ _ _, Nat.le_refl _, fun h => by simp at h⟩
theorem e1z {w : World} {b : Nat} {t : TypeId} {k : Nat} (h : Bt w b t #[.int .i64 (k : Int)]) : Rf w b (some ⟨b, 0, none⟩) 1 [k] := by
 refine ⟨⟨fun _ => ⟨rfl, rfl⟩, fun j hj => ?_⟩, Nat.le_refl _, fun _ => Nat.le_refl _⟩
 obtain rfl : j = 0 := by simp at hj; omega
 exact h.e1
/-! ### Quotients, shifts -/
section
variable {P : Program} {a : Act} {w : World} {dst : Option Tmp} {t2 xT yT : TypeId} {pos : String} {af : Array Edge} {g : Option (Nat × Bool)} {x y : Operand} {k : IntKind} {X Y : Int}
theorem u0q (m : Int) (hx : a.eval x = .int k X) (hy : a.eval y = .int k Y) (h0 : Y ≠ 0) (hm : k.wrap (X.tdiv Y) = m) : (execOp a.eval ⟨dst, .binOp .quo xT x y yT, t2, pos, af, g⟩).run P w = .ok (.value (.int k m)) w := by
 unfold execOp
 simp only [hx, hy]
 simp [binOp, eqGuard, Op.intDiv, h0, hm]
theorem c1m (m : Int) (hx : a.eval x = .int k X) (hy : a.eval y = .int k Y) (h0 : Y ≠ 0) (hm : X.tmod Y = m) : (execOp a.eval ⟨dst, .binOp .rem xT x y yT, t2, pos, af, g⟩).run P w = .ok (.value (.int k m)) w := by
 unfold execOp
 simp only [hx, hy]
 simp [binOp, eqGuard, Op.intDiv, h0, hm]
theorem k0y {k2 : IntKind} (m : Int) (hx : a.eval x = .int k X) (hy : a.eval y = .int k2 Y) (h0 : 0 ≤ Y) (hm : k.wrap (X * 2 ^ (min Y.toNat k.bits)) = m) : (execOp a.eval ⟨dst, .binOp .shl xT x y yT, t2, pos, af, g⟩).run P w = .ok (.value (.int k m)) w := by
 unfold execOp
 simp only [hx, hy]
 simp [binOp, eqGuard, Op.shift, show ¬ Y < 0 by omega, hm]
theorem u0r {k2 : IntKind} (m : Int) (hx : a.eval x = .int k X) (hy : a.eval y = .int k2 Y) (h0 : 0 ≤ Y) (hm : X.fdiv (2 ^ (min Y.toNat k.bits)) = m) : (execOp a.eval ⟨dst, .binOp .shr xT x y yT, t2, pos, af, g⟩).run P w = .ok (.value (.int k m)) w := by
 unfold execOp
 simp only [hx, hy]
 simp [binOp, eqGuard, Op.shift, show ¬ Y < 0 by omega, hm]
end
/-! ### The order -/
theorem c1n {P : Program} {ops : Array Oper} {Q : Exit → Act → World → Prop} (S : World → Prop) {id : Nat} {a : Act} {w V : World} (hV : V = w.drew) (hm : P.follows .mixedOrders = true) (hS : S V)
 (h : WpH P ops Q S ops.size (Array.replicate ops.size false) a V) : (Code.region id ops true).wp P Q a w := by
 subst hV
 exact wp_region_held_drew hm hS (fun _ => h.out)
theorem l0n {P : Program} {ops : Array Oper} {Q : Exit → Act → World → Prop} {S : World → Prop} {fuel : Nat} {listed : Array Bool} {a : Act} {w : World} (hr : Region.ready .any ops listed = []) (h : Q .normal a w) : WpH P ops Q S fuel listed a w := ⟨wpAnyH_done hr h _⟩
structure Rdy (P : Program) (ops : Array Oper) (Q : Exit → Act → World → Prop) (S : World → Prop) (fuel : Nat) (listed : Array Bool) (a : Act) (w : World) (rs : List Nat) : Prop where
 out : AllReadyH P .any ops Q S fuel listed a w rs
theorem u0s {P : Program} {ops : Array Oper} {Q : Exit → Act → World → Prop} {S : World → Prop} (rs : List Nat) {fuel : Nat} {listed : Array Bool} {a : Act} {w : World} (hr : Region.ready .any ops listed = rs) (hne : rs.isEmpty = false)
 (h : Rdy P ops Q S fuel listed a w rs) : WpH P ops Q S (fuel + 1) listed a w := ⟨wpAnyH_ready hr (by intro hn; rw [hn] at hne; cases hne) h.out⟩
theorem y0q {P : Program} {ops : Array Oper} {Q : Exit → Act → World → Prop} {S : World → Prop} {fuel : Nat} {listed : Array Bool} {a : Act} {w : World} : Rdy P ops Q S fuel listed a w [] := ⟨AllReadyH.nil⟩
theorem u0t {P : Program} {ops : Array Oper} {Q : Exit → Act → World → Prop} {S : World → Prop} {fuel : Nat} {listed : Array Bool} {a : Act} {w : World} {i : Nat} {o : Oper} {rs : List Nat} (listed' : Array Bool) (ho : ops[i]? = some o) (hl : listed.setIfInBounds i true = listed')
 (h : ∀ K' : Act → World → Prop, Shut (∀ a w, S w → WpH P ops Q S fuel listed' a w → K' a w) → OpW P ops Q o K' a w)
 (hs : Rdy P ops Q S fuel listed a w rs) : Rdy P ops Q S fuel listed a w (i :: rs) := by
 subst hl
 exact ⟨AllReadyH.cons ho (fun K' hK => (h K' (fun a w hS k => hK.out a w hS (fun _ => k.out))).out) hs.out⟩
theorem j0v {P : Program} {ops : Array Oper} {Q : Exit → Act → World → Prop} {S : World → Prop} {fuel : Nat} {listed : Array Bool} {a : Act} {w : World} (i : Nat) {oi : Oper} (d : Option Tmp) (v : Value) (listed' : Array Bool) (hi : ops[i]? = some oi) (hd : oi.dst = d) (hl : listed.setIfInBounds i true = listed')
 (hs : Region.noSelect ops = true) (hf : Region.free .any ops listed i = true) (hr : (Region.ready .any ops listed).contains i = true)
 (hQ : ∀ c a w, Q (.panic c) (a.put d v) w → Q (.panic c) a w) (hy : YieldsIf P ops S oi v a) (hS : S w)
 (h : WpH P ops Q S fuel listed' (a.put d v) w) : WpH P ops Q S (fuel + 1) listed a w := by
 subst hd hl
 exact ⟨wpAnyH_take hi hs hf hr hQ hy hS h.out⟩
structure CutQ (R : Act → World → Prop) (e : Exit) (a : Act) (w : World) : Prop where
 nm : e = .normal
 out : R a w
theorem l0o {R : Act → World → Prop} {c : List PanicEntry} {a a' : Act} {w : World} (h : CutQ R (.panic c) a w) : CutQ R (.panic c) a' w := by cases h.nm
theorem Keep.refl (b : Nat) (w : World) : Keep b w w := ⟨rfl, rfl, rfl, Nat.le_refl _, fun _ _ _ => rfl⟩
theorem Keep.step {b : Nat} {w w1 w2 : World} (h : Keep b w w1) (k : Below w1.heap.size w1 w2) : Keep b w w2 := h.trans (Below.keep k b)
theorem Keep.put {b x : Nat} {w w1 w2 : World} (h : Keep b w w1) (k : Only x w1 w2) (hx : w.heap.size ≤ x ∨ x = b) : Keep b w w2 :=
 ⟨k.os.trans h.os, k.tape.trans h.tape, k.output.trans h.output, by rw [k.size]; exact h.size, fun i hi hn => (k.block i (by omega)).trans (h.block i hi hn)⟩
theorem a0g {w w1 w2 : World} {B : Nat} (h : Below B w w1) (k : Below w1.heap.size w1 w2) (hB : B ≤ w1.heap.size := by omega) : Below B w w2 := h.trans (k.mono hB)
theorem a0n {next : Act → World → Prop} {Q : Exit → Act → World → Prop} {a : Act} {w : World} (h : next a w) : Exit.then next Q .normal a w := h
theorem b0c {P : Program} {c : Code} {Q : Exit → Act → World → Prop} {a a' : Act} {w : World} (h : a = a') (k : c.wp P Q a' w) : c.wp P Q a w := by rw [h]; exact k
theorem c0g {id : Nat} {Q : Exit → Act → World → Prop} {a : Act} {w : World} (h : Q .normal a w) : Exit.inBlock id Q .normal a w := h
theorem j0w {id : Nat} {Q : Exit → Act → World → Prop} {a : Act} {w : World} (h : Q .normal a w) : Exit.inBlock id Q (.exit id) a w := by unfold Exit.inBlock; simpa using h
theorem a0x {next : Act → World → Prop} {Q : Exit → Act → World → Prop} {a : Act} {w : World} (h : Q .ret a w) : Exit.then next Q .ret a w := h
theorem a0o {id : Nat} {Q : Exit → Act → World → Prop} {a : Act} {w : World} (h : Q .ret a w) : Exit.inBlock id Q .ret a w := h
section
variable {P : Program} {ops : Array Oper} {Q : Exit → Act → World → Prop} {a : Act} {w : World} {rest : List Oper} {o : Oper} {K : Act → World → Prop}
theorem sv (d : Nat) (v : Value) (h : WpL P ops Q rest (a.put (some d) v) w) (hr : (execOp a.eval o).run P w = .ok (.value v) w := by kernel_rfl) (hd : o.dst = some d := by kernel_rfl) (hw : Region.wanted o (yielded ops a.tmps) = true := by kernel_rfl) : WpL P ops Q (o :: rest) a w := b0z (l0m (some d) hd v hw hr h)
theorem sn (d : Nat) (vs : Array Value) (t : TypeId) (h : ∀ W, Below w.heap.size w W → W.heap.size = w.heap.size + 1 → Bt W w.heap.size t vs → WpL P ops Q rest (a.put (some d) (.pointer (some ⟨w.heap.size, 0, none⟩))) W)
 (hd : o.dst = some d := by kernel_rfl) (hw : Region.wanted o (yielded ops a.tmps) = true := by kernel_rfl) (hr : (execOp a.eval o).run P w = .ok (.value (.pointer (some ⟨w.heap.size, 0, none⟩))) (w.alloc (.cells vs t)) := by kernel_rfl) : WpL P ops Q (o :: rest) a w := b0z (g1h (some d) hd vs t hw hr h)
theorem snv (d : Nat) (v : Value) (vs : Array Value) (t : TypeId) (h : ∀ W, Below w.heap.size w W → W.heap.size = w.heap.size + 1 → Bt W w.heap.size t vs → WpL P ops Q rest (a.put (some d) v) W)
 (hd : o.dst = some d := by kernel_rfl) (hw : Region.wanted o (yielded ops a.tmps) = true := by kernel_rfl) (hr : (execOp a.eval o).run P w = .ok (.value v) (w.alloc (.cells vs t)) := by kernel_rfl) : WpL P ops Q (o :: rest) a w := b0z (c1l (some d) hd v vs t hw hr h)
theorem sek (d : Nat) (f : FuncId) (args : Array Value) (h : Calls P f args w fun e w' => ∃ v, e = .returned v ∧ K (a.put (some d) v) w')
 (hd : o.dst = some d := by kernel_rfl) (hw : Region.wanted o (yielded ops a.tmps) = true := by kernel_rfl) (hr : (execOp a.eval o).run P w = .ok (.enter f args) w := by kernel_rfl) : OpW P ops Q o K a w := g0x (some d) hd f args hw hr h
theorem se (d : Nat) (f : FuncId) (args : Array Value) (h : ∀ G : Act → World → Prop, (∀ a w, WpL P ops Q rest a w → G a w) → Calls P f args w fun e w' => ∃ v, e = .returned v ∧ G (a.put (some d) v) w')
 (hd : o.dst = some d := by kernel_rfl) (hw : Region.wanted o (yielded ops a.tmps) = true := by kernel_rfl) (hr : (execOp a.eval o).run P w = .ok (.enter f args) w := by kernel_rfl) : WpL P ops Q (o :: rest) a w := b0z (g0x (some d) hd f args hw hr (h _ fun _ _ h => h))
theorem ssk (d : Option Tmp) {ty : TypeId} {x y : Operand} {b : Nat} {t : TypeId} {vs : Array Value} (hX : Bt w b t vs) {n : Nat} (hT : e0h P ty n) (off : Nat) (cs vs' : Array Value) (h : ∀ W, Only b w W → Bt W b t vs' → K (a.put d undef) W)
 (hd : o.dst = d := by kernel_rfl) (hw : Region.wanted o (yielded ops a.tmps) = true := by kernel_rfl) (ho : o.op = .store ty x y := by rfl) (hx : a.eval x = .pointer (some ⟨b, off, none⟩) := by kernel_rfl) (hy : a.eval y = .agg cs := by kernel_rfl)
 (hn : cs.size = n := by kernel_rfl) (hle' : Nat.ble (off + n) vs.size = true := by kernel_rfl) (h1 : cs.all (·.oneCell') = true := by kernel_rfl) (hv : putL vs off cs.toList = vs' := by kernel_rfl) : OpW P ops Q o K a w :=
 y0o d hd hX hT off cs vs' hw ho hx hy hn hle' h1 hv h
theorem ss (d : Option Tmp) {ty : TypeId} {x y : Operand} {b : Nat} {t : TypeId} {vs : Array Value} (hX : Bt w b t vs) {n : Nat} (hT : e0h P ty n) (off : Nat) (cs vs' : Array Value) (h : ∀ W, Only b w W → Bt W b t vs' → WpL P ops Q rest (a.put d undef) W)
 (hd : o.dst = d := by kernel_rfl) (hw : Region.wanted o (yielded ops a.tmps) = true := by kernel_rfl) (ho : o.op = .store ty x y := by rfl) (hx : a.eval x = .pointer (some ⟨b, off, none⟩) := by kernel_rfl) (hy : a.eval y = .agg cs := by kernel_rfl)
 (hn : cs.size = n := by kernel_rfl) (hle' : Nat.ble (off + n) vs.size = true := by kernel_rfl) (h1 : cs.all (·.oneCell') = true := by kernel_rfl) (hv : putL vs off cs.toList = vs' := by kernel_rfl) : WpL P ops Q (o :: rest) a w :=
 b0z (y0o d hd hX hT off cs vs' hw ho hx hy hn hle' h1 hv h)
end
section
variable {P : Program} {ops : Array Oper} {Q : Exit → Act → World → Prop} {S : World → Prop} {fuel : Nat} {listed : Array Bool} {a : Act} {w : World}
theorem tk (i : Nat) {oi : Oper} (d : Nat) (v : Value) (hS : S w) (h : WpH P ops Q S fuel (listed.setIfInBounds i true) (a.put (some d) v) w)
 (hy : ∀ w', S w' → (execOp a.eval oi).run P w' = .ok (.value v) w' := by intro _ _; kernel_rfl) (hi : ops[i]? = some oi := by rfl) (hd : oi.dst = some d := by kernel_rfl)
 (hs : Region.noSelect ops = true := by kernel_rfl) (hf : Region.free .any ops listed i = true := by kernel_rfl) (hr : (Region.ready .any ops listed).contains i = true := by kernel_rfl)
 (hQ : ∀ c a w, Q (.panic c) (a.put (some d) v) w → Q (.panic c) a w := by first | exact fun _ _ _ h => h | exact fun _ _ _ h => l0o h) (hw : Region.wanted oi (yielded ops a.tmps) = true := by kernel_rfl) : WpH P ops Q S (fuel + 1) listed a w :=
 j0v i (some d) v _ hi hd rfl hs hf hr hQ (.inl ⟨hw, hy⟩) hS h
theorem rd1 {i : Nat} {o : Oper} {rs : List Nat} (h : ∀ K' : Act → World → Prop, Shut (∀ a w, S w → WpH P ops Q S fuel (listed.setIfInBounds i true) a w → K' a w) → OpW P ops Q o K' a w)
 (hs : Rdy P ops Q S fuel listed a w rs := by exact y0q) (ho : ops[i]? = some o := by rfl) : Rdy P ops Q S fuel listed a w (i :: rs) := u0t _ ho rfl h hs
theorem sxr (rs : List Nat) (h : Rdy P ops Q S fuel listed a w rs) (hr : Region.ready .any ops listed = rs := by kernel_rfl) (hne : rs.isEmpty = false := by rfl) : WpH P ops Q S (fuel + 1) listed a w := u0s rs hr hne h
end
theorem sxd (P : Program) {ops : Array Oper} {Q : Exit → Act → World → Prop} (S : World → Prop) {id : Nat} {a : Act} {w V : World} (hV : V = w.drew) (hS : S V)
 (h : WpH P ops Q S ops.size (Array.replicate ops.size false) a V) (hm : P.follows .mixedOrders = true := by kernel_rfl) : (Code.region id ops true).wp P Q a w := c1n S hV hm hS h
theorem d0p {next : Act → World → Prop} {Q : Exit → Act → World → Prop} {id : Nat} {a : Act} {w : World} (h : Q (.exit id) a w) : Exit.then next Q (.exit id) a w := h
theorem h0o {P : Program} {Q : Exit → Act → World → Prop} {a : Act} {w : World} {c : Code} (K : Nat → (Nat → Value) → Act → World → Prop) (n0 : Nat) (h0 : K n0 (fun i => a.tmps[i]?.getD undef) a w)
 (round : ∀ G : Nat → Act → World → Prop, (∀ n a w, c.wp P (Exit.then (fun a' w' => ∃ n', n' < n ∧ K n' (fun i => a'.tmps[i]?.getD undef) a' w') Q) a w → G n a w) → ∀ n U a w, K n U a w → G n a w) : (Code.loop c).wp P Q a w := by
 refine wp_loop_ghost (fun n a w => ∃ U, K n U a w) n0 ⟨_, h0⟩ fun n a w ⟨U, hk⟩ => ?_
 refine round (fun n a w => c.wp P (Exit.then (fun a' w' => ∃ n', n' < n ∧ ∃ U, K n' U a' w') Q) a w) (fun n a w h => ?_) n U a w hk
 refine wp_mono h fun e a' w' hq => ?_
 cases e with
 | normal =>
  obtain ⟨n', h1, h2⟩ := hq
  exact ⟨n', h1, _, h2⟩
 | exit id => exact hq
 | goto l => exact hq
 | ret => exact hq
 | panic ch => exact hq
 | outgrown => exact hq
def us : Nat → List Value → List Value
 | 0, l => l
 | n + 1, l => undef :: us n l
def uvs (U : Nat → Value) : Nat → Nat → List Value → List Value
 | _, 0, l => l
 | i, n + 1, l => U i :: uvs U (i + 1) n l
def runN (P : Program) (ops : Array Oper) : Nat → List Oper → Act → World → Option (Act × World)
 | 0, _, a, w => some (a, w)
 | _ + 1, [], _, _ => none
 | n + 1, o :: l, a, w =>
  match Region.wanted o (yielded ops a.tmps) with
  | true => match (execOp a.eval o).run P w with
   | .ok (.value v) w' => runN P ops n l (a.put o.dst v) w'
   | _ => none
  | false => runN P ops n l (a.put o.dst undef) w
def actN (P : Program) (ops : Array Oper) (n : Nat) (l : List Oper) (a : Act) (w : World) : Act := match runN P ops n l a w with | some (a', _) => a' | none => a
section
variable {P : Program} {ops : Array Oper} {Q : Exit → Act → World → Prop}
theorem j0x : ∀ (n : Nat) (l : List Oper) (a : Act) (w : World) (a' : Act) (w' : World), runN P ops n l a w = some (a', w') → WpL P ops Q (l.drop n) a' w' → WpL P ops Q l a w
 | 0, l, a, w, a', w', h, k => by
  simp only [runN, Option.some.injEq, Prod.mk.injEq] at h
  obtain ⟨rfl, rfl⟩ := h
  exact k
 | n + 1, [], a, w, a', w', h, k => by simp [runN] at h
 | n + 1, o :: l, a, w, a', w', h, k => by
  unfold runN at h
  split at h
  · rename_i hw
    split at h
    · rename_i v w2 hr
      refine b0z ⟨?_⟩
      rw [if_pos hw]
      unfold Oper.wp
      rw [hr]
      exact j0x n l _ _ a' w' h k
    · cases h
  · rename_i hw
    refine b0z ⟨?_⟩
    rw [if_neg (by simp [hw])]
    exact j0x n l _ _ a' w' h k
variable {a : Act} {w : World} {l l' : List Oper} {o : Oper}
theorem yn (n : Nat) (hs : l.drop n = l') (h : WpL P ops Q l' (actN P ops n l a w) w) (hr : runN P ops n l a w = some (actN P ops n l a w, w) := by kernel_rfl) : WpL P ops Q l a w :=
 j0x n l a w _ _ hr (by rw [hs]; exact h)
theorem yv (n : Nat) (hs : l.drop n = o :: l') (d : Nat) (v : Value) (h : WpL P ops Q l' ((actN P ops n l a w).put (some d) v) w) (hv : (execOp (actN P ops n l a w).eval o).run P w = .ok (.value v) w := by kernel_rfl)
 (hd : o.dst = some d := by kernel_rfl) (hw : Region.wanted o (yielded ops (actN P ops n l a w).tmps) = true := by kernel_rfl) (hr : runN P ops n l a w = some (actN P ops n l a w, w) := by kernel_rfl) : WpL P ops Q l a w :=
 yn n hs (sv d v h hv hd hw) hr
theorem ya (n : Nat) (hs : l.drop n = o :: l') (d : Nat) (k : IntKind) (e t : Int) (hp : k.wrap e = t) (h : WpL P ops Q l' ((actN P ops n l a w).put (some d) (.int k t)) w) (hv : (execOp (actN P ops n l a w).eval o).run P w = .ok (.value (.int k (k.wrap e))) w := by kernel_rfl)
 (hd : o.dst = some d := by kernel_rfl) (hw : Region.wanted o (yielded ops (actN P ops n l a w).tmps) = true := by kernel_rfl) (hr : runN P ops n l a w = some (actN P ops n l a w, w) := by kernel_rfl) : WpL P ops Q l a w :=
 yv n hs d _ h (by rw [← hp]; exact hv) hd hw hr
theorem yi (n : Nat) (hs : l.drop n = o :: l') (d : Nat) (e : Int) (h : WpL P ops Q l' ((actN P ops n l a w).put (some d) (.int .i64 e)) w) (hp : IntKind.i64.wrap e = e := by (exact iwo)) (hv : (execOp (actN P ops n l a w).eval o).run P w = .ok (.value (.int .i64 (IntKind.i64.wrap e))) w := by kernel_rfl)
 (hd : o.dst = some d := by kernel_rfl) (hw : Region.wanted o (yielded ops (actN P ops n l a w).tmps) = true := by kernel_rfl) (hr : runN P ops n l a w = some (actN P ops n l a w, w) := by kernel_rfl) : WpL P ops Q l a w :=
 ya n hs d .i64 e e hp h hv hd hw hr
theorem yb (n : Nat) (hs : l.drop n = o :: l') (d : Nat) (e b : Bool) (hp : e = b) (h : WpL P ops Q l' ((actN P ops n l a w).put (some d) (.bool b)) w) (hv : (execOp (actN P ops n l a w).eval o).run P w = .ok (.value (.bool e)) w := by kernel_rfl)
 (hd : o.dst = some d := by kernel_rfl) (hw : Region.wanted o (yielded ops (actN P ops n l a w).tmps) = true := by kernel_rfl) (hr : runN P ops n l a w = some (actN P ops n l a w, w) := by kernel_rfl) : WpL P ops Q l a w :=
 yv n hs d _ h (by rw [← hp]; exact hv) hd hw hr
theorem j0y {o : Oper} {ty : TypeId} {x : Operand} {b : Nat} {t : TypeId} {vs : Array Value} (ho : o.op = .load ty x) (hX : Bt w b t vs) (hT : d0h P ty) (off : Nat) (hx : a.eval x = .pointer (some ⟨b, off, none⟩)) (hc : (vs[off]?).isSome = true) :
 (execOp a.eval o).run P w = .ok (.value (vs[off]?.getD undef)) w := by
 cases o
 simp only at ho
 subst ho
 refine s0w hx (s0v hX hT off _ ?_)
 cases hv : vs[off]? with
 | none => rw [hv] at hc; cases hc
 | some v => rfl
theorem yl (n : Nat) (hs : l.drop n = o :: l') (d : Nat) {ty : TypeId} {x : Operand} {b : Nat} {t : TypeId} {vs : Array Value} (hX : Bt w b t vs) (hT : d0h P ty) (off : Nat) (h : WpL P ops Q l' ((actN P ops n l a w).put (some d) (vs[off]?.getD undef)) w)
 (ho : o.op = .load ty x := by rfl) (hx : (actN P ops n l a w).eval x = .pointer (some ⟨b, off, none⟩) := by kernel_rfl) (hc : (vs[off]?).isSome = true := by kernel_rfl)
 (hd : o.dst = some d := by kernel_rfl) (hw : Region.wanted o (yielded ops (actN P ops n l a w).tmps) = true := by kernel_rfl) (hr : runN P ops n l a w = some (actN P ops n l a w, w) := by kernel_rfl) : WpL P ops Q l a w :=
 yv n hs d _ h (j0y ho hX hT off hx hc) hd hw hr
theorem ylb (n : Nat) (hs : l.drop n = o :: l') (d : Nat) {ty : TypeId} {x : Operand} {b : Nat} {t : TypeId} {vs : Array Value} (hX : Bt w b t vs) (hT : d0h P ty) (off : Nat) (e c : Bool) (hp : e = c) (h : WpL P ops Q l' ((actN P ops n l a w).put (some d) (.bool c)) w)
 (he : vs[off]?.getD undef = .bool e := by kernel_rfl) (ho : o.op = .load ty x := by rfl) (hx : (actN P ops n l a w).eval x = .pointer (some ⟨b, off, none⟩) := by kernel_rfl) (hc : (vs[off]?).isSome = true := by kernel_rfl)
 (hd : o.dst = some d := by kernel_rfl) (hw : Region.wanted o (yielded ops (actN P ops n l a w).tmps) = true := by kernel_rfl) (hr : runN P ops n l a w = some (actN P ops n l a w, w) := by kernel_rfl) : WpL P ops Q l a w :=
 yv n hs d _ h (by rw [← hp, ← he]; exact j0y ho hX hT off hx hc) hd hw hr
theorem yw (n : Nat) (hs : l.drop n = o :: l') (d : Nat) (vs : Array Value) (t : TypeId) (h : ∀ W, Below w.heap.size w W → W.heap.size = w.heap.size + 1 → Bt W w.heap.size t vs → WpL P ops Q l' ((actN P ops n l a w).put (some d) (.pointer (some ⟨w.heap.size, 0, none⟩))) W)
 (hd : o.dst = some d := by kernel_rfl) (hw : Region.wanted o (yielded ops (actN P ops n l a w).tmps) = true := by kernel_rfl) (hv : (execOp (actN P ops n l a w).eval o).run P w = .ok (.value (.pointer (some ⟨w.heap.size, 0, none⟩))) (w.alloc (.cells vs t)) := by kernel_rfl)
 (hr : runN P ops n l a w = some (actN P ops n l a w, w) := by kernel_rfl) : WpL P ops Q l a w := yn n hs (sn d vs t h hd hw hv) hr
theorem ywv (n : Nat) (hs : l.drop n = o :: l') (d : Nat) (v : Value) (vs : Array Value) (t : TypeId) (h : ∀ W, Below w.heap.size w W → W.heap.size = w.heap.size + 1 → Bt W w.heap.size t vs → WpL P ops Q l' ((actN P ops n l a w).put (some d) v) W)
 (hd : o.dst = some d := by kernel_rfl) (hw : Region.wanted o (yielded ops (actN P ops n l a w).tmps) = true := by kernel_rfl) (hv : (execOp (actN P ops n l a w).eval o).run P w = .ok (.value v) (w.alloc (.cells vs t)) := by kernel_rfl)
 (hr : runN P ops n l a w = some (actN P ops n l a w, w) := by kernel_rfl) : WpL P ops Q l a w := yn n hs (snv d v vs t h hd hw hv) hr
theorem yc (n : Nat) (hs : l.drop n = o :: l') (d : Nat) {f : FuncId} {args : Array Value} {post : Ending → World → Prop} (hc : Calls P f args w post)
 (h : ∀ G : Act → World → Prop, (∀ a w, WpL P ops Q l' a w → G a w) → ∀ e w', post e w' → ∃ v, e = .returned v ∧ G ((actN P ops n l a w).put (some d) v) w')
 (hv : (execOp (actN P ops n l a w).eval o).run P w = .ok (.enter f args) w := by kernel_rfl) (hd : o.dst = some d := by kernel_rfl) (hw : Region.wanted o (yielded ops (actN P ops n l a w).tmps) = true := by kernel_rfl)
 (hr : runN P ops n l a w = some (actN P ops n l a w, w) := by kernel_rfl) : WpL P ops Q l a w := yn n hs (se d f args (fun G hG => hc.mono (h G hG)) hd hw hv) hr
theorem yck {K : Act → World → Prop} (d : Nat) {f : FuncId} {args : Array Value} {post : Ending → World → Prop} (hc : Calls P f args w post) (h : ∀ e w', post e w' → ∃ v, e = .returned v ∧ K (a.put (some d) v) w')
 (hv : (execOp a.eval o).run P w = .ok (.enter f args) w := by kernel_rfl) (hd : o.dst = some d := by kernel_rfl) (hw : Region.wanted o (yielded ops a.tmps) = true := by kernel_rfl) : OpW P ops Q o K a w := sek d f args (hc.mono h) hd hw hv
theorem ys (n : Nat) (hs : l.drop n = o :: l') {ty : TypeId} {x y : Operand} {b : Nat} {t : TypeId} {vs : Array Value} (hX : Bt w b t vs) {k : Nat} (hT : e0h P ty k) (off : Nat) (cs vs' : Array Value) (h : ∀ W, Only b w W → Bt W b t vs' → WpL P ops Q l' ((actN P ops n l a w).put none undef) W)
 (hd : o.dst = none := by kernel_rfl) (hw : Region.wanted o (yielded ops (actN P ops n l a w).tmps) = true := by kernel_rfl) (ho : o.op = .store ty x y := by rfl) (hx : (actN P ops n l a w).eval x = .pointer (some ⟨b, off, none⟩) := by kernel_rfl) (hy : (actN P ops n l a w).eval y = .agg cs := by kernel_rfl)
 (hn : cs.size = k := by kernel_rfl) (hle' : Nat.ble (off + k) vs.size = true := by kernel_rfl) (h1 : cs.all (·.oneCell') = true := by kernel_rfl) (hv : putL vs off cs.toList = vs' := by kernel_rfl)
 (hr : runN P ops n l a w = some (actN P ops n l a w, w) := by kernel_rfl) : WpL P ops Q l a w := yn n hs (ss none hX hT off cs vs' h hd hw ho hx hy hn hle' h1 hv) hr
theorem ysw (n : Nat) (hs : l.drop n = o :: l') {ty : TypeId} {x y : Operand} {b : Nat} {t : TypeId} {vs : Array Value} (hX : Bt w b t vs) {k : Nat} (hT : e0h P ty k) (cs : Array Value) (h : ∀ W, Only b w W → Bt W b t cs → WpL P ops Q l' ((actN P ops n l a w).put none undef) W)
 (hd : o.dst = none := by kernel_rfl) (hw : Region.wanted o (yielded ops (actN P ops n l a w).tmps) = true := by kernel_rfl) (ho : o.op = .store ty x y := by rfl) (hx : (actN P ops n l a w).eval x = .pointer (some ⟨b, 0, none⟩) := by kernel_rfl) (hy : (actN P ops n l a w).eval y = .agg cs := by kernel_rfl)
 (hn : cs.size = k := by kernel_rfl) (hle' : Nat.ble (0 + k) vs.size = true := by kernel_rfl) (h1 : cs.all (·.oneCell') = true := by kernel_rfl) (hv : putL vs 0 cs.toList = cs := by kernel_rfl)
 (hr : runN P ops n l a w = some (actN P ops n l a w, w) := by kernel_rfl) : WpL P ops Q l a w := yn n hs (ss none hX hT 0 cs cs h hd hw ho hx hy hn hle' h1 hv) hr
theorem yz (n : Nat) (h : Q .normal (actN P ops n l a w) w) (hs : l.drop n = [] := by rfl) (hr : runN P ops n l a w = some (actN P ops n l a w, w) := by kernel_rfl) : WpL P ops Q l a w := yn n hs ⟨h⟩ hr
theorem yzt {next : Act → World → Prop} (n : Nat) (h : next (actN P ops n l a w) w) (hs : l.drop n = [] := by rfl) (hr : runN P ops n l a w = some (actN P ops n l a w, w) := by kernel_rfl) : WpL P ops (Exit.then next Q) l a w := yn (Q := Exit.then next Q) n hs ⟨h⟩ hr
end
section
variable {P : Program} {Q : Exit → Act → World → Prop} {a : Act} {w : World} {l : List Oper} {c c1 c2 : Code} {id : Nat} {x : Operand}
theorem yq (h : c.wp P Q (actN P l.toArray l.length l a w) w) (hr : runN P l.toArray l.length l a w = some (actN P l.toArray l.length l a w, w) := by kernel_rfl) : (Code.seq (Code.region id l.toArray false) c).wp P Q a w :=
 wp_seq (b0e (yn (Q := Exit.then (c.wp P Q) Q) l.length List.drop_length ⟨h⟩ hr))
theorem ye (h : WpL P l.toArray (Exit.then (c.wp P Q) Q) l a w) : (Code.seq (Code.region id l.toArray false) c).wp P Q a w := wp_seq (b0e h)
theorem yT (h : c1.wp P Q a w) (hx : a.eval x = .bool true := by kernel_rfl) : (Code.cond x c1 c2).wp P Q a w := wp_cond_true hx h
theorem yF (h : c2.wp P Q a w) (hx : a.eval x = .bool false := by kernel_rfl) : (Code.cond x c1 c2).wp P Q a w := wp_cond_false hx h
theorem yTs (h : c1.wp P (Exit.then (c.wp P Q) Q) a w) (hx : a.eval x = .bool true := by kernel_rfl) : (Code.seq (Code.cond x c1 c2) c).wp P Q a w := wp_seq (wp_cond_true hx h)
theorem yFs (h : c2.wp P (Exit.then (c.wp P Q) Q) a w) (hx : a.eval x = .bool false := by kernel_rfl) : (Code.seq (Code.cond x c1 c2) c).wp P Q a w := wp_seq (wp_cond_false hx h)
end
section
variable {P : Program} {fn : Func} {R : Ending → World → Prop} {a : Act} {w : World}
def rvS (tmps : Array Value) : ResultVar → Sem Value
 | .tmp t => pure (tmps.getD t undef)
 | .cell a t => do loadVar t (← asAddr (tmps.getD a undef))
structure Rv (P : Program) (w : World) (tmps : Array Value) (r : ResultVar) (v : Value) : Prop where
 out : (rvS tmps r).run P w = .ok v w
theorem rvt {tmps : Array Value} {t : Tmp} : Rv P w tmps (.tmp t) (tmps.getD t undef) := ⟨by simp [rvS]⟩
theorem rvr {tmps : Array Value} {s : Tmp} {ty : TypeId} {b : Nat} {t : TypeId} {cs : Array Value} {k : Nat} (hX : Bt w b t cs) (hT : e0h P ty k) (hx : tmps.getD s undef = .pointer (some ⟨b, 0, none⟩) := by kernel_rfl) (hc : cs.size = k := by kernel_rfl) : Rv P w tmps (.cell s ty) (.agg cs) := by
 refine ⟨?_⟩
 have h2 := e1y hX hT 0 cs.toList (by rw [List.drop_zero, List.take_length]) (by rw [Array.length_toList, hc])
 simp only [Instr.loadAt, Instr.sureAddr, Sem.run_bind, Sem.run_pure, Result.andThen_ok] at h2
 simp only [rvS, Sem.run_bind, Sem.run_pure, Result.andThen_ok, hx, asAddr, h2, Array.toArray_toList]
theorem f0w (tmps : Array Value) : results fn tmps = (do
    let vs ← fn.results.mapM (rvS tmps)
    pure (if h : vs.size = 1 then vs[0] else .tuple vs)) := by
 unfold results
 congr 1
theorem res0 (hf : fn.results = #[]) : (results fn a.tmps).run P w = .ok (.tuple #[]) w := by
 rw [f0w, hf]
 simp
theorem res1 {r : ResultVar} {v : Value} (hf : fn.results = #[r]) (h : Rv P w a.tmps r v) : (results fn a.tmps).run P w = .ok v w := by
 rw [f0w, hf]
 simp [h.out]
theorem res2 {r r2 : ResultVar} {v v2 : Value} (hf : fn.results = #[r, r2]) (h : Rv P w a.tmps r v) (h2 : Rv P w a.tmps r2 v2) : (results fn a.tmps).run P w = .ok (.tuple #[v, v2]) w := by
 rw [f0w, hf]
 simp [h.out, h2.out]
theorem res3 {r r2 r3 : ResultVar} {v v2 v3 : Value} (hf : fn.results = #[r, r2, r3]) (h : Rv P w a.tmps r v) (h2 : Rv P w a.tmps r2 v2) (h3 : Rv P w a.tmps r3 v3) : (results fn a.tmps).run P w = .ok (.tuple #[v, v2, v3]) w := by
 rw [f0w, hf]
 simp [h.out, h2.out, h3.out]
theorem yret {u : Value} (v : Value) (r : (results fn a.tmps).run P w = .ok u w) (h : R (.returned v) w) (hv : u = v := by kernel_rfl) (hd : a.defers = [] := by kernel_rfl) : bodyPost P fn R .ret a w := bodyPost_ret (by rw [← hv]; exact r) hd h
theorem yend {u : Value} (v : Value) (r : (results fn a.tmps).run P w = .ok u w) (h : R (.returned v) w) (hv : u = v := by kernel_rfl) (hd : a.defers = [] := by kernel_rfl) : bodyPost P fn R .normal a w := bodyPost_end (by rw [← hv]; exact r) hd h
end
/-! ### Drawn regions -/
section
variable {P : Program} {ops : Array Oper} {Q : Exit → Act → World → Prop} {S : World → Prop} {a : Act} {w V : World} {fuel fuel' : Nat} {listed : Array Bool}
theorem o0u (w : World) : ∃ V, V = w.drew ∧ Below w.heap.size w V ∧ V.heap.size = w.heap.size := ⟨_, rfl, (Below.refl _ _).drew, rfl⟩
theorem yd1 (hV : V = w.drew) {b : Nat} {t : TypeId} {vs : Array Value} (hX : Bt V b t vs) {id : Nat} (h : WpH P ops Q (fun w' => Bt w' b t vs) ops.size (Array.replicate ops.size false) a V) (hm : P.follows .mixedOrders = true := by kernel_rfl) : (Code.region id ops true).wp P Q a w := sxd P _ hV hX h hm
theorem yd2 (hV : V = w.drew) {b b2 : Nat} {t t2 : TypeId} {vs vs2 : Array Value} (hX : Bt V b t vs ∧ Bt V b2 t2 vs2) {id : Nat} (h : WpH P ops Q (fun w' => Bt w' b t vs ∧ Bt w' b2 t2 vs2) ops.size (Array.replicate ops.size false) a V) (hm : P.follows .mixedOrders = true := by kernel_rfl) : (Code.region id ops true).wp P Q a w := sxd P _ hV hX h hm
def valT (P : Program) (o : Oper) (a : Act) (V : World) : Value := match (execOp a.eval o).run P V with | .ok (.value v) _ => v | _ => undef
def actT (P : Program) (ops : Array Oper) : List Nat → Act → World → Act
 | [], a, _ => a
 | i :: is, a, V => match ops[i]? with
  | some o => match Region.wanted o (yielded ops a.tmps) with
   | true => actT P ops is (a.put o.dst (valT P o a V)) V
   | false => actT P ops is (a.put o.dst undef) V
  | none => a
def seqT (P : Program) (ops : Array Oper) : List Nat → Act → World → World → List (Result Next)
 | [], _, _, _ => []
 | i :: is, a, V, w => match ops[i]? with
  | some o => match Region.wanted o (yielded ops a.tmps) with
   | true => (execOp a.eval o).run P w :: seqT P ops is (a.put o.dst (valT P o a V)) V w
   | false => seqT P ops is (a.put o.dst undef) V w
  | none => [.ok .skip w]
def expT (P : Program) (ops : Array Oper) : List Nat → Act → World → World → List (Result Next)
 | [], _, _, _ => []
 | i :: is, a, V, w => match ops[i]? with
  | some o => match Region.wanted o (yielded ops a.tmps) with
   | true => .ok (.value (valT P o a V)) w :: expT P ops is (a.put o.dst (valT P o a V)) V w
   | false => expT P ops is (a.put o.dst undef) V w
  | none => []
def okT (ops : Array Oper) : List Nat → Array Bool → Bool
 | [], _ => true
 | i :: is, l => Region.free .any ops l i && ((Region.ready .any ops l).contains i && okT ops is (l.setIfInBounds i true))
def c1o : List Nat → Array Bool → Array Bool
 | [], l => l
 | i :: is, l => c1o is (l.setIfInBounds i true)
theorem putQ (hQ : ∀ c a (d : Nat) v w, Q (.panic c) (a.put (some d) v) w → Q (.panic c) a w) (c : List PanicEntry) (a : Act) (d : Option Tmp) (v : Value) (w : World) (h : Q (.panic c) (a.put d v) w) : Q (.panic c) a w := by
 cases d with
 | none => exact h
 | some d => exact hQ c a d v w h
theorem i0e (hs : Region.noSelect ops = true) (hQ : ∀ c a (d : Nat) v w, Q (.panic c) (a.put (some d) v) w → Q (.panic c) a w) (hS : S V) : ∀ (is : List Nat) (fuel : Nat) (listed : Array Bool) (a : Act), okT ops is listed = true → (∀ w', S w' → seqT P ops is a V w' = expT P ops is a V w') →
 WpH P ops Q S fuel (c1o is listed) (actT P ops is a V) V → WpH P ops Q S (fuel + is.length) listed a V
 | [], fuel, listed, a, _, _, h => h
 | i :: is, fuel, listed, a, ho, hr, h => by
  unfold okT at ho
  rw [Bool.and_eq_true, Bool.and_eq_true] at ho
  obtain ⟨h1, h2, h3⟩ := ho
  unfold actT at h
  unfold seqT expT at hr
  unfold c1o at h
  cases hi : ops[i]? with
  | none => rw [hi] at hr; have := hr V hS; simp at this
  | some o =>
   rw [hi] at h hr
   simp only at h hr
   cases hw : Region.wanted o (yielded ops a.tmps) with
   | true =>
    rw [hw] at h hr
    simp only [List.cons.injEq] at h hr
    exact j0v (fuel := fuel + is.length) i o.dst (valT P o a V) _ hi rfl rfl hs h1 h2 (fun c a w => putQ hQ c a _ _ w) (.inl ⟨hw, fun w' hS' => (hr w' hS').1⟩) hS (i0e hs hQ hS is fuel _ _ h3 (fun w' hS' => (hr w' hS').2) h)
   | false =>
    rw [hw] at h hr
    simp only at h hr
    exact j0v (fuel := fuel + is.length) i o.dst undef _ hi rfl rfl hs h1 h2 (fun c a w => putQ hQ c a _ _ w) (.inr ⟨hw, rfl⟩) hS (i0e hs hQ hS is fuel _ _ h3 hr h)
theorem yt (fuel : Nat) (is : List Nat) (hf : fuel' = fuel + is.length) (hS : S V) (h : WpH P ops Q S fuel (c1o is listed) (actT P ops is a V) V) (hr : ∀ w', S w' → seqT P ops is a V w' = expT P ops is a V w' := by intro _ _; kernel_rfl) (ho : okT ops is listed = true := by kernel_rfl)
 (hQ : ∀ c a (d : Nat) v w, Q (.panic c) (a.put (some d) v) w → Q (.panic c) a w := by first | exact fun _ _ _ _ _ h => h | exact fun _ _ _ _ _ h => l0o h) (hs : Region.noSelect ops = true := by kernel_rfl) : WpH P ops Q S fuel' listed a V := by
 subst hf
 exact i0e hs hQ hS is fuel listed a ho hr h
theorem ytl (i : Nat) {oi : Oper} (hi : ops[i]? = some oi) (d : Nat) {ty : TypeId} {x : Operand} {b : Nat} {t : TypeId} {vs : Array Value} (hX : ∀ w', S w' → Bt w' b t vs) (hT : d0h P ty) (off : Nat) (hS : S V) (h : WpH P ops Q S fuel (listed.setIfInBounds i true) (a.put (some d) (vs[off]?.getD undef)) V)
 (ho : oi.op = .load ty x := by rfl) (hx : a.eval x = .pointer (some ⟨b, off, none⟩) := by kernel_rfl) (hc : (vs[off]?).isSome = true := by kernel_rfl) (hd : oi.dst = some d := by kernel_rfl)
 (hs : Region.noSelect ops = true := by kernel_rfl) (hf : Region.free .any ops listed i = true := by kernel_rfl) (hr : (Region.ready .any ops listed).contains i = true := by kernel_rfl)
 (hQ : ∀ c a (d : Nat) v w, Q (.panic c) (a.put (some d) v) w → Q (.panic c) a w := by first | exact fun _ _ _ _ _ h => h | exact fun _ _ _ _ _ h => l0o h) (hw : Region.wanted oi (yielded ops a.tmps) = true := by kernel_rfl) : WpH P ops Q S (fuel + 1) listed a V :=
 tk i d _ hS h (fun w' h' => j0y ho (hX w' h') hT off hx hc) hi hd hs hf hr (fun c a w => hQ c a _ _ w) hw
end
inductive SV where
 | v (x : Value)
 | p (k off : Nat)
 | s (k off n c : Nat)
 | a (cs : List Value) (ks : List (Option Nat))
 | f (fn : Fn) (cs : List Value) (ks : List (Option Nat))
def lk {α : Type} (d : α) : List α → Nat → α
 | [], _ => d
 | a :: _, 0 => a
 | _ :: l, n + 1 => lk d l n
def setL {α : Type} : List α → Nat → α → List α
 | [], _, _ => []
 | _ :: l, 0, v => v :: l
 | a :: l, n + 1, v => a :: setL l n v
theorem d0z {α : Type} (d : α) : ∀ (l : List α) (n : Nat), lk d l n = (l[n]?).getD d
 | [], _ => by simp [lk]
 | a :: _, 0 => by simp [lk]
 | _ :: l, n + 1 => by simp [lk, d0z d l n]
theorem e0n {α : Type} : ∀ (l : List α) (n : Nat) (v : α), setL l n v = l.set n v
 | [], _, _ => by simp [setL]
 | _ :: _, 0, _ => rfl
 | _ :: l, n + 1, v => by simp [setL, e0n l n v]
def l0p (A : List Nat) : Option Nat → Value → Value
 | some k, .pointer (some ⟨_, off, _⟩) => .pointer (some ⟨lk 0 A k, off, none⟩)
 | some k, .slice (some ⟨_, off, _⟩) n c => .slice (some ⟨lk 0 A k, off, none⟩) n c
 | _, v => v
def e0a (A : List Nat) : List Value → List (Option Nat) → List Value
 | v :: vs, k :: ks => l0p A k v :: e0a A vs ks
 | vs, _ => vs
def SV.r (A : List Nat) : SV → Value
 | .v x => x
 | .p k off => .pointer (some ⟨lk 0 A k, off, none⟩)
 | .s k off n c => .slice (some ⟨lk 0 A k, off, none⟩) n c
 | .a cs ks => .agg (e0a A cs ks).toArray
 | .f fn cs ks => .func fn #[] (e0a A cs ks).toArray
def act (A : List Nat) (fr : List SV) : Act := ⟨(fr.map (SV.r A)).toArray, []⟩
def ev (fr : List SV) : Operand → SV
 | .tmp t => lk (.v undef) fr t
 | .const v => .v v
 | .global g => .v (.pointer (some ⟨g, 0, none⟩))
 | .func f => .v (.func (.func f) #[] #[])
def evr (A : List Nat) (fr : List SV) (x : Operand) : Value := (ev fr x).r A
theorem y0r (A : List Nat) (fr : List SV) (t : Nat) : (act A fr).tmps[t]? = (fr[t]?).map (SV.r A) := by simp [act]
theorem b0x (A : List Nat) (fr : List SV) : (act A fr).eval = evr A fr := by
 funext x
 cases x with
 | tmp t =>
  show (act A fr).tmps.getD t undef = SV.r A (lk _ fr t)
  rw [Array.getD_eq_getD_getElem?, y0r, d0z]
  cases fr[t]? <;> rfl
 | const v => rfl
 | global g => rfl
 | func f => rfl
def putO (fr : List SV) (d : Option Tmp) (x : SV) : List SV := match d with | some d => setL fr d x | none => fr
theorem d0j (A : List Nat) (fr : List SV) (d : Option Tmp) (x : SV) : (act A fr).put d (x.r A) = act A (putO fr d x) := by
 cases d with
 | none => rfl
 | some d =>
  show (⟨(fr.map (SV.r A)).toArray.setIfInBounds d (x.r A), []⟩ : Act) = ⟨((setL fr d x).map (SV.r A)).toArray, []⟩
  rw [e0n, List.map_set]
  simp
def wnt (ops : Array Oper) (fr : List SV) (o : Oper) : Bool :=
 match o.guard with
 | none => true
 | some (j, b) => match (ops[j]?).bind (·.dst) with
  | some d => match lk (.v undef) fr d with
   | .v (.bool c) => match b with | true => c | false => !c
   | _ => false
  | none => false
theorem f0x (A : List Nat) (ops : Array Oper) (fr : List SV) (o : Oper) : Region.wanted o (yielded ops (act A fr).tmps) = wnt ops fr o := by
 unfold Region.wanted wnt
 cases o.guard with
 | none => rfl
 | some jb =>
  obtain ⟨j, b⟩ := jb
  simp only
  unfold yielded
  cases (ops[j]?).bind (·.dst) with
  | none => rfl
  | some d =>
   simp only [Option.bind_some, y0r, d0z]
   cases h : fr[d]? with
   | none => rfl
   | some x =>
    simp only [Option.map_some, Option.getD_some]
    cases x with
    | v x => cases x with
     | bool c => cases b <;> cases c <;> rfl
     | _ => rfl
    | p k off => rfl
    | s k off n c => rfl
    | a cs ks => rfl
    | f fn cs ks => rfl
/-! ### Boxes, facts -/
structure Box where
 t : TypeId
 cs : List SV
 ro : Bool
def Box.row (A : List Nat) (b : Box) : Array Value := (b.cs.map (SV.r A)).toArray
def bx0 : Box := ⟨0, [], false⟩
structure PF where
 prop : World → Prop
 foot : Nat → Prop
 keep : ∀ W W', prop W → (∀ b, b < W.heap.size → foot b → W'.heap[b]? = W.heap[b]?) → W.heap.size ≤ W'.heap.size → prop W'
 lt : ∀ W b, prop W → foot b → b < W.heap.size
def PF.all (W : World) : List PF → Prop
 | [] => True
 | f :: l => f.prop W ∧ PF.all W l
def PF.far (a : Nat) : List PF → Prop
 | [] => True
 | f :: l => ¬ f.foot a ∧ PF.far a l
theorem PF.all_keep {W W' : World} (hs : W.heap.size ≤ W'.heap.size) : ∀ {l : List PF}, PF.all W l → (∀ b, b < W.heap.size → (∀ a, PF.far a l → a ≠ b) → W'.heap[b]? = W.heap[b]?) → PF.all W' l
 | [], _, _ => True.intro
 | f :: _, h, hb => ⟨f.keep W W' h.1 (fun b hl hf => hb b hl fun _ ha hab => ha.1 (hab ▸ hf)) hs, PF.all_keep hs h.2 fun b hl ha => hb b hl fun _ h1 => ha _ h1.2⟩
theorem PF.far_new {W : World} : ∀ {l : List PF}, PF.all W l → PF.far W.heap.size l
 | [], _ => True.intro
 | f :: _, h => ⟨fun hf => Nat.lt_irrefl _ (f.lt W _ h.1 hf), PF.far_new h.2⟩
structure Kp (E : List Nat) (w w' : World) : Prop where
 os : w'.os = w.os
 tape : w'.tape = w.tape
 output : w'.output = w.output
 size : w.heap.size ≤ w'.heap.size
 block : ∀ k, k < w.heap.size → k ∉ E → w'.heap[k]? = w.heap[k]?
theorem Kp.refl (E : List Nat) (w : World) : Kp E w w := ⟨rfl, rfl, rfl, Nat.le_refl _, fun _ _ _ => rfl⟩
theorem Kp.step {E : List Nat} {w w1 w2 : World} (h : Kp E w w1) (k : Below w1.heap.size w1 w2) : Kp E w w2 :=
 ⟨k.os.trans h.os, k.tape.trans h.tape, k.output.trans h.output, Nat.le_trans h.size k.size, fun i hi hn => (k.block i (Nat.lt_of_lt_of_le hi h.size)).trans (h.block i hi hn)⟩
theorem Kp.put {E : List Nat} {w w1 w2 : World} {a : Nat} (h : Kp E w w1) (k : Only a w1 w2) (ha : w.heap.size ≤ a ∨ a ∈ E) : Kp E w w2 :=
 ⟨k.os.trans h.os, k.tape.trans h.tape, k.output.trans h.output, by rw [k.size]; exact h.size, fun i hi hn => (k.block i (fun e => by subst e; rcases ha with ha | ha; omega; exact hn ha)).trans (h.block i hi hn)⟩
def Fa (A : List Nat) (bx : List Box) (a : Nat) : Prop := ∃ k, k < bx.length ∧ (lk bx0 bx k).ro = false ∧ a = lk 0 A k
structure Inv (E : List Nat) (w0 : World) (A : List Nat) (bx : List Box) (fs : List PF) (W : World) : Prop where
 bel : Kp E w0 W
 ge : ∀ a, Fa A bx a → w0.heap.size ≤ a ∨ a ∈ E
 nd : ∀ i j, i < bx.length → j < bx.length → (lk bx0 bx i).ro = false → i ≠ j → lk 0 A i ≠ lk 0 A j
 len : A.length = bx.length
 pre : E <+: A
 bt : ∀ k, k < bx.length → Bt W (lk 0 A k) (lk bx0 bx k).t ((lk bx0 bx k).row A)
 fa : PF.all W fs
 far : ∀ a, Fa A bx a → PF.far a fs
theorem Inv.below {w0 : World} {A : List Nat} {bx : List Box} {fs : List PF} {W : World} (I : Inv [] w0 A bx fs W) : Below w0.heap.size w0 W :=
 ⟨I.bel.os, I.bel.tape, I.bel.output, I.bel.size, fun k hk => I.bel.block k hk (by simp)⟩
theorem Fa.nil {a : Nat} (h : Fa [] [] a) : False := by
 obtain ⟨k, hk, _⟩ := h
 simp at hk
theorem Inv.start (w : World) (fs : List PF) (h : PF.all w fs) : Inv [] w [] [] fs w :=
 ⟨Kp.refl _ _, fun _ h => h.nil.elim, fun _ _ h => by simp at h, rfl, List.prefix_refl _, fun _ h => by simp at h, h, fun _ h => h.nil.elim⟩
section
variable {E : List Nat} {w0 : World} {A : List Nat} {bx : List Box} {fs : List PF} {W W' : World}
theorem Inv.lt (I : Inv E w0 A bx fs W) : ∀ a, Fa A bx a → a < W.heap.size := fun a ⟨k, hk, _, e⟩ => by
 subst e
 exact (I.bt k hk).lt
theorem Inv.past (I : Inv E w0 A bx fs W) (hb : Below W.heap.size W W') : Inv E w0 A bx fs W' :=
 ⟨I.bel.step hb, I.ge, I.nd, I.len, I.pre, fun k hk => (I.bt k hk).past hb, PF.all_keep hb.size I.fa fun b hl _ => hb.block b hl, I.far⟩
theorem Inv.add (I : Inv E w0 A bx fs W) (f : PF) (h : f.prop W) (hf : ∀ a, Fa A bx a → ¬ f.foot a) : Inv E w0 A bx (f :: fs) W :=
 ⟨I.bel, I.ge, I.nd, I.len, I.pre, I.bt, ⟨h, I.fa⟩, fun a ha => ⟨hf a ha, I.far a ha⟩⟩
end
def BtOk (A : List Nat) (bx : List Box) (W : World) : Prop := ∀ k, k < bx.length → 0 < (lk bx0 bx k).cs.length → Bt W (lk 0 A k) (lk bx0 bx k).t ((lk bx0 bx k).row A)
theorem Inv.ok {E : List Nat} {w0 : World} {A : List Nat} {bx : List Box} {fs : List PF} {W : World} (I : Inv E w0 A bx fs W) : BtOk A bx W := fun k hk _ => I.bt k hk
/-! ### What an operation does -/
inductive Eff where
 | val (x : SV)
 | new (t : TypeId) (cs : List SV) (n : Option Nat)
 | st (k : Nat) (cs : List SV)
 | stop
def mkS : Option Nat → Nat → SV
 | none, k => .p k 0
 | some n, k => .s k 0 n n
def rowT (P : Program) (ty : TypeId) : Option Bool := (P.underlying ty).map (·.isRow)
def szT (P : Program) (ty : TypeId) : Option Nat := (P.info? ty).map (·.size)
def c0r : List SV → Option (List Value)
 | [] => some []
 | .v x :: l => match c0r l with | some r => some (x :: r) | none => none
 | _ :: _ => none
theorem h0z (A : List Nat) : ∀ {l : List SV} {r : List Value}, c0r l = some r → l.map (SV.r A) = r
 | [], r, h => by simp [c0r] at h; simp [h]
 | .v x :: l, r, h => by
  unfold c0r at h
  split at h
  · rename_i r' hr
    simp only [Option.some.injEq] at h
    rw [← h, List.map_cons, h0z A hr]; rfl
  · cases h
 | .p _ _ :: _, r, h => by simp [c0r] at h
 | .s _ _ _ _ :: _, r, h => by simp [c0r] at h
 | .a _ _ :: _, r, h => by simp [c0r] at h
 | .f _ _ _ :: _, r, h => by simp [c0r] at h
def own1 : SV → Option Nat
 | .p k _ => some k
 | .s k _ _ _ => some k
 | _ => none
def c1p : List SV → Bool
 | [] => true
 | .a _ _ :: _ => false
 | .f _ _ _ :: _ => false
 | _ :: l => c1p l
def mkA (l : List SV) : SV := match c0r l with
 | some r => .v (.agg r.toArray)
 | none => .a (l.map (SV.r [])) (l.map own1)
theorem j0a (A : List Nat) : ∀ {l : List SV}, c1p l = true → e0a A (l.map (SV.r [])) (l.map own1) = l.map (SV.r A)
 | [], _ => rfl
 | .v x :: l, h => by
  show l0p A none x :: e0a A (l.map (SV.r [])) (l.map own1) = x :: l.map (SV.r A)
  rw [j0a A (l := l) h]
  rfl
 | .p k off :: l, h => by
  show l0p A (some k) (.pointer (some ⟨lk 0 [] k, off, none⟩)) :: e0a A (l.map (SV.r [])) (l.map own1) = .pointer (some ⟨lk 0 A k, off, none⟩) :: l.map (SV.r A)
  rw [j0a A (l := l) h]
  rfl
 | .s k off n c :: l, h => by
  show l0p A (some k) (.slice (some ⟨lk 0 [] k, off, none⟩) n c) :: e0a A (l.map (SV.r [])) (l.map own1) = .slice (some ⟨lk 0 A k, off, none⟩) n c :: l.map (SV.r A)
  rw [j0a A (l := l) h]
  rfl
 | .a _ _ :: _, h => by cases h
 | .f _ _ _ :: _, h => by cases h
theorem l1h (A : List Nat) {l : List SV} (h : c1p l = true) : (mkA l).r A = .agg (l.map (SV.r A)).toArray := by
 unfold mkA
 split
 · rename_i r hr
   rw [h0z A hr]
   rfl
 · show Value.agg (e0a A _ _).toArray = _
   rw [j0a A h]
def spl : Option Nat → Value → SV
 | some k, .pointer (some ⟨_, off, _⟩) => .p k off
 | some k, .slice (some ⟨_, off, _⟩) n c => .s k off n c
 | _, v => .v v
def splL : List Value → List (Option Nat) → List SV
 | v :: vs, k :: ks => spl k v :: splL vs ks
 | vs, _ => vs.map .v
theorem l1i (A : List Nat) (k : Option Nat) (v : Value) : (spl k v).r A = l0p A k v := by
 unfold spl l0p
 split <;> rfl
theorem f1a (A : List Nat) : ∀ (vs : List Value) (ks : List (Option Nat)), (splL vs ks).map (SV.r A) = e0a A vs ks
 | v :: vs, k :: ks => by
  show (spl k v).r A :: (splL vs ks).map (SV.r A) = l0p A k v :: e0a A vs ks
  rw [l1i, f1a A vs ks]
 | [], [] => rfl
 | [], _ :: _ => rfl
 | v :: vs, [] => by
  show ((v :: vs).map SV.v).map (SV.r A) = v :: vs
  rw [List.map_map]
  exact List.map_id _
def ldB (P : Program) (bx : List Box) (ty : TypeId) (k off : Nat) : Option SV :=
 match Nat.ble (k + 1) bx.length with
 | false => none
 | true => match rowT P ty with
  | some true => match szT P ty with
   | some n => match Nat.beq (((lk bx0 bx k).cs.drop off).take n).length n && (Nat.ble 1 (lk bx0 bx k).cs.length && c1p (((lk bx0 bx k).cs.drop off).take n)) with
    | true => some (mkA (((lk bx0 bx k).cs.drop off).take n))
    | false => none
   | none => none
  | some false => match szT P ty with
   | some 1 => match Nat.ble (off + 1) (lk bx0 bx k).cs.length with | true => some (lk (.v undef) (lk bx0 bx k).cs off) | false => none
   | _ => none
  | none => none
def j1h : SV → List SV
 | .v x => x.cells.toList.map .v
 | .a cs ks => splL cs ks
 | x => [x]
def y0s : SV → Option (List SV)
 | .v (.agg cs) => some (cs.toList.map .v)
 | .a cs ks => some (splL cs ks)
 | _ => none
theorem c1q (A : List Nat) {x : SV} {l : List SV} (h : y0s x = some l) : x.r A = .agg (l.map (SV.r A)).toArray := by
 unfold y0s at h
 split at h
 · rename_i cs
   simp only [Option.some.injEq] at h
   subst h
   rw [List.map_map]
   show Value.agg cs = .agg (cs.toList.map id).toArray
   rw [List.map_id]
 · rename_i cs ks
   simp only [Option.some.injEq] at h
   subst h
   rw [f1a]
   rfl
 · cases h
def o0v : SV → Bool
 | .v x => x.oneCell'
 | .a _ _ => false
 | _ => true
theorem n0s (A : List Nat) {x : SV} (h : o0v x = true) : (x.r A).oneCell' = true := by
 cases x with
 | v x => exact h
 | p k off => rfl
 | s k off n c => rfl
 | a cs ks => cases h
 | f fn cs ks => rfl
def putC (cs : List SV) (off : Nat) : List SV → List SV
 | [] => cs
 | v :: r => putC (setL cs off v) (off + 1) r
def stB (P : Program) (bx : List Box) (ty : TypeId) (k off : Nat) (x : SV) : Option (List SV) :=
 match Nat.ble (k + 1) bx.length with
 | false => none
 | true => match (lk bx0 bx k).ro with
  | true => none
  | false => match rowT P ty with
   | some true => match y0s x with
    | some l => match szT P ty with
     | some n => match Nat.beq l.length n && Nat.ble (off + n) (lk bx0 bx k).cs.length && l.all o0v with
      | true => some (putC (lk bx0 bx k).cs off l)
      | false => none
     | none => none
    | none => none
   | some false => match szT P ty with
    | some 1 => match x with
     | .v (.agg _) => none
     | .a _ _ => none
     | x => match Nat.ble (off + 1) (lk bx0 bx k).cs.length && o0v x with
      | true => some (setL (lk bx0 bx k).cs off x)
      | false => none
    | _ => none
   | none => none
def l1j (fr : List SV) : Op → Option Nat
 | .fieldAddr _ x _ | .indexAddr _ x _ | .slice _ x _ _ _ | .nilCheck x => match ev fr x with | .p k _ => some k | .s k _ _ _ => some k | _ => none
 | _ => none
def g1k : Option Nat → Value → SV
 | some k, .pointer (some ⟨_, off, _⟩) => .p k off
 | some k, .slice (some ⟨_, off, _⟩) n c => .s k off n c
 | _, v => .v v
def l1k : SV → Value
 | .v (.agg cs) => .agg (cs.map fun _ => .nilFunc)
 | .v _ => .nilFunc
 | .p k _ => .chan (some k)
 | .s k _ _ _ => .chan (some k)
 | .f _ _ _ => .nilFunc
 | .a _ ks => .agg (ks.map fun k => match k with | some k => Value.chan (some k) | none => .nilFunc).toArray
def f1b : Value → Option Nat
 | .chan (some k) => some k
 | _ => none
def f1c : List (Option Nat) → Bool
 | [] => false
 | some _ :: _ => true
 | none :: l => f1c l
def comb (v m : Value) : SV :=
 match m with
 | .chan (some k) => spl (some k) v
 | .agg ms => match f1c (ms.toList.map f1b) with
  | true => match v with
   | .agg cs => .a cs.toList (ms.toList.map f1b)
   | _ => .v v
  | false => .v v
 | _ => .v v
def y0t (fr : List SV) : List Operand → Bool
 | [] => false
 | x :: l => match ev fr x with
  | .v _ => y0t fr l
  | _ => true
def genA (P : Program) (o : Oper) (fr : List SV) : SV :=
 match (execOp (evr [] fr) o).run P default with
 | .ok (.value v) _ => match (execOp (fun x => l1k (ev fr x)) o).run P default with
  | .ok (.value m) _ => comb v m
  | _ => .v undef
 | _ => .v undef
def g1l (fr : List SV) : Op → Bool
 | .build _ ps => y0t fr (ps.toList.map (·.2))
 | .field _ x _ => y0t fr [x]
 | _ => false
def genV (P : Program) (o : Oper) (fr : List SV) : SV :=
 match g1l fr o.op with
 | true => genA P o fr
 | false => match (execOp (evr [] fr) o).run P default with
  | .ok (.value v) _ => g1k (l1j fr o.op) v
  | _ => .v undef
def newC (P : Program) (o : Oper) (fr : List SV) : Option (TypeId × List SV) :=
 match (execOp (evr [] fr) o).run P default with
 | .ok (.value _) w => match (w.heap[0]? : Option Obj) with
  | some (.cells vs t _) => some (t, vs.toList.map .v)
  | _ => none
 | _ => none
def l1l : Builtin → Bool
 | .len | .cap | .max | .min => true
 | _ => false
def eff (P : Program) (bx : List Box) (fr : List SV) (o : Oper) : Eff :=
 match o.op with
 | .move x | .assign x => .val (ev fr x)
 | .pick c a b => match ev fr c with
  | .v (.bool true) => .val (ev fr a)
  | .v (.bool false) => .val (ev fr b)
  | _ => .stop
 | .load ty x => match ev fr x with
  | .p k off => match ldB P bx ty k off with | some v => .val v | none => .stop
  | _ => .stop
 | .store ty x y => match ev fr x with
  | .p k off => match stB P bx ty k off (ev fr y) with | some cs => .st k cs | none => .stop
  | _ => .stop
 | .box t x => .new t (j1h (ev fr x)) none
 | .alloc _ => match newC P o fr with | some (t, cs) => .new t cs none | none => .stop
 | .buildSlice _ n _ => match newC P o fr with | some (t, cs) => .new t cs (some n) | none => .stop
 | .call c => match c.callee with
  | .builtin b => match l1l b with | true => .val (genV P o fr) | false => .stop
  | _ => .stop
 | .makeFunc fn _ cs => .val (.f fn (cs.toList.map (evr [] fr)) (cs.toList.map fun x => own1 (ev fr x)))
 | .makeMap _ _ | .makeChan _ _ | .makeSlice _ _ _ | .mapUpdate _ _ _ _ | .insert _ _ _ _ | .mapEntry _ _ _ | .entryStore _ _ _ _ | .go _ | .defer _ | .panic _ | .send _ _ | .recv _ _ _ | .select _ _ | .next _ _ | .ready _ | .waits _ => .stop
 | _ => .val (genV P o fr)
def l0q (P : Program) (bx : List Box) (fr : List SV) (o : Oper) (A : List Nat) (w : World) : List (Result Next × Result Next) :=
 match o.op with
 | .move _ | .assign _ | .pick _ _ _ | .load _ _ | .store _ _ _ => []
 | _ => match eff P bx fr o with
  | .val x => [((execOp (evr A fr) o).run P w, .ok (.value (x.r A)) w)]
  | .new t cs x => [((execOp (evr A fr) o).run P w, .ok (.value ((mkS x 0).r [w.heap.size])) (w.alloc (.cells (cs.map (SV.r A)).toArray t)))]
  | _ => []
def wfS (n : Nat) : SV → Bool
 | .v _ => true
 | .p k _ => Nat.ble (k + 1) n
 | .s k _ _ _ => Nat.ble (k + 1) n
 | .a _ ks => ks.all fun k => match k with | some k => Nat.ble (k + 1) n | none => true
 | .f _ _ ks => ks.all fun k => match k with | some k => Nat.ble (k + 1) n | none => true
def wfL (n : Nat) : List SV → Bool
 | [] => true
 | x :: l => match wfS n x with | true => wfL n l | false => false
def wfB (n : Nat) : List Box → Bool
 | [] => true
 | b :: l => match wfL n b.cs with | true => wfB n l | false => false
def aft (bx : List Box) (fr : List SV) (d : Option Tmp) : Eff → Option (List SV × List Box)
 | .val x => some (putO fr d x, bx)
 | .new t cs x => match wfL bx.length fr && wfL bx.length cs && wfB bx.length bx with
  | true => some (putO fr d (mkS x bx.length), bx ++ [⟨t, cs, false⟩])
  | false => none
 | .st k cs => some (putO fr d (.v undef), setL bx k ⟨(lk bx0 bx k).t, cs, false⟩)
 | .stop => none
def l0r {α : Type} : List (α × α) → Prop
 | [] => True
 | x :: l => x.1 = x.2 ∧ l0r l
theorem f0c {α : Type} : ∀ {l : List (α × α)}, l.map (·.1) = l.map (·.2) → l0r l
 | [], _ => True.intro
 | _ :: _, h => by
  simp only [List.map_cons, List.cons.injEq] at h
  exact ⟨h.1, f0c h.2⟩
theorem d0c {α : Type} : ∀ {l m : List (α × α)}, l0r (l ++ m) → l0r l ∧ l0r m
 | [], _, h => ⟨True.intro, h⟩
 | _ :: _, _, h => ⟨⟨h.1, (d0c h.2).1⟩, (d0c h.2).2⟩
section
variable {P : Program} {E : List Nat} {w0 : World} {A : List Nat} {bx : List Box} {fs : List PF} {W : World} {fr : List SV} {o : Oper}
theorem g0y {a b : Nat} (h : Nat.ble a b = true) : a ≤ b := Nat.le_of_ble_eq_true h
theorem f1d (I : BtOk A bx W) {ty : TypeId} {k off : Nat} {x : SV} (h : ldB P bx ty k off = some x) : (Instr.loadAt ty (.pointer (some ⟨lk 0 A k, off, none⟩))).run P W = .ok (x.r A) W := by
 unfold ldB at h
 split at h
 · cases h
 · rename_i hk
   have hb := I k (g0y hk)
   generalize lk bx0 bx k = b at *
   split at h
   · rename_i hr
     split at h
     · rename_i n hn
       split at h
       · rename_i hl
         simp only [Option.some.injEq] at h
         subst h
         simp only [Bool.and_eq_true] at hl
         obtain ⟨hl, h1, h2⟩ := hl
         have hb := hb (g0y h1)
         have hl := Nat.eq_of_beq_eq_true hl
         have hT : e0h P ty n := ⟨by
           unfold rowT at hr
           cases hu : P.underlying ty with
           | none => rw [hu] at hr; cases hr
           | some d => rw [hu] at hr; exact ⟨d, rfl, by simpa using hr⟩, hn⟩
         rw [l1h A h2]
         refine e1y hb hT off (((b.cs.drop off).take n).map (SV.r A)) ?_ (by rw [List.length_map, hl])
         rw [List.length_map, hl]
         show List.take n (List.drop off (b.cs.map (SV.r A))) = _
         rw [← List.map_drop, ← List.map_take]
       · cases h
     · cases h
   · rename_i hr
     split at h
     · rename_i hn
       split at h
       · rename_i ho
         simp only [Option.some.injEq] at h
         subst h
         have ho := g0y ho
         have hb := hb (by omega)
         have hT : d0h P ty := ⟨by
           unfold rowT at hr
           cases hu : P.underlying ty with
           | none => rw [hu] at hr; cases hr
           | some d => rw [hu] at hr; exact ⟨d, rfl, by simpa using hr⟩, hn⟩
         refine s0v hb hT off _ ?_
         unfold Box.row
         rw [d0z]
         simp only [List.getElem?_toArray, List.getElem?_map]
         rw [List.getElem?_eq_getElem (by omega)]
         rfl
       · cases h
     · cases h
   · cases h
theorem o0w (I : BtOk A bx W) {x : SV} (he : eff P bx fr o = .val x) (hc : l0r (l0q P bx fr o A W)) : (execOp (act A fr).eval o).run P W = .ok (.value (x.r A)) W := by
 rw [b0x]
 unfold l0q at hc
 rw [he] at hc
 unfold eff at he
 cases hop : o.op <;> simp only [hop] at he hc <;> first | exact hc.1 | skip
 · simp only [Eff.val.injEq] at he
   subst he
   unfold execOp
   simp only [hop]
   rfl
 · simp only [Eff.val.injEq] at he
   subst he
   unfold execOp
   simp only [hop]
   rfl
 · rename_i c a b
   have hpk : ∀ t, evr A fr c = .bool t → (execOp (evr A fr) o).run P W = .ok (.value (if t then evr A fr a else evr A fr b)) W := fun t ht => by
    unfold execOp
    simp only [hop, ht]
    cases t <;> rfl
   split at he
   · rename_i h
     simp only [Eff.val.injEq] at he
     subst he
     exact hpk true (by unfold evr; rw [h]; rfl)
   · rename_i h
     simp only [Eff.val.injEq] at he
     subst he
     exact hpk false (by unfold evr; rw [h]; rfl)
   · cases he
 · rename_i ty x
   split at he
   · rename_i k off h
     split at he
     · rename_i v hv
       simp only [Eff.val.injEq] at he
       subst he
       have := f1d I hv
       have hx : evr A fr x = .pointer (some ⟨lk 0 A k, off, none⟩) := by unfold evr; rw [h]; rfl
       unfold execOp
       simp only [hop, hx, Sem.run_bind, this, Result.andThen_ok, Sem.run_pure]
     · cases he
   · cases he
 · repeat' split at he
   all_goals cases he
theorem c1r {A B : List Nat} {k : Nat} (h : lk 0 A k = lk 0 B k) (v : Value) : l0p A (some k) v = l0p B (some k) v := by
 cases v with
 | pointer p => cases p with
  | none => rfl
  | some a => show Value.pointer (some ⟨lk 0 A k, a.off, none⟩) = .pointer (some ⟨lk 0 B k, a.off, none⟩); rw [h]
 | slice p n c => cases p with
  | none => rfl
  | some a => show Value.slice (some ⟨lk 0 A k, a.off, none⟩) n c = .slice (some ⟨lk 0 B k, a.off, none⟩) n c; rw [h]
 | _ => rfl
theorem l1m {n : Nat} {x : SV} (h : wfS n x = true) (B : List Nat) (hA : A.length = n) : x.r (A ++ B) = x.r A := by
 have hl : ∀ k, k < n → lk 0 (A ++ B) k = lk 0 A k := fun k hk => by
  rw [d0z, d0z, List.getElem?_append_left (by omega)]
 have : ∀ (ks : List (Option Nat)) (cs : List Value), (ks.all fun k => match k with | some k => Nat.ble (k + 1) n | none => true) = true → e0a (A ++ B) cs ks = e0a A cs ks := fun ks => by
  induction ks with
  | nil => intro cs _; cases cs <;> rfl
  | cons k ks ih =>
   intro cs h
   simp only [List.all_cons, Bool.and_eq_true] at h
   cases cs with
   | nil => rfl
   | cons v cs =>
    have hp : l0p (A ++ B) k v = l0p A k v := by
     cases k with
     | none => rfl
     | some k => exact c1r (hl k (g0y h.1)) v
    unfold e0a
    rw [hp, ih cs h.2]
 cases x with
 | v x => rfl
 | p k off => unfold SV.r; simp only [hl k (g0y h)]
 | s k off n c => unfold SV.r; simp only [hl k (g0y h)]
 | a cs ks =>
  show Value.agg (e0a (A ++ B) cs ks).toArray = .agg (e0a A cs ks).toArray
  rw [this ks cs h]
 | f fn cs ks =>
  show Value.func fn #[] (e0a (A ++ B) cs ks).toArray = .func fn #[] (e0a A cs ks).toArray
  rw [this ks cs h]
theorem n0c {n : Nat} (B : List Nat) (hA : A.length = n) : ∀ {l : List SV}, wfL n l = true → l.map (SV.r (A ++ B)) = l.map (SV.r A)
 | [], _ => rfl
 | x :: l, h => by
  unfold wfL at h
  split at h
  · rename_i hx
    rw [List.map_cons, List.map_cons, l1m hx B hA, n0c B hA h]
  · cases h
theorem l0s {n : Nat} : ∀ {l : List Box}, wfB n l = true → ∀ k, wfL n (lk bx0 l k).cs = true
 | [], _, _ => rfl
 | b :: l, h, k => by
  unfold wfB at h
  split at h
  · rename_i hb
    cases k with
    | zero => exact hb
    | succ k => exact l0s h k
  · cases h
theorem c0u {α : Type} (d : α) {l m : List α} {k : Nat} (h : k < l.length) : lk d (l ++ m) k = lk d l k := by
 rw [d0z, d0z, List.getElem?_append_left h]
theorem d0d {α : Type} (d : α) {l : List α} {a : α} : lk d (l ++ [a]) l.length = a := by
 rw [d0z]; simp
theorem Inv.lay (I : Inv E w0 A bx fs W) (t : TypeId) (cs : List SV) (h1 : wfL bx.length cs = true) (h2 : wfB bx.length bx = true) :
 Inv E w0 (A ++ [W.heap.size]) (bx ++ [⟨t, cs, false⟩]) fs (W.alloc (.cells (cs.map (SV.r A)).toArray t)) := by
 have hb : Below W.heap.size W (W.alloc (.cells (cs.map (SV.r A)).toArray t)) := b0n _ _
 have I' := I.past hb
 have hl : ∀ k, k < bx.length → lk 0 (A ++ [W.heap.size]) k = lk 0 A k ∧ lk bx0 (bx ++ [⟨t, cs, false⟩]) k = lk bx0 bx k := fun k h => ⟨c0u 0 (by rw [I.len]; exact h), c0u bx0 h⟩
 have hn : lk 0 (A ++ [W.heap.size]) bx.length = W.heap.size ∧ lk bx0 (bx ++ [⟨t, cs, false⟩]) bx.length = ⟨t, cs, false⟩ := ⟨by rw [← I.len, d0d], d0d _⟩
 have hF : ∀ a, Fa (A ++ [W.heap.size]) (bx ++ [⟨t, cs, false⟩]) a → Fa A bx a ∨ a = W.heap.size := fun a ⟨k, hk, hr, e⟩ => by
  rw [List.length_append, List.length_singleton] at hk
  by_cases h : k < bx.length
  · rw [(hl k h).2] at hr
    rw [(hl k h).1] at e
    exact .inl ⟨k, h, hr, e⟩
  · obtain rfl : k = bx.length := by omega
    exact .inr (e.trans hn.1)
 refine ⟨I'.bel, fun a ha => ?_, fun i j hi hj hr hne => ?_, by simp [I.len], I.pre.trans (List.prefix_append _ _), fun k hk => ?_, I'.fa, fun a ha => ?_⟩
 · rcases hF a ha with h | rfl
   · exact I.ge a h
   · exact .inl I.bel.size
 · rw [List.length_append, List.length_singleton] at hi hj
   by_cases h : i < bx.length
   · rw [(hl i h).2] at hr
     by_cases h' : j < bx.length
     · rw [(hl i h).1, (hl j h').1]
       exact I.nd i j h h' hr hne
     · obtain rfl : j = bx.length := by omega
       rw [(hl i h).1, hn.1]
       have := (I.bt i h).lt
       omega
   · obtain rfl : i = bx.length := by omega
     have h' : j < bx.length := by omega
     rw [(hl j h').1, hn.1]
     have := (I.bt j h').lt
     omega
 · rw [List.length_append, List.length_singleton] at hk
   by_cases h : k < bx.length
   · rw [(hl k h).1, (hl k h).2]
     have := I'.bt k h
     unfold Box.row at this ⊢
     rw [n0c _ I.len (l0s h2 k)]
     exact this
   · obtain rfl : k = bx.length := by omega
     rw [hn.1, hn.2]
     unfold Box.row
     simp only
     rw [n0c _ I.len h1]
     exact y0l _ _ _
 · rcases hF a ha with h | rfl
   · exact I.far a h
   · exact PF.far_new I.fa
theorem Inv.put (I : Inv E w0 A bx fs W) {k : Nat} (hk : k < bx.length) (hr : (lk bx0 bx k).ro = false) {cs : List SV} {W' : World} (hO : Kp [lk 0 A k] W W') (hB : Bt W' (lk 0 A k) (lk bx0 bx k).t (cs.map (SV.r A)).toArray) :
 Inv E w0 A (setL bx k ⟨(lk bx0 bx k).t, cs, false⟩) fs W' := by
 have hF : Fa A bx (lk 0 A k) := ⟨k, hk, hr, rfl⟩
 have hl : ∀ j, j < bx.length → (lk bx0 (setL bx k ⟨(lk bx0 bx k).t, cs, false⟩) j).ro = (lk bx0 bx j).ro := fun j hj => by
  by_cases h : j = k
  · subst h
    rw [d0z bx0 (setL _ _ _), e0n, List.getElem?_set_self hj, hr]
    rfl
  · rw [d0z bx0 (setL _ _ _), e0n, List.getElem?_set_ne (Ne.symm h), ← d0z]
 have hn : (setL bx k ⟨(lk bx0 bx k).t, cs, false⟩).length = bx.length := by rw [e0n, List.length_set]
 have hFa : ∀ a, Fa A (setL bx k ⟨(lk bx0 bx k).t, cs, false⟩) a → Fa A bx a := fun a ⟨j, hj, hr, e⟩ => by
  rw [hn] at hj
  rw [hl j hj] at hr
  exact ⟨j, hj, hr, e⟩
 refine ⟨⟨hO.os.trans I.bel.os, hO.tape.trans I.bel.tape, hO.output.trans I.bel.output, Nat.le_trans I.bel.size hO.size, fun b hb hE => ?_⟩, fun a ha => I.ge a (hFa a ha), fun i j hi hj hr hne => ?_, by rw [hn]; exact I.len, I.pre, fun j hj => ?_, PF.all_keep hO.size I.fa fun b hb ha => hO.block b hb (by
   rw [List.mem_singleton]
   exact Ne.symm (ha _ (I.far _ hF))), fun a ha => I.far a (hFa a ha)⟩
 · rw [hO.block b (Nat.lt_of_lt_of_le hb I.bel.size) (by
     rw [List.mem_singleton]
     intro e
     subst e
     rcases I.ge _ hF with h | h
     · omega
     · exact hE h)]
   exact I.bel.block b hb hE
 · rw [hn] at hi hj
   rw [hl i hi] at hr
   exact I.nd i j hi hj hr hne
 · rw [hn] at hj
   by_cases h : j = k
   · subst h
     rw [d0z bx0 (setL _ _ _), e0n, List.getElem?_set_self hj]
     exact hB
   · rw [d0z bx0 (setL _ _ _), e0n, List.getElem?_set_ne (Ne.symm h), ← d0z]
     have hb := I.bt j hj
     exact hb.same (hO.block _ hb.lt (by
       rw [List.mem_singleton]
       exact (I.nd k j hk hj hr (Ne.symm h)).symm))
theorem Only.kp {a : Nat} {w w' : World} (h : Only a w w') : Kp [a] w w' := ⟨h.os, h.tape, h.output, by rw [h.size]; exact Nat.le_refl _, fun k _ hk => h.block k (by simpa using hk)⟩
theorem u0u (A : List Nat) : ∀ (l : List SV) (cs : List SV) (off : Nat), ((putC cs off l).map (SV.r A)).toArray = putL (cs.map (SV.r A)).toArray off (l.map (SV.r A))
 | [], _, _ => rfl
 | x :: l, cs, off => by
  unfold putC
  rw [u0u A l, List.map_cons]
  show _ = putL ((cs.map (SV.r A)).toArray.setIfInBounds off (x.r A)) (off + 1) (l.map (SV.r A))
  congr 1
  rw [e0n, List.map_set]
  simp
variable {ops : Array Oper} {Q : Exit → Act → World → Prop} {K : Act → World → Prop}
theorem l1n (I : Inv E w0 A bx fs W) (hw : wnt ops fr o = true) {ty : TypeId} {x y : Operand} {k off : Nat} {cs : List SV} (ho : o.op = .store ty x y) (hx : ev fr x = .p k off) (h : stB P bx ty k off (ev fr y) = some cs)
 (hk : ∀ W', Inv E w0 A (setL bx k ⟨(lk bx0 bx k).t, cs, false⟩) fs W' → K (act A (putO fr o.dst (.v undef))) W') : OpW P ops Q o K (act A fr) W := by
 have hw' : Region.wanted o (yielded ops (act A fr).tmps) = true := by rw [f0x]; exact hw
 have hx' : (act A fr).eval x = .pointer (some ⟨lk 0 A k, off, none⟩) := by rw [b0x]; unfold evr; rw [hx]; rfl
 have hp : ∀ W', Inv E w0 A (setL bx k ⟨(lk bx0 bx k).t, cs, false⟩) fs W' → K ((act A fr).put o.dst undef) W' := fun W' h => by
  rw [show undef = (SV.v undef).r A from rfl, d0j]
  exact hk W' h
 unfold stB at h
 split at h
 · cases h
 · rename_i hkb
   have hkb := g0y hkb
   have hb := I.bt k hkb
   have put := fun hr {W' cs} (h : Only _ _ _) => I.put (k := k) hkb hr (cs := cs) (W' := W') h.kp
   generalize lk bx0 bx k = b at *
   split at h
   · cases h
   rename_i hro
   replace put := fun {W' cs} => put hro (W' := W') (cs := cs)
   split at h
   · rename_i hr
     split at h
     · rename_i l hy
       split at h
       · rename_i n hn
         split at h
         · rename_i hc
           simp only [Bool.and_eq_true] at hc
           obtain ⟨⟨c1, c2⟩, c3⟩ := hc
           simp only [Option.some.injEq] at h
           subst h
           have hT : e0h P ty n := ⟨by
             unfold rowT at hr
             cases hu : P.underlying ty with
             | none => rw [hu] at hr; cases hr
             | some d => rw [hu] at hr; exact ⟨d, rfl, by simpa using hr⟩, hn⟩
           refine y0o o.dst rfl hb hT off (l.map (SV.r A)).toArray _ hw' ho hx' (by rw [b0x]; exact c1q A hy) (by simpa using Nat.eq_of_beq_eq_true c1) (by unfold Box.row; simpa using c2) ?_ rfl fun W' hO hB => hp W' (put hO ?_)
           · rw [List.all_toArray, List.all_map]
             rw [List.all_eq_true] at c3 ⊢
             exact fun x hx => n0s A (c3 x hx)
           · rw [u0u]
             exact hB
         · cases h
       · cases h
     · cases h
   · rename_i hr
     split at h
     · rename_i hn
       split at h
       · cases h
       · cases h
       · rename_i x' hna hna2
         split at h
         · rename_i hc
           simp only [Bool.and_eq_true] at hc
           obtain ⟨c2, c3⟩ := hc
           simp only [Option.some.injEq] at h
           subst h
           have hT : d0h P ty := ⟨by
             unfold rowT at hr
             cases hu : P.underlying ty with
             | none => rw [hu] at hr; cases hr
             | some d => rw [hu] at hr; exact ⟨d, rfl, by simpa using hr⟩, hn⟩
           have h1 : ((ev fr y).r A).cells = #[(ev fr y).r A] := by
            cases hv : ev fr y with
            | v z => cases z with
             | agg cs => exact absurd hv (hna cs)
             | _ => rfl
            | p k off => rfl
            | s k off n c => rfl
            | a cs ks => exact absurd hv (hna2 cs ks)
            | f fn cs ks => rfl
           have h5 : ((ev fr y).r A).oneCell' = true := n0s A c3
           refine g1j o.dst rfl hb hT off ((ev fr y).r A) _ hw' ho hx' (by rw [b0x]; rfl) (by unfold Box.row; simpa using c2) h1 h5 rfl fun W' hO hB => hp W' (put hO ?_)
           have e : ((setL b.cs off (ev fr y)).map (SV.r A)).toArray = (b.row A).setIfInBounds off ((ev fr y).r A) := by
            unfold Box.row
            rw [e0n, List.map_set]
            simp
           rw [e]
           exact hB
         · cases h
     · cases h
   · cases h
theorem f1e (I : Inv E w0 A bx fs W) (hw : wnt ops fr o = true) (hc : l0r (l0q P bx fr o A W)) {fr' : List SV} {bx' : List Box} (ha : aft bx fr o.dst (eff P bx fr o) = some (fr', bx'))
 (hk : ∀ A' W', A <+: A' → Inv E w0 A' bx' fs W' → K (act A' fr') W') : OpW P ops Q o K (act A fr) W := by
 have hw' : Region.wanted o (yielded ops (act A fr).tmps) = true := by rw [f0x]; exact hw
 cases he : eff P bx fr o with
 | stop => rw [he] at ha; cases ha
 | val x =>
  rw [he] at ha
  simp only [aft, Option.some.injEq, Prod.mk.injEq] at ha
  obtain ⟨rfl, rfl⟩ := ha
  refine l0m o.dst rfl (x.r A) hw' (o0w I.ok he hc) ?_
  rw [d0j]
  exact hk A W (List.prefix_refl _) I
 | new t cs n =>
  rw [he] at ha
  unfold aft at ha
  simp only at ha
  split at ha
  · rename_i hc2
    simp only [Bool.and_eq_true] at hc2
    obtain ⟨⟨c1, c2⟩, c3⟩ := hc2
    simp only [Option.some.injEq, Prod.mk.injEq] at ha
    obtain ⟨rfl, rfl⟩ := ha
    have hr : (execOp (evr A fr) o).run P W = .ok (.value ((mkS n 0).r [W.heap.size])) (W.alloc (.cells (cs.map (SV.r A)).toArray t)) := by
     unfold l0q at hc
     rw [he] at hc
     unfold eff at he
     cases hop : o.op <;> simp only [hop] at he hc <;> first | exact hc.1 | skip
     all_goals (repeat' split at he) <;> cases he
    have L := I.lay t cs c2 c3
    have e1 : act (A ++ [W.heap.size]) (putO fr o.dst (mkS n bx.length)) = (act A fr).put o.dst ((mkS n 0).r [W.heap.size]) := by
     have e2 : (mkS n 0).r [W.heap.size] = (mkS n bx.length).r (A ++ [W.heap.size]) := by
      have : lk 0 (A ++ [W.heap.size]) bx.length = W.heap.size := by rw [← I.len, d0d]
      cases n with
      | none => show Value.pointer (some ⟨W.heap.size, 0, none⟩) = .pointer (some ⟨lk 0 (A ++ [W.heap.size]) bx.length, 0, none⟩); rw [this]
      | some n => show Value.slice (some ⟨W.heap.size, 0, none⟩) n n = .slice (some ⟨lk 0 (A ++ [W.heap.size]) bx.length, 0, none⟩) n n; rw [this]
     have e3 : act A fr = act (A ++ [W.heap.size]) fr := by unfold act; rw [n0c _ I.len c1]
     rw [e2, e3, d0j]
    refine ⟨?_⟩
    rw [if_pos hw']
    unfold Oper.wp
    rw [b0x, hr]
    show K ((act A fr).put o.dst ((mkS n 0).r [W.heap.size])) _
    rw [← e1]
    exact hk _ _ (List.prefix_append _ _) L
  · cases ha
 | st k cs =>
  have he0 := he
  rw [he] at ha
  simp only [aft, Option.some.injEq, Prod.mk.injEq] at ha
  obtain ⟨rfl, rfl⟩ := ha
  unfold eff at he
  cases hop : o.op <;> simp only [hop] at he
  case store ty x y =>
   split at he
   · rename_i k' off hx
     split at he
     · rename_i cs' hs
       simp only [Eff.st.injEq] at he
       obtain ⟨rfl, rfl⟩ := he
       exact l1n I hw hop hx hs fun W' I' => hk A W' (List.prefix_refl _) I'
     · cases he
   · cases he
  all_goals (repeat' split at he) <;> cases he
end
inductive Kt where
 | code (c : Code)
 | block (id : Nat)
 | stop (J : Act → World → Prop)
def post (P : Program) (Q : Exit → Act → World → Prop) : List Kt → Exit → Act → World → Prop
 | [] => Q
 | .code c :: ks => Exit.then (fun a w => c.wp P (post P Q ks) a w) (post P Q ks)
 | .block id :: ks => Exit.inBlock id (post P Q ks)
 | .stop J :: ks => Exit.then J (post P Q ks)
inductive Rg where
 | off
 | pl (ops : Array Oper) (l : List Oper)
 | dr (ops : Array Oper) (A0 : List Nat) (m : List (Option Box)) (fuel : Nat) (listed : Array Bool)
 | one (ops : Array Oper) (A0 : List Nat) (m : List (Option Box)) (fuel : Nat) (listed : Array Bool) (i : Nat)
 | ret
structure Cfg where
 fr : List SV
 bx : List Box
 rg : Rg
 ks : List Kt
def unm : Option Box → Box
 | some b => b
 | none => bx0
def SB (A0 : List Nat) (m : List (Option Box)) (w : World) : Prop := BtOk A0 (m.map unm) w
structure PreD (A0 : List Nat) (m : List (Option Box)) (A : List Nat) : Prop where
 pre : A0 <+: A
 le : m.length ≤ A0.length
 wf : wfB A0.length (m.map unm) = true
theorem PreD.on {A0 A A' : List Nat} {m : List (Option Box)} (h : PreD A0 m A) (k : A <+: A') : PreD A0 m A' := ⟨h.pre.trans k, h.le, h.wf⟩
def f1f (P : Program) (Q : Exit → Act → World → Prop) (A : List Nat) (c : Cfg) (W : World) : Prop :=
 match c.rg with
 | .off => post P Q c.ks .normal (act A c.fr) W
 | .pl ops l => WpL P ops (post P Q c.ks) l (act A c.fr) W
 | .dr ops A0 m fuel listed => PreD A0 m A → WpH P ops (post P Q c.ks) (SB A0 m) fuel listed (act A c.fr) W
 | .one ops A0 m fuel listed i => PreD A0 m A → ∃ o, ops[i]? = some o ∧ ∀ K : Act → World → Prop, Shut (∀ a w, SB A0 m w → WpH P ops (post P Q c.ks) (SB A0 m) fuel (listed.setIfInBounds i true) a w → K a w) → OpW P ops (post P Q c.ks) o K (act A c.fr) W
 | .ret => post P Q c.ks .ret (act A c.fr) W
structure G (P : Program) (Q : Exit → Act → World → Prop) (A : List Nat) (c : Cfg) (W : World) : Prop where
 out : f1f P Q A c W
def w0h (id : Nat) : List Kt → Option (List Kt)
 | [] => none
 | .code _ :: ks => w0h id ks
 | .block j :: ks => match Nat.beq id j with | true => some ks | false => w0h id ks
 | .stop _ :: ks => w0h id ks
theorem h0p {P : Program} {Q : Exit → Act → World → Prop} {id : Nat} {a : Act} {w : World} : ∀ {ks ks' : List Kt}, w0h id ks = some ks' → post P Q ks' .normal a w → post P Q ks (.exit id) a w
 | [], _, h, _ => by cases h
 | .code _ :: ks, _, h, k => h0p (ks := ks) h k
 | .stop _ :: ks, _, h, k => h0p (ks := ks) h k
 | .block j :: ks, ks', h, k => by
  unfold w0h at h
  show Exit.inBlock j (post P Q ks) (.exit id) a w
  unfold Exit.inBlock
  split at h
  · rename_i hj
    simp only [Option.some.injEq] at h
    subst h
    simp only
    rw [if_pos (Nat.eq_of_beq_eq_true hj)]
    exact k
  · rename_i hj
    simp only
    rw [if_neg (fun e => by subst e; simp at hj)]
    exact h0p h k
def l1o (d : Option Nat) (o : Oper) : Bool :=
 match d with
 | none => true
 | some d => match o.dst with
  | some x => match Nat.beq d x with | true => false | false => true
  | none => true
def noAt (d : Option Nat) (n : Nat) : Bool :=
 match d with
 | none => true
 | some d => match Nat.beq d n with | true => false | false => true
def l1p (d : Option Nat) : Operand → Bool
 | .tmp t => noAt d (2000000 + t)
 | _ => true
def q0u (P : Program) (d : Option Nat) (c : Cfg) : Option Cfg :=
 match c.rg with
 | .pl _ [] => some ⟨c.fr, c.bx, .off, c.ks⟩
 | .pl ops (o :: l) => match wnt ops c.fr o with
  | false => some ⟨putO c.fr o.dst (.v undef), c.bx, .pl ops l, c.ks⟩
  | true => match l1o d o with
   | true => match aft c.bx c.fr o.dst (eff P c.bx c.fr o) with
    | some (fr, bx) => some ⟨fr, bx, .pl ops l, c.ks⟩
    | none => none
   | false => none
 | .off => match c.ks with
  | .code x :: ks => match x with
   | .skip => some ⟨c.fr, c.bx, .off, ks⟩
   | .label _ => some ⟨c.fr, c.bx, .off, ks⟩
   | .seq a b => some ⟨c.fr, c.bx, .off, .code a :: .code b :: ks⟩
   | .cond x a b => match l1p d x with
    | true => match ev c.fr x with
     | .v (.bool true) => some ⟨c.fr, c.bx, .off, .code a :: ks⟩
     | .v (.bool false) => some ⟨c.fr, c.bx, .off, .code b :: ks⟩
     | _ => none
    | false => none
   | .block id b => match noAt d (1000000 + id) with
    | true => some ⟨c.fr, c.bx, .off, .code b :: .block id :: ks⟩
    | false => none
   | .region id ops false => match noAt d (3000000 + id) with
    | true => some ⟨c.fr, c.bx, .pl ops ops.toList, ks⟩
    | false => none
   | .exit id => match w0h id ks with | some ks => some ⟨c.fr, c.bx, .off, ks⟩ | none => none
   | .ret => some ⟨c.fr, c.bx, .ret, ks⟩
   | _ => none
  | .block _ :: ks => some ⟨c.fr, c.bx, .off, ks⟩
  | _ => none
 | .dr ops _ _ _ listed => match Region.ready .any ops listed with
  | [] => some ⟨c.fr, c.bx, .off, c.ks⟩
  | _ => none
 | _ => none
def g1m (P : Program) (c : Cfg) (A : List Nat) (w : World) : List (Result Next × Result Next) :=
 match c.rg with
 | .pl ops (o :: _) => match wnt ops c.fr o with
  | false => []
  | true => l0q P c.bx c.fr o A w
 | _ => []
section
variable {P : Program} {Q : Exit → Act → World → Prop} {E : List Nat} {w0 : World} {A : List Nat} {fs : List PF} {W : World} {c c' : Cfg} {d : Option Nat}
theorem w0i {id : Nat} {ops : Array Oper} {Q : Exit → Act → World → Prop} {a : Act} {w : World} (h : WpL P ops Q ops.toList a w) : (Code.region id ops false).wp P Q a w := by
 cases ops
 exact b0e h
theorem s0x (I : Inv E w0 A c.bx fs W) (hs : q0u P d c = some c') (hc : l0r (g1m P c A W))
 (h : ∀ A' W', A <+: A' → Inv E w0 A' c'.bx fs W' → G P Q A' c' W') : G P Q A c W := by
 refine ⟨?_⟩
 obtain ⟨fr, bx, rg, ks⟩ := c
 have h0 := fun I => (h A W (List.prefix_refl _) I).out
 cases rg with
 | one => cases hs
 | ret => cases hs
 | dr ops A0 m fuel listed =>
  unfold q0u at hs
  simp only at hs
  split at hs
  · rename_i hr
    simp only [Option.some.injEq] at hs
    subst hs
    intro _
    exact l0n hr (h0 I)
  · cases hs
 | pl ops l =>
  cases l with
  | nil =>
   simp only [q0u, Option.some.injEq] at hs
   subst hs
   exact j1f (h0 I)
  | cons o l =>
   unfold q0u at hs
   unfold g1m at hc
   simp only at hs hc
   split at hs
   · rename_i hw
     simp only [Option.some.injEq] at hs
     subst hs
     refine b0z (g1g o.dst rfl (by rw [f0x]; exact hw) ?_)
     rw [show undef = (SV.v undef).r A from rfl, d0j]
     exact h0 I
   · rename_i hw
     rw [hw] at hc
     split at hs
     · split at hs
       · rename_i fr' bx' ha
         simp only [Option.some.injEq] at hs
         subst hs
         exact b0z (f1e I hw hc ha fun A' W' hA I' => (h A' W' hA I').out)
       · cases hs
     · cases hs
 | off =>
  unfold q0u at hs
  simp only at hs
  split at hs
  · rename_i x ks
    split at hs
    · simp only [Option.some.injEq] at hs
      subst hs
      exact wp_skip (h0 I)
    · simp only [Option.some.injEq] at hs
      subst hs
      exact wp_label (h0 I)
    · simp only [Option.some.injEq] at hs
      subst hs
      exact wp_seq (h0 I)
    · rename_i x a b
      split at hs
      · split at hs
        · rename_i hx
          simp only [Option.some.injEq] at hs
          subst hs
          exact wp_cond_true (by rw [b0x]; unfold evr; rw [hx]; rfl) (h0 I)
        · rename_i hx
          simp only [Option.some.injEq] at hs
          subst hs
          exact wp_cond_false (by rw [b0x]; unfold evr; rw [hx]; rfl) (h0 I)
        · cases hs
      · cases hs
    · split at hs
      · simp only [Option.some.injEq] at hs
        subst hs
        exact wp_block (h0 I)
      · cases hs
    · split at hs
      · simp only [Option.some.injEq] at hs
        subst hs
        exact w0i (h0 I)
      · cases hs
    · split at hs
      · rename_i ks' hk
        simp only [Option.some.injEq] at hs
        subst hs
        exact wp_exit (h0p hk (h0 I))
      · cases hs
    · simp only [Option.some.injEq] at hs
      subst hs
      exact wp_ret (h0 I)
    · cases hs
  · simp only [Option.some.injEq] at hs
    subst hs
    exact h0 I
  · cases hs
def zrun (P : Program) (d : Option Nat) : Nat → Cfg → Cfg
 | 0, c => c
 | n + 1, c => match q0u P d c with
  | some c' => zrun P d n c'
  | none => c
def zms (P : Program) (d : Option Nat) : Nat → Cfg → List Nat → World → List (Result Next × Result Next)
 | 0, _, _, _ => []
 | n + 1, c, A, w => match q0u P d c with
  | some c' => g1m P c A w ++ zms P d n c' A w
  | none => []
theorem j0z : ∀ (n : Nat) {A : List Nat} {W : World} {c : Cfg}, Inv E w0 A c.bx fs W → (∀ A w, l0r (zms P d n c A w)) →
 (∀ A' W', A <+: A' → Inv E w0 A' (zrun P d n c).bx fs W' → G P Q A' (zrun P d n c) W') → G P Q A c W
 | 0, A, W, c, I, _, h => h A W (List.prefix_refl _) I
 | n + 1, A, W, c, I, hm, h => by
  unfold zms at hm
  unfold zrun at h
  cases hs : q0u P d c with
  | none => rw [hs] at h; exact h A W (List.prefix_refl _) I
  | some c' =>
   rw [hs] at h hm
   simp only at h hm
   exact s0x I hs (d0c (hm A W)).1 fun A' W' hA I' => j0z n I' (fun A w => (d0c (hm A w)).2) fun A'' W'' hA' I'' => h A'' W'' (hA.trans hA') I''
end
def rvK {α β : Type} : List α → List α → (List α → β) → β
 | [], r, k => k r
 | a :: l, r, k => rvK l (a :: r) k
def frc {α β : Type} : List α → List α → (List α → β) → β
 | [], r, k => rvK r [] k
 | a :: l, r, k => frc l (a :: r) k
theorem f1g {α β : Type} (k : List α → β) : ∀ (l r : List α), rvK l r k = k (l.reverse ++ r)
 | [], r => rfl
 | a :: l, r => by rw [rvK, f1g k l]; simp
theorem y0u {α β : Type} (k : List α → β) : ∀ (l r : List α), frc l r k = k (r.reverse ++ l)
 | [], r => by rw [frc, f1g]
 | a :: l, r => by rw [frc, y0u k l]; simp
def nrm (c : Cfg) : Cfg := frc c.fr [] fun fr => frc c.bx [] fun bx => ⟨fr, bx, c.rg, c.ks⟩
theorem y0v (c : Cfg) : nrm c = c := by unfold nrm; rw [y0u, y0u]; simp
def zr (P : Program) (d : Option Nat) (c : Cfg) : Cfg := nrm (zrun P d 5000 c)
theorem j1i (P : Program) (d : Option Nat) (c : Cfg) : zr P d c = zrun P d 5000 c := y0v _
def nxt : Rg → Option Oper
 | .pl _ (o :: _) => some o
 | .one ops _ _ _ _ i => ops[i]?
 | _ => none
def s0y : Rg → Array Oper
 | .pl ops _ => ops
 | .one ops _ _ _ _ _ => ops
 | _ => #[]
def rgN : Rg → Rg
 | .pl ops (_ :: l) => .pl ops l
 | .one ops A0 m fuel listed i => .dr ops A0 m fuel (listed.setIfInBounds i true)
 | r => r
def msk : List (Option Box) → List Box → List (Option Box)
 | some _ :: m, b :: bx => some b :: msk m bx
 | none :: m, _ :: bx => none :: msk m bx
 | _, _ => []
def ok1 : Rg → List Box → List (Option Box)
 | .one _ _ m _ _ _, bx => msk m bx
 | _, _ => []
def ok2 : Rg → List (Option Box)
 | .one _ _ m _ _ _ => m
 | _ => []
def putc (c : Cfg) (x : SV) : Cfg := ⟨match nxt c.rg with | some o => putO c.fr o.dst x | none => c.fr, c.bx, rgN c.rg, c.ks⟩
def i0f (P : Program) (c : Cfg) (A : List Nat) (w : World) : Option (Result Next) :=
 match nxt c.rg with
 | some o => match wnt (s0y c.rg) c.fr o with
  | true => some ((execOp (evr A c.fr) o).run P w)
  | false => none
 | none => none
def w0j (P : Program) (c : Cfg) : Option Eff :=
 match nxt c.rg with
 | some o => match wnt (s0y c.rg) c.fr o with
  | true => some (eff P c.bx c.fr o)
  | false => none
 | none => none
def f0y (P : Program) (c : Cfg) (A : List Nat) (w : World) : List (Result Next × Result Next) :=
 match nxt c.rg with
 | some o => l0q P c.bx c.fr o A w
 | none => []
def j1j (c : Cfg) (A : List Nat) : Option (BinOp × Value × Value) :=
 match nxt c.rg with
 | some o => match wnt (s0y c.rg) c.fr o with
  | true => match o.op with
   | .binOp b _ x y _ => some (b, evr A c.fr x, evr A c.fr y)
   | _ => none
  | false => none
 | none => none
section
variable {P : Program} {Q : Exit → Act → World → Prop} {E : List Nat} {w0 : World} {A : List Nat} {fs : List PF} {W : World} {c : Cfg} {o : Oper}
theorem s0z : ∀ {m : List (Option Box)} {bx : List Box}, msk m bx = m → ∀ k, k < m.length → 0 < (lk bx0 (m.map unm) k).cs.length → k < bx.length ∧ lk bx0 (m.map unm) k = lk bx0 bx k
 | [], _, _, _, h, _ => by simp at h
 | some b :: m, [], h, _, _, _ => by simp [msk] at h
 | none :: m, [], h, _, _, _ => by simp [msk] at h
 | some b :: m, b' :: bx, h, k, hk, hc => by
  simp only [msk, List.cons.injEq, Option.some.injEq] at h
  cases k with
  | zero => exact ⟨by simp, h.1.symm⟩
  | succ k =>
   have := s0z h.2 k (by simpa using hk) hc
   exact ⟨by simpa using this.1, this.2⟩
 | none :: m, b' :: bx, h, k, hk, hc => by
  simp only [msk, List.cons.injEq, true_and] at h
  cases k with
  | zero => simp [unm, lk, bx0] at hc
  | succ k =>
   have := s0z h k (by simpa using hk) hc
   exact ⟨by simpa using this.1, this.2⟩
theorem u0v {A A' : List Nat} (h : A <+: A') {k : Nat} (hk : k < A.length) : lk 0 A' k = lk 0 A k := by
 obtain ⟨B, rfl⟩ := h
 exact c0u 0 hk
theorem y0w {A A' : List Nat} (h : A <+: A') {l : List Box} (hw : wfB A.length l = true) (k : Nat) : (lk bx0 l k).row A' = (lk bx0 l k).row A := by
 obtain ⟨B, rfl⟩ := h
 unfold Box.row
 rw [n0c B rfl (l0s hw k)]
theorem c1s {bx : List Box} {A0 : List Nat} {m : List (Option Box)} (I : Inv E w0 A bx fs W) (h : PreD A0 m A) (hm : msk m bx = m) : SB A0 m W := fun k hk hc => by
 rw [List.length_map] at hk
 obtain ⟨k1, k2⟩ := s0z hm k hk hc
 have := I.bt k k1
 rw [← k2, u0v h.pre (by have := h.le; omega), y0w h.pre h.wf] at this
 exact this
theorem G_op (hn : nxt c.rg = some o)
 (h : ∀ K : Act → World → Prop, (∀ A' W' fr' bx', A <+: A' → Inv E w0 A' bx' fs W' → ok1 c.rg bx' = ok2 c.rg → G P Q A' ⟨fr', bx', rgN c.rg, c.ks⟩ W' → K (act A' fr') W') → OpW P (s0y c.rg) (post P Q c.ks) o K (act A c.fr) W) : G P Q A c W := by
 refine ⟨?_⟩
 obtain ⟨fr, bx, rg, ks⟩ := c
 cases rg with
 | off => cases hn
 | ret => cases hn
 | dr => cases hn
 | pl ops l =>
  cases l with
  | nil => cases hn
  | cons o' l =>
   simp only [nxt, Option.some.injEq] at hn
   subst hn
   exact y0n fun K hK => h K fun A' W' fr' bx' _ _ _ g => hK.out _ _ g.out
 | one ops A0 m fuel listed i =>
  intro pre
  exact ⟨o, hn, fun K hK => h K fun A' W' fr' bx' hA I' hm g => hK.out _ _ (c1s I' (pre.on hA) hm) (g.out (pre.on hA))⟩
theorem b0u {d : Option Nat} (I : Inv E w0 A c.bx fs W) (hr : ∀ A w, (zms P d 5000 c A w).map (·.1) = (zms P d 5000 c A w).map (·.2))
 (h : ∀ A W, Inv E w0 A (zr P d c).bx fs W → G P Q A (zr P d c) W) : G P Q A c W :=
 j0z 5000 I (fun A w => f0c (hr A w)) fun A' W' _ I' => by have := h A' W'; rw [j1i] at this; exact this I'
theorem f1h (I : Inv E w0 A c.bx fs W) {f : FuncId} {args : Array Value} {post : Ending → World → Prop} (hc : Calls P f args W post)
 (h : ∀ K : Value → World → Prop, (∀ v W', Below W.heap.size W W' → (Inv E w0 A (putc c (.v v)).bx fs W' → G P Q A (putc c (.v v)) W') → K v W') → ∀ e W', post e W' → ∃ v, e = .returned v ∧ K v W')
 (ho : i0f P c A W = some (.ok (.enter f args) W)) (hm : ok1 c.rg c.bx = ok2 c.rg) : G P Q A c W := by
 unfold i0f at ho
 split at ho
 · rename_i o hn
   split at ho
   · rename_i hw
     refine G_op (E := E) (w0 := w0) (fs := fs) hn fun K hK => g0x o.dst rfl f args (by rw [f0x]; exact hw) (by rw [b0x]; exact Option.some.inj ho) (hc.mono fun e W' hp => ?_)
     refine h (fun v W' => K ((act A c.fr).put o.dst v) W') (fun v W' hb hg => ?_) e W' hp
     have := hg (I.past hb)
     unfold putc at this
     rw [hn] at this
     have := hK A W' _ c.bx (List.prefix_refl _) (I.past hb) hm this
     rw [← d0j] at this
     exact this
   · cases ho
 · cases ho
theorem zg (I : Inv E w0 A c.bx fs W) {f : FuncId} {args : List Nat → World → Array Value} {post : List Nat → World → Ending → World → Prop}
 (hc : ∀ A W, Inv E w0 A (zr P none c).bx fs W → Calls P f (args A W) W (post A W))
 (h : ∀ A V, Inv E w0 A (zr P none c).bx fs V → w0.heap.size ≤ V.heap.size → (∀ v a, Fa A (putc (zr P none c) (.v v)).bx a → Fa A (zr P none c).bx a) → ∀ K : Value → World → Prop, (∀ v W, Below V.heap.size V W → (Inv E w0 A (putc (zr P none c) (.v v)).bx fs W → G P Q A (putc (zr P none c) (.v v)) W) → K v W) → ∀ e W, post A V e W → ∃ v, e = .returned v ∧ K v W)
 (ho : ∀ A w, i0f P (zr P none c) A w = some (.ok (.enter f (args A w)) w) := by intro _ _; kernel_rfl)
 (hr : ∀ A w, (zms P none 5000 c A w).map (·.1) = (zms P none 5000 c A w).map (·.2) := by intro _ _; kernel_rfl)
 (hm : ok1 (zr P none c).rg (zr P none c).bx = ok2 (zr P none c).rg := by kernel_rfl) : G P Q A c W :=
 b0u I hr fun A V I => f1h I (hc A V I) (h A V I I.bel.size fun _ _ h => h) (ho A V) hm
theorem zq (I : Inv E w0 A c.bx fs W) {f : FuncId} {args : List Nat → World → Array Value} {v : Value}
 (hc : ∀ A W, Inv E w0 A (zr P none c).bx fs W → Calls P f (args A W) W fun e w' => e = .returned v ∧ Below W.heap.size W w')
 (h : ∀ A W, Inv E w0 A (putc (zr P none c) (.v v)).bx fs W → G P Q A (putc (zr P none c) (.v v)) W)
 (ho : ∀ A w, i0f P (zr P none c) A w = some (.ok (.enter f (args A w)) w) := by intro _ _; kernel_rfl)
 (hr : ∀ A w, (zms P none 5000 c A w).map (·.1) = (zms P none 5000 c A w).map (·.2) := by intro _ _; kernel_rfl)
 (hm : ok1 (zr P none c).rg (zr P none c).bx = ok2 (zr P none c).rg := by kernel_rfl) : G P Q A c W :=
 zg I hc (fun A _ _ _ _ _ hK _ W hp => ⟨v, hp.1, hK v W hp.2 fun I => h A W I⟩) ho hr hm
theorem zqd (I : Inv E w0 A c.bx fs W) {f : FuncId} {args : List Nat → World → Array Value} {b d : Bool}
 (hc : ∀ A W, Inv E w0 A (zr P none c).bx fs W → Calls P f (args A W) W fun e w' => e = .returned (.bool b) ∧ Below W.heap.size W w') (e : b = d)
 (h : ∀ A W, Inv E w0 A (putc (zr P none c) (.v (.bool d))).bx fs W → G P Q A (putc (zr P none c) (.v (.bool d))) W)
 (ho : ∀ A w, i0f P (zr P none c) A w = some (.ok (.enter f (args A w)) w) := by intro _ _; kernel_rfl)
 (hr : ∀ A w, (zms P none 5000 c A w).map (·.1) = (zms P none 5000 c A w).map (·.2) := by intro _ _; kernel_rfl)
 (hm : ok1 (zr P none c).rg (zr P none c).bx = ok2 (zr P none c).rg := by kernel_rfl) : G P Q A c W :=
 by subst e; exact zq I hc h ho hr hm
def y0x (c : Cfg) (A : List Nat) : Option (Value × Array Value) :=
 match nxt c.rg with
 | some o => match wnt (s0y c.rg) c.fr o with
  | true => match o.op with
   | .call k => match k.callee with
    | .value x => some (evr A c.fr x, k.args.map (evr A c.fr))
    | _ => none
   | _ => none
  | false => none
 | none => none
theorem c1t {f : FuncId} {args : Array Value} (h : y0x c A = some (.func (.func f) #[] #[], args)) (hf : ∀ w, (callFunc f args).run P w = .ok (.enter f args) w) : i0f P c A W = some (.ok (.enter f args) W) := by
 unfold y0x at h
 unfold i0f
 split at h
 · rename_i o hn
   split at h
   · rename_i hw
     split at h
     · rename_i k hk
       split at h
       · rename_i x hx
         simp only [Option.some.injEq, Prod.mk.injEq] at h
         have := hf W
         unfold execOp
         simp only [hk]
         unfold resolve
         simp only [hx, h.1, h.2]
         simp [Deferred.ofValue, invoke, this]
       · cases h
     · cases h
   · cases h
 · cases h
theorem zgf (I : Inv E w0 A c.bx fs W) {f : FuncId} {args : List Nat → World → Array Value} {post : List Nat → World → Ending → World → Prop} (hf : ∀ args w, (callFunc f args).run P w = .ok (.enter f args) w)
 (hc : ∀ A W, Inv E w0 A (zr P none c).bx fs W → Calls P f (args A W) W (post A W))
 (h : ∀ A V, Inv E w0 A (zr P none c).bx fs V → w0.heap.size ≤ V.heap.size → (∀ v a, Fa A (putc (zr P none c) (.v v)).bx a → Fa A (zr P none c).bx a) → ∀ K : Value → World → Prop, (∀ v W, Below V.heap.size V W → (Inv E w0 A (putc (zr P none c) (.v v)).bx fs W → G P Q A (putc (zr P none c) (.v v)) W) → K v W) → ∀ e W, post A V e W → ∃ v, e = .returned v ∧ K v W)
 (ho : ∀ A w, y0x (zr P none c) A = some (.func (.func f) #[] #[], args A w) := by intro _ _; kernel_rfl)
 (hr : ∀ A w, (zms P none 5000 c A w).map (·.1) = (zms P none 5000 c A w).map (·.2) := by intro _ _; kernel_rfl)
 (hm : ok1 (zr P none c).rg (zr P none c).bx = ok2 (zr P none c).rg := by kernel_rfl) : G P Q A c W :=
 b0u I hr fun A V I => f1h I (hc A V I) (h A V I I.bel.size fun _ _ h => h) (c1t (ho A V) (hf _)) hm
def y0y (c : Cfg) (k : Nat) (cs : List SV) (x : SV) : Cfg := ⟨match nxt c.rg with | some o => putO c.fr o.dst x | none => c.fr, setL c.bx k ⟨(lk bx0 c.bx k).t, cs, false⟩, rgN c.rg, c.ks⟩
def wrOk (c : Cfg) (k : Nat) : Bool := Nat.ble (k + 1) c.bx.length && !(lk bx0 c.bx k).ro
theorem j1k (I : Inv E w0 A c.bx fs W) {f : FuncId} {args : Array Value} {post : Ending → World → Prop} (k : Nat) (hc : Calls P f args W post)
 (h : ∀ K : Value → World → Prop, (∀ v cs W', Kp [lk 0 A k] W W' → Bt W' (lk 0 A k) (lk bx0 c.bx k).t (cs.map (SV.r A)).toArray → (Inv E w0 A (y0y c k cs (.v v)).bx fs W' → G P Q A (y0y c k cs (.v v)) W') → K v W') → ∀ e W', post e W' → ∃ v, e = .returned v ∧ K v W')
 (ho : i0f P c A W = some (.ok (.enter f args) W)) (hm : ∀ cs, ok1 c.rg (setL c.bx k ⟨(lk bx0 c.bx k).t, cs, false⟩) = ok2 c.rg) (hk : wrOk c k = true) : G P Q A c W := by
 unfold wrOk at hk
 simp only [Bool.and_eq_true, Bool.not_eq_true'] at hk
 unfold i0f at ho
 split at ho
 · rename_i o hn
   split at ho
   · rename_i hw
     refine G_op (E := E) (w0 := w0) (fs := fs) hn fun K hK => g0x o.dst rfl f args (by rw [f0x]; exact hw) (by rw [b0x]; exact Option.some.inj ho) (hc.mono fun e W' hp => ?_)
     refine h (fun v W' => K ((act A c.fr).put o.dst v) W') (fun v cs W' hO hB hg => ?_) e W' hp
     have I2 := I.put (g0y hk.1) hk.2 hO hB
     have := hg I2
     unfold y0y at this
     rw [hn] at this
     have := hK A W' _ _ (List.prefix_refl _) I2 (hm cs) this
     rw [← d0j] at this
     exact this
   · cases ho
 · cases ho
theorem zge (I : Inv E w0 A c.bx fs W) (k : Nat) (t : TypeId) {f : FuncId} {args : List Nat → World → Array Value} {post : List Nat → World → Ending → World → Prop}
 (hc : ∀ A W, Inv E w0 A (zr P none c).bx fs W → Calls P f (args A W) W (post A W))
 (h : ∀ A V, Inv E w0 A (zr P none c).bx fs V → w0.heap.size ≤ V.heap.size → ∀ K : Value → World → Prop, (∀ v cs W, Kp [lk 0 A k] V W → Bt W (lk 0 A k) t (cs.map (SV.r A)).toArray → (Inv E w0 A (y0y (zr P none c) k cs (.v v)).bx fs W → G P Q A (y0y (zr P none c) k cs (.v v)) W) → K v W) → ∀ e W, post A V e W → ∃ v, e = .returned v ∧ K v W)
 (ho : ∀ A w, i0f P (zr P none c) A w = some (.ok (.enter f (args A w)) w) := by intro _ _; kernel_rfl)
 (hr : ∀ A w, (zms P none 5000 c A w).map (·.1) = (zms P none 5000 c A w).map (·.2) := by intro _ _; kernel_rfl)
 (hm : ∀ cs, ok1 (zr P none c).rg (setL (zr P none c).bx k ⟨(lk bx0 (zr P none c).bx k).t, cs, false⟩) = ok2 (zr P none c).rg := by intro _; kernel_rfl) (hk : wrOk (zr P none c) k = true := by kernel_rfl)
 (ht : (lk bx0 (zr P none c).bx k).t = t := by kernel_rfl) : G P Q A c W :=
 b0u I hr fun A V I => j1k I k (hc A V I) (by rw [ht]; exact h A V I I.bel.size) (ho A V) hm hk
def hdOp (c : Cfg) : Option Oper :=
 match nxt c.rg with
 | some o => match wnt (s0y c.rg) c.fr o with | true => some o | false => none
 | none => none
inductive VO where
 | ix (t : TypeId) (x i : Value)
 | ld (t : TypeId) (x : Value)
 | sl (t : TypeId) (x : Value) (lo hi mx : Option Value)
 | cv (s d : TypeId) (x : Value)
 | sx (t : TypeId) (x i : Value)
 | lk (t : TypeId) (x i : Value) (ok : Bool)
def VO.sem : VO → Sem Value
 | .ix t x i => Instr.indexAt t x i
 | .ld t x => Instr.loadAt t x
 | .sl t x lo hi mx => Instr.sliceAt t x lo hi mx
 | .cv s d x => convert s d x
 | .sx t x i => Instr.index t x i
 | .lk t x i ok => Instr.lookup t x i ok
def voOf (c : Cfg) (A : List Nat) : Option VO :=
 match hdOp c with
 | some o => match o.op with
  | .indexAddr t x i => some (.ix t (evr A c.fr x) (evr A c.fr i))
  | .load t x => some (.ld t (evr A c.fr x))
  | .slice t x lo hi mx => some (.sl t (evr A c.fr x) (lo.map (evr A c.fr)) (hi.map (evr A c.fr)) (mx.map (evr A c.fr)))
  | .convert s d x => some (.cv s d (evr A c.fr x))
  | .index t x i => some (.sx t (evr A c.fr x) (evr A c.fr i))
  | .lookup t x i ok => some (.lk t (evr A c.fr x) (evr A c.fr i) ok)
  | _ => none
 | none => none
theorem zx (I : Inv E w0 A c.bx fs W) (d : Nat) {vo : List Nat → VO} (v : List Nat → Value) (hx : ∀ A W, Inv E w0 A (zr P (some d) c).bx fs W → (vo A).sem.run P W = .ok (v A) W)
 (h : ∀ A W, Inv E w0 A (putc (zr P (some d) c) (.v (v A))).bx fs W → G P Q A (putc (zr P (some d) c) (.v (v A))) W)
 (hv : ∀ A, voOf (zr P (some d) c) A = some (vo A) := by intro _; kernel_rfl)
 (hr : ∀ A w, (zms P (some d) 5000 c A w).map (·.1) = (zms P (some d) 5000 c A w).map (·.2) := by intro _ _; kernel_rfl)
 (hm : ok1 (zr P (some d) c).rg (zr P (some d) c).bx = ok2 (zr P (some d) c).rg := by kernel_rfl) : G P Q A c W :=
 b0u I hr fun A W I => by
  have hv9 := hv A
  have h9 := h A W
  have hx9 := hx A W I
  clear hv h hx hr
  generalize zr P (some d) c = c at *
  unfold voOf hdOp at hv9
  split at hv9
  · rename_i o hn'
    split at hn'
    · rename_i o' hn
      split at hn'
      · rename_i hw
        simp only [Option.some.injEq] at hn'
        subst hn'
        refine G_op (E := E) (w0 := w0) (fs := fs) hn fun K hK => l0m o'.dst rfl (v A) (by rw [f0x]; exact hw) ?_ ?_
        · rw [b0x]
          unfold execOp
          cases hop : o'.op <;> simp only [hop] at hv9 ⊢ <;> first | (cases hv9; done) | (simp only [Option.some.injEq] at hv9; rw [← hv9] at hx9; unfold VO.sem at hx9; simp only [Sem.run_bind, hx9, Result.andThen_ok, Sem.run_pure])
        · have h := h9 I
          unfold putc at h
          rw [hn] at h
          have := hK A W _ c.bx (List.prefix_refl _) I hm h
          rw [show v A = (SV.v (v A)).r A from rfl, d0j]
          exact this
      · cases hn'
    · cases hn'
  · cases hv9
theorem j1l (I : Inv E w0 A c.bx fs W) (x y : SV) (hxy : x.r A = y.r A) (h : Inv E w0 A (putc c y).bx fs W → G P Q A (putc c y) W) (hv : w0j P c = some (.val x)) (hc : ∀ A w, l0r (f0y P c A w)) (hm : ok1 c.rg c.bx = ok2 c.rg) : G P Q A c W := by
 unfold w0j at hv
 split at hv
 · rename_i o hn
   split at hv
   · rename_i hw
     have hv := Option.some.inj hv
     have hc := hc A W
     unfold f0y at hc
     rw [hn] at hc
     replace h := h I
     refine G_op (E := E) (w0 := w0) (fs := fs) hn fun K hK => l0m o.dst rfl (x.r A) (by rw [f0x]; exact hw) (o0w I.ok hv hc) ?_
     unfold putc at h
     rw [hn] at h
     have := hK A W _ c.bx (List.prefix_refl _) I hm h
     rw [hxy, d0j]
     exact this
   · cases hv
 · cases hv
theorem zs (I : Inv E w0 A c.bx fs W) (d : Nat) (x y : SV) (hxy : ∀ A, x.r A = y.r A) (h : ∀ A W, Inv E w0 A (putc (zr P (some d) c) y).bx fs W → G P Q A (putc (zr P (some d) c) y) W)
 (hv : w0j P (zr P (some d) c) = some (.val x) := by kernel_rfl)
 (hc : ∀ A w, (f0y P (zr P (some d) c) A w).map (·.1) = (f0y P (zr P (some d) c) A w).map (·.2) := by intro _ _; kernel_rfl)
 (hr : ∀ A w, (zms P (some d) 5000 c A w).map (·.1) = (zms P (some d) 5000 c A w).map (·.2) := by intro _ _; kernel_rfl)
 (hm : ok1 (zr P (some d) c).rg (zr P (some d) c).bx = ok2 (zr P (some d) c).rg := by kernel_rfl) : G P Q A c W :=
 b0u I hr fun A W I => j1l I x y (hxy A) (h A W) hv (fun A w => f0c (hc A w)) hm
theorem zi (I : Inv E w0 A c.bx fs W) (d : Nat) (k : IntKind) (t e : Int) (hp : k.wrap t = e) (h : ∀ A W, Inv E w0 A (putc (zr P (some d) c) (.v (.int k e))).bx fs W → G P Q A (putc (zr P (some d) c) (.v (.int k e))) W)
 (hv : w0j P (zr P (some d) c) = some (.val (.v (.int k (k.wrap t)))) := by kernel_rfl)
 (hc : ∀ A w, (f0y P (zr P (some d) c) A w).map (·.1) = (f0y P (zr P (some d) c) A w).map (·.2) := by intro _ _; kernel_rfl)
 (hr : ∀ A w, (zms P (some d) 5000 c A w).map (·.1) = (zms P (some d) 5000 c A w).map (·.2) := by intro _ _; kernel_rfl)
 (hm : ok1 (zr P (some d) c).rg (zr P (some d) c).bx = ok2 (zr P (some d) c).rg := by kernel_rfl) : G P Q A c W :=
 zs I d (.v (.int k (k.wrap t))) (.v (.int k e)) (fun _ => by show Value.int k (k.wrap t) = .int k e; rw [hp]) h hv hc hr hm
theorem zb (I : Inv E w0 A c.bx fs W) (d : Nat) (e b : Bool) (hp : e = b) (h : ∀ A W, Inv E w0 A (putc (zr P (some d) c) (.v (.bool b))).bx fs W → G P Q A (putc (zr P (some d) c) (.v (.bool b))) W)
 (hv : w0j P (zr P (some d) c) = some (.val (.v (.bool e))) := by kernel_rfl)
 (hc : ∀ A w, (f0y P (zr P (some d) c) A w).map (·.1) = (f0y P (zr P (some d) c) A w).map (·.2) := by intro _ _; kernel_rfl)
 (hr : ∀ A w, (zms P (some d) 5000 c A w).map (·.1) = (zms P (some d) 5000 c A w).map (·.2) := by intro _ _; kernel_rfl)
 (hm : ok1 (zr P (some d) c).rg (zr P (some d) c).bx = ok2 (zr P (some d) c).rg := by kernel_rfl) : G P Q A c W :=
 zs I d (.v (.bool e)) (.v (.bool b)) (fun _ => by rw [hp]) h hv hc hr hm
theorem zbin (I : Inv E w0 A c.bx fs W) (d : Nat) {b : BinOp} {X Y : List Nat → Value} (v : Value)
 (hx : ∀ A t x y W, (do eqGuard b t x y (X A) (Y A); binOp b t (X A) (Y A) : Sem Value).run P W = .ok v W) (h : ∀ A W, Inv E w0 A (putc (zr P (some d) c) (.v v)).bx fs W → G P Q A (putc (zr P (some d) c) (.v v)) W)
 (hv : ∀ A, j1j (zr P (some d) c) A = some (b, X A, Y A) := by intro _; kernel_rfl)
 (hr : ∀ A w, (zms P (some d) 5000 c A w).map (·.1) = (zms P (some d) 5000 c A w).map (·.2) := by intro _ _; kernel_rfl)
 (hm : ok1 (zr P (some d) c).rg (zr P (some d) c).bx = ok2 (zr P (some d) c).rg := by kernel_rfl) : G P Q A c W :=
 b0u I hr fun A W I => by
  have hv := hv A
  have h := h A W I
  generalize zr P (some d) c = c at *
  unfold j1j at hv
  split at hv
  · rename_i o hn
    split at hv
    · rename_i hw
      split at hv
      · rename_i b' t' x y t2 hop
        simp only [Option.some.injEq, Prod.mk.injEq] at hv
        obtain ⟨rfl, h1, h2⟩ := hv
        refine G_op (E := E) (w0 := w0) (fs := fs) hn fun K hK => l0m o.dst rfl v (by rw [f0x]; exact hw) ?_ ?_
        · rw [b0x]
          unfold execOp
          have := hx A t' x y W
          simp only [hop, h1, h2, Sem.run_bind] at this ⊢
          rw [this]
          rfl
        · unfold putc at h
          rw [hn] at h
          have := hK A W _ c.bx (List.prefix_refl _) I hm h
          rw [show v = (SV.v v).r A from rfl, d0j]
          exact this
      · cases hv
    · cases hv
  · cases hv
end
/-! ### What a function answers -/
def resO (P : Program) (c : Cfg) : List ResultVar → Option (List SV)
 | [] => some []
 | .tmp t :: l => match resO P c l with
  | some r => some (lk (.v undef) c.fr t :: r)
  | none => none
 | .cell a ty :: l => match lk (.v undef) c.fr a with
  | .p k off => match ldB P c.bx ty k off with
   | some x => match resO P c l with
    | some r => some (x :: r)
    | none => none
   | none => none
  | _ => none
def resV (A : List Nat) : Option (List SV) → Option Value
 | some [x] => some (x.r A)
 | some l => some (.tuple (l.map (SV.r A)).toArray)
 | none => none
def j1m (c : Cfg) : Bool :=
 match c.rg with
 | .ret => true
 | .off => match c.ks with
  | [] => true
  | _ => false
 | _ => false
section
variable {P : Program} {fn : Func} {R : Ending → World → Prop} {E : List Nat} {w0 : World} {A : List Nat} {fs : List PF} {W : World} {c : Cfg} {o : Oper}
theorem o0x (I : Inv E w0 A c.bx fs W) : ∀ (rs : List ResultVar) {xs : List SV}, resO P c rs = some xs → (rs.mapM (rvS (act A c.fr).tmps)).run P W = .ok (xs.map (SV.r A)) W
 | [], xs, h => by
  simp only [resO, Option.some.injEq] at h
  subst h
  rfl
 | .tmp t :: l, xs, h => by
  unfold resO at h
  split at h
  · rename_i r hr
    simp only [Option.some.injEq] at h
    subst h
    have ih := o0x I l hr
    rw [List.mapM_cons]
    simp only [rvS, Sem.run_bind, Sem.run_pure, Result.andThen_ok, ih, List.map_cons]
    congr 3
    exact congrFun (b0x A c.fr) (.tmp t)
  · cases h
 | .cell a ty :: l, xs, h => by
  unfold resO at h
  split at h
  · rename_i k off hp
    split at h
    · rename_i x hx
      split at h
      · rename_i r hr
        simp only [Option.some.injEq] at h
        subst h
        have ih := o0x I l hr
        have h2 := f1d (P := P) I.ok hx
        have he : (act A c.fr).tmps.getD a undef = .pointer (some ⟨lk 0 A k, off, none⟩) := by
         have := congrFun (b0x A c.fr) (.tmp a)
         refine this.trans ?_
         show SV.r A (lk (.v undef) c.fr a) = _
         rw [hp]; rfl
        simp only [Instr.loadAt, Instr.sureAddr, Sem.run_bind, Sem.run_pure, Result.andThen_ok] at h2
        rw [List.mapM_cons]
        simp only [rvS, he, asAddr, Sem.run_bind, Sem.run_pure, Result.andThen_ok, h2, ih, List.map_cons]
      · cases h
    · cases h
  · cases h
theorem g1n (I : Inv E w0 A c.bx fs W) {v : Value} (h : resV A (resO P c fn.results.toList) = some v) : (results fn (act A c.fr).tmps).run P W = .ok v W := by
 cases hx : resO P c fn.results.toList with
 | none => rw [hx] at h; cases h
 | some xs =>
  rw [hx] at h
  have := o0x I _ hx
  rw [f0w, ← Array.toArray_toList (xs := fn.results), List.mapM_toArray]
  rw [Sem.run_bind]
  simp only [map_eq_pure_bind, Sem.run_bind, this, Result.andThen_ok, Sem.run_pure]
  congr 1
  match xs, h with
  | [], h => simpa [resV] using h
  | [x], h => simpa [resV] using h
  | x :: y :: l, h => simpa [resV] using h
theorem zret (I : Inv E w0 A c.bx fs W) {v : List Nat → Value} (h : ∀ A W, Inv E w0 A (zr P none c).bx fs W → R (.returned (v A)) W)
 (hv : ∀ A, resV A (resO P (zr P none c) fn.results.toList) = some (v A) := by intro _; kernel_rfl)
 (hr : ∀ A w, (zms P none 5000 c A w).map (·.1) = (zms P none 5000 c A w).map (·.2) := by intro _ _; kernel_rfl)
 (hi : j1m (zr P none c) = true := by kernel_rfl) : G P (bodyPost P fn R) A c W :=
 b0u I hr fun A W I => by
  have hv9 := g1n I (hv A)
  have h9 := h A W I
  clear h hv
  generalize zr P none c = c at *
  refine ⟨?_⟩
  obtain ⟨fr, bx, rg, ks⟩ := c
  cases rg with
  | ret =>
   have : ∀ ks, post P (bodyPost P fn R) ks .ret (act A fr) W := fun ks => by
    induction ks with
    | nil => exact ⟨rfl, _, hv9, h9⟩
    | cons k ks ih => cases k <;> exact ih
   exact this ks
  | off =>
   cases ks with
   | nil => exact ⟨rfl, _, hv9, h9⟩
   | cons => cases hi
  | pl => cases hi
  | dr => cases hi
  | one => cases hi
theorem zrb (I : Inv [] w0 A c.bx fs W) {v : Value}
 (hv : ∀ A, resV A (resO P (zr P none c) fn.results.toList) = some v := by intro _; kernel_rfl)
 (hr : ∀ A w, (zms P none 5000 c A w).map (·.1) = (zms P none 5000 c A w).map (·.2) := by intro _ _; kernel_rfl)
 (hi : j1m (zr P none c) = true := by kernel_rfl) : G P (bodyPost P fn fun en w' => en = .returned v ∧ Below w0.heap.size w0 w') A c W :=
 zret (v := fun _ => v) I (fun _ _ I => ⟨rfl, I.below⟩) hv hr hi
end
/-! ### Drawn regions -/
def g0k (Q : Exit → Act → World → Prop) : Prop := ∀ ch a d v w, Q (.panic ch) (Act.put a d v) w → Q (.panic ch) a w
theorem e0b {P : Program} {fn : Func} {R : Ending → World → Prop} : g0k (bodyPost P fn R) := fun ch a d v w h => by
 cases d <;> exact h
theorem f0z {P : Program} {Q : Exit → Act → World → Prop} (hQ : g0k Q) : ∀ ks, g0k (post P Q ks)
 | [] => hQ
 | .code _ :: ks => fun ch a d v w h => f0z hQ ks ch a d v w h
 | .block _ :: ks => fun ch a d v w h => f0z hQ ks ch a d v w h
 | .stop _ :: ks => fun ch a d v w h => f0z hQ ks ch a d v w h
def memN (k : Nat) : List Nat → Bool
 | [] => false
 | x :: l => match Nat.beq k x with | true => true | false => memN k l
def mkM (ex : List Nat) : Nat → List Box → List (Option Box)
 | _, [] => []
 | k, b :: l => (match memN k ex with | true => none | false => some b) :: mkM ex (k + 1) l
theorem y0z (ex : List Nat) : ∀ (l : List Box) (k : Nat), (mkM ex k l).length = l.length
 | [], _ => rfl
 | _ :: l, k => by simp [mkM, y0z ex l]
theorem t0a (ex : List Nat) : ∀ (l : List Box) (k : Nat), msk (mkM ex k l) l = mkM ex k l
 | [], _ => rfl
 | b :: l, k => by
  unfold mkM
  split
  · simp [msk, t0a ex l]
  · simp [msk, t0a ex l]
def j1n (c : Cfg) : Bool :=
 match c.rg, c.ks with
 | .off, .code (.region _ _ true) :: _ => true
 | _, _ => false
def j1o (ex : List Nat) (c : Cfg) (A : List Nat) : Cfg :=
 match c.rg, c.ks with
 | .off, .code (.region _ ops true) :: ks => ⟨c.fr, c.bx, .dr ops A (mkM ex 0 c.bx) ops.size (Array.replicate ops.size false), ks⟩
 | _, _ => c
def o0y (P : Program) (i : Nat) (c : Cfg) : Cfg :=
 match c.rg with
 | .dr ops A0 m (fuel + 1) listed => match ops[i]? with
  | some o => match wnt ops c.fr o with
   | false => ⟨putO c.fr o.dst (.v undef), c.bx, .dr ops A0 m fuel (listed.setIfInBounds i true), c.ks⟩
   | true => match eff P (m.map unm) c.fr o with
    | .val x => ⟨putO c.fr o.dst x, c.bx, .dr ops A0 m fuel (listed.setIfInBounds i true), c.ks⟩
    | _ => c
  | none => c
 | _ => c
def t0b (P : Program) (i : Nat) (c : Cfg) : Bool :=
 match c.rg with
 | .dr ops _ m (_ + 1) listed => match ops[i]? with
  | some o => match Region.noSelect ops && Region.free .any ops listed i && (Region.ready .any ops listed).contains i with
   | true => match wnt ops c.fr o with
    | false => true
    | true => match eff P (m.map unm) c.fr o with
     | .val _ => true
     | _ => false
   | false => false
  | none => false
 | _ => false
def c0f (P : Program) (i : Nat) (c : Cfg) (A : List Nat) (w : World) : List (Result Next × Result Next) :=
 match c.rg with
 | .dr ops _ m _ _ => match ops[i]? with
  | some o => match wnt ops c.fr o with
   | false => []
   | true => l0q P (m.map unm) c.fr o A w
  | none => []
 | _ => []
def g1o (P : Program) : List Nat → Cfg → Cfg
 | [], c => c
 | i :: is, c => g1o P is (o0y P i c)
def z0a (P : Program) : List Nat → Cfg → Bool
 | [], _ => true
 | i :: is, c => match t0b P i c with | true => z0a P is (o0y P i c) | false => false
def o0z (P : Program) : List Nat → Cfg → List Nat → World → List (Result Next × Result Next)
 | [], _, _, _ => []
 | i :: is, c, A, w => c0f P i c A w ++ o0z P is (o0y P i c) A w
def dk1 : Rg → List Box → List (Option Box)
 | .dr _ _ m _ _, bx => msk m bx
 | _, _ => []
def dk2 : Rg → List (Option Box)
 | .dr _ _ m _ _ => m
 | _ => []
def g1p (c : Cfg) : Prop := dk1 c.rg c.bx = dk2 c.rg
def t0c (c : Cfg) : Option (List Nat) :=
 match c.rg with
 | .dr ops _ _ (_ + 1) listed => some (Region.ready .any ops listed)
 | _ => none
def oneC (i : Nat) (c : Cfg) : Cfg :=
 match c.rg with
 | .dr ops A0 m (fuel + 1) listed => ⟨c.fr, c.bx, .one ops A0 m fuel listed i, c.ks⟩
 | _ => c
section
variable {P : Program} {Q : Exit → Act → World → Prop} {E : List Nat} {w0 : World} {A : List Nat} {fs : List PF} {W : World} {c : Cfg} {o : Oper}
theorem j1p {A0 : List Nat} {m : List (Option Box)} {w : World} (h : PreD A0 m A) (hS : SB A0 m w) : BtOk A (m.map unm) w := fun k hk hc => by
 have := hS k hk hc
 rw [List.length_map] at hk
 rw [u0v h.pre (by have := h.le; omega), y0w h.pre h.wf]
 exact this
theorem t0d (hQ : g0k Q) (I : Inv E w0 A c.bx fs W) (hm : g1p c) (i : Nat) (h : G P Q A (o0y P i c) W) (ho : t0b P i c = true) (hc : ∀ A w, l0r (c0f P i c A w)) : G P Q A c W := by
 refine ⟨?_⟩
 have h := h.out
 obtain ⟨fr, bx, rg, ks⟩ := c
 cases rg with
 | off => cases ho
 | pl => cases ho
 | one => cases ho
 | ret => cases ho
 | dr ops A0 m fuel listed =>
  cases fuel with
  | zero => cases ho
  | succ fuel =>
   unfold t0b at ho
   unfold o0y at h
   unfold c0f at hc
   simp only at ho h hc
   intro pre
   split at ho
   · rename_i o hi
     rw [hi] at h hc
     split at ho
     · rename_i h1
       simp only [Bool.and_eq_true] at h1
       obtain ⟨⟨h1, h2⟩, h3⟩ := h1
       have hS : SB A0 m W := c1s I pre hm
       have hP := fun (x : Value) c a w => f0z (P := P) hQ ks c a o.dst x w
       cases hw : wnt ops fr o with
       | false =>
        simp only [hw] at h
        have h : WpH P ops (post P Q ks) (SB A0 m) fuel (listed.setIfInBounds i true) (act A (putO fr o.dst (.v undef))) W := h pre
        rw [← d0j] at h
        exact j0v i o.dst undef _ hi rfl rfl h1 h2 h3 (hP undef) (.inr ⟨by rw [f0x]; exact hw, rfl⟩) hS h
       | true =>
        simp only [hw] at h ho hc
        split at ho
        · rename_i x hx
          rw [hx] at h
          simp only at h
          have h : WpH P ops (post P Q ks) (SB A0 m) fuel (listed.setIfInBounds i true) (act A (putO fr o.dst x)) W := h pre
          rw [← d0j] at h
          exact j0v i o.dst (x.r A) _ hi rfl rfl h1 h2 h3 (hP _) (.inl ⟨by rw [f0x]; exact hw, fun w' hS' => o0w (j1p pre hS') hx (hc A w')⟩) hS h
        · cases ho
     · cases ho
   · cases ho
theorem z0b (i : Nat) (hm : g1p c) : g1p (o0y P i c) := by
 obtain ⟨fr, bx, rg, ks⟩ := c
 cases rg with
 | dr ops A0 m fuel listed =>
  cases fuel with
  | zero => exact hm
  | succ fuel =>
   unfold o0y
   simp only
   split
   · split
     · exact hm
     · split
       · exact hm
       · exact hm
   · exact hm
 | _ => exact hm
theorem c1u (i : Nat) : (o0y P i c).bx = c.bx := by
 unfold o0y
 repeat' split
 all_goals rfl
theorem zk (is : List Nat) (I : Inv E w0 A c.bx fs W) (h : Inv E w0 A (nrm (g1o P is c)).bx fs W → G P Q A (nrm (g1o P is c)) W) (ho : z0a P is c = true := by kernel_rfl)
 (hc : ∀ A w, (o0z P is c A w).map (·.1) = (o0z P is c A w).map (·.2) := by intro _ _; kernel_rfl) (hm : dk1 c.rg c.bx = dk2 c.rg := by kernel_rfl) (hQ : g0k Q := by exact e0b) : G P Q A c W := by
 rw [y0v] at h
 replace hc := fun A w => f0c (hc A w)
 induction is generalizing c with
 | nil => exact h I
 | cons i is ih =>
  unfold z0a at ho
  split at ho
  · rename_i h1
    refine t0d hQ I hm i (ih (by rw [c1u]; exact I) h ho (z0b i hm) fun A w => (d0c (hc A w)).2) h1 fun A w => (d0c (hc A w)).1
  · cases ho
theorem zd (ex : List Nat) (I : Inv E w0 A c.bx fs W) (h : ∀ A W, Inv E w0 A (j1o ex (zr P none c) A).bx fs W → G P Q A (j1o ex (zr P none c) A) W)
 (hr : ∀ A w, (zms P none 5000 c A w).map (·.1) = (zms P none 5000 c A w).map (·.2) := by intro _ _; kernel_rfl)
 (hd : j1n (zr P none c) = true := by kernel_rfl) (hw : wfB (zr P none c).bx.length ((mkM ex 0 (zr P none c).bx).map unm) = true := by kernel_rfl) (hm : P.follows .mixedOrders = true := by kernel_rfl) : G P Q A c W :=
 b0u I hr fun A W I => by
  have h := h A
  generalize zr P none c = c at *
  refine ⟨?_⟩
  obtain ⟨fr, bx, rg, ks⟩ := c
  cases rg with
  | pl => cases hd
  | dr => cases hd
  | one => cases hd
  | ret => cases hd
  | off =>
   cases ks with
   | nil => cases hd
   | cons k ks =>
    cases k with
    | block => cases hd
    | stop => cases hd
    | code x =>
     cases x with
     | region id ops b =>
      cases b with
      | false => cases hd
      | true =>
       have I2 := I.past (W' := W.drew) (Below.refl _ _).drew
       have hp : PreD A (mkM ex 0 bx) A := ⟨List.prefix_refl _, by rw [y0z, I.len]; exact Nat.le_refl _, by rw [I.len]; exact hw⟩
       have h := (h W.drew I2).out
       exact sxd P _ rfl (c1s I2 hp (t0a ex bx 0)) (h hp) hm
     | _ => cases hd
theorem zor (rs : List Nat) (h : ∀ i ∈ rs, G P Q A (oneC i c) W) (hr : t0c c = some rs) (hne : rs.isEmpty = false) : G P Q A c W := by
 refine ⟨?_⟩
 obtain ⟨fr, bx, rg, ks⟩ := c
 cases rg with
 | off => cases hr
 | pl => cases hr
 | one => cases hr
 | ret => cases hr
 | dr ops A0 m fuel listed =>
  cases fuel with
  | zero => cases hr
  | succ fuel =>
   intro pre
   refine u0s rs (Option.some.inj hr) hne ?_
   clear hr hne
   induction rs with
   | nil => exact y0q
   | cons i rs ih =>
    obtain ⟨o, ho, hk⟩ := (h i (by simp)).out pre
    exact u0t _ ho rfl hk (ih fun j hj => h j (by simp [hj]))
theorem t0e (i : Nat) : (oneC i c).bx = c.bx := by
 unfold oneC
 split <;> rfl
theorem zo (i : Nat) (I : Inv E w0 A c.bx fs W) (h : Inv E w0 A (oneC i c).bx fs W → G P Q A (oneC i c) W) (hr : t0c c = some [i] := by kernel_rfl) : G P Q A c W := zor [i] (fun j hj => by rw [List.mem_singleton] at hj; subst hj; exact h (by rw [t0e]; exact I)) hr rfl
theorem zo2 (i j : Nat) (I : Inv E w0 A c.bx fs W) (h : Inv E w0 A (oneC i c).bx fs W → G P Q A (oneC i c) W) (k : Inv E w0 A (oneC j c).bx fs W → G P Q A (oneC j c) W) (hr : t0c c = some [i, j] := by kernel_rfl) : G P Q A c W :=
 zor [i, j] (fun x hx => by simp only [List.mem_cons, List.not_mem_nil, or_false] at hx; rcases hx with rfl | rfl <;> first | exact h (by rw [t0e]; exact I) | exact k (by rw [t0e]; exact I)) hr rfl
def oneN (P : Program) (c : Cfg) : Cfg :=
 match nxt c.rg with
 | some o => match aft c.bx c.fr o.dst (eff P c.bx c.fr o) with
  | some (fr, bx) => ⟨fr, bx, rgN c.rg, c.ks⟩
  | none => c
 | none => c
def f1i (P : Program) (c : Cfg) : Bool :=
 match nxt c.rg with
 | some o => match wnt (s0y c.rg) c.fr o with
  | true => match aft c.bx c.fr o.dst (eff P c.bx c.fr o) with
   | some _ => true
   | none => false
  | false => false
 | none => false
theorem zn (I : Inv E w0 A c.bx fs W) (h : ∀ A W, Inv E w0 A (nrm (oneN P c)).bx fs W → G P Q A (nrm (oneN P c)) W) (ho : f1i P c = true := by kernel_rfl)
 (hc : ∀ A w, (f0y P c A w).map (·.1) = (f0y P c A w).map (·.2) := by intro _ _; kernel_rfl) (hm : ok1 c.rg (oneN P c).bx = ok2 c.rg := by kernel_rfl) : G P Q A c W := by
 rw [y0v] at h
 have hc := f0c (hc A W)
 unfold f1i at ho
 unfold f0y at hc
 unfold oneN at h hm
 split at ho
 · rename_i o hn
   rw [hn] at h hc hm
   simp only at h hc hm
   split at ho
   · rename_i hw
     split at ho
     · rename_i r ha
       obtain ⟨fr, bx⟩ := r
       rw [ha] at h hm
       simp only at h hm
       exact G_op (E := E) (w0 := w0) (fs := fs) hn fun K hK => f1e I hw hc ha fun A' W' hA I' => hK A' W' _ _ hA I' hm (h A' W' I')
     · cases ho
   · cases ho
 · cases ho
/-! ### Loops, and where ways come together -/
def f1j (c : Cfg) : Option (Code × List Kt) :=
 match c.rg, c.ks with
 | .off, .code (.loop b) :: ks => some (b, ks)
 | _, _ => none
def f1k (c : Cfg) (fr : List SV) (bx : List Box) (J : Act → World → Prop) : Cfg :=
 match f1j c with
 | some (b, ks) => ⟨fr, bx, .off, .code b :: .stop J :: ks⟩
 | none => c
def uOf (c : Cfg) (A : List Nat) : Nat → Value := fun i => (lk (.v undef) c.fr i).r A
def su : Nat → List SV → List SV
 | 0, l => l
 | n + 1, l => .v undef :: su n l
def sw (U : Nat → Value) : Nat → Nat → List SV → List SV
 | _, 0, l => l
 | i, n + 1, l => .v (U i) :: sw U (i + 1) n l
theorem w0k (I : Inv E w0 A c.bx fs W) (L : Nat → List SV → List Box → List PF → Prop) (n0 : Nat) {fr : List Nat → (Nat → Value) → List SV} {bx : List Nat → (Nat → Value) → List Box}
 (h0 : ∀ A W U, Inv E w0 A (bx A U) fs W → ∃ gs, L n0 (fr A U) (bx A U) gs ∧ Inv E w0 A (bx A U) gs W)
 (h : ∀ J n fr bx gs, L n fr bx gs → (∀ n' fr' bx' gs' A W, n' < n → L n' fr' bx' gs' → Inv E w0 A bx' gs' W → J (act A fr') W) → ∀ A W, Inv E w0 A (f1k (zr P none c) fr bx J).bx gs W → G P Q A (f1k (zr P none c) fr bx J) W)
 (hr : ∀ A w, (zms P none 5000 c A w).map (·.1) = (zms P none 5000 c A w).map (·.2) := by intro _ _; kernel_rfl)
 (hf : ∀ A, (zr P none c).fr.map (SV.r A) = (fr A (uOf (zr P none c) A)).map (SV.r A) := by intro _; kernel_rfl)
 (hb : ∀ A, (zr P none c).bx = bx A (uOf (zr P none c) A) := by intro _; kernel_rfl)
 (hl : (f1j (zr P none c)).isSome = true := by kernel_rfl) : G P Q A c W :=
 b0u I hr fun A W I => by
  have h9 := h0 A W (uOf (zr P none c) A) (by rw [← hb A]; exact I)
  have hf := hf A
  clear h0 hb
  generalize zr P none c = c at *
  refine ⟨?_⟩
  obtain ⟨gs, h9, I9⟩ := h9
  obtain ⟨cf, cb, rg, ks⟩ := c
  cases rg with
  | pl => cases hl
  | dr => cases hl
  | one => cases hl
  | ret => cases hl
  | off =>
   cases ks with
   | nil => cases hl
   | cons k ks =>
    cases k with
    | block => cases hl
    | stop => cases hl
    | code b =>
     cases b with
     | loop b =>
      refine wp_loop_ghost (fun n a w => ∃ fr bx gs A, L n fr bx gs ∧ a = act A fr ∧ Inv E w0 A bx gs w) n0 ⟨_, _, gs, A, h9, by unfold act; rw [hf], I9⟩ ?_
      rintro n a w ⟨fr, bx, gs, A, hL, rfl, I⟩
      exact (h (fun a w => ∃ n', n' < n ∧ ∃ fr bx gs A, L n' fr bx gs ∧ a = act A fr ∧ Inv E w0 A bx gs w) n fr bx gs hL (fun n' fr' bx' gs' A W hn hL I => ⟨n', hn, fr', bx', gs', A, hL, rfl, I⟩) A w I).out
     | _ => cases hl
def f1l (c : Cfg) : Option (Act → World → Prop) :=
 match c.rg, c.ks with
 | .off, .stop J :: _ => some J
 | _, _ => none
theorem b0d (I : Inv E w0 A c.bx fs W) (J : Act → World → Prop) {fr : List Nat → (Nat → Value) → List SV} {bx : List Nat → (Nat → Value) → List Box} (h : ∀ A W U, Inv E w0 A (bx A U) fs W → J (act A (fr A U)) W)
 (hr : ∀ A w, (zms P none 5000 c A w).map (·.1) = (zms P none 5000 c A w).map (·.2) := by intro _ _; kernel_rfl)
 (hf : ∀ A, (zr P none c).fr.map (SV.r A) = (fr A (uOf (zr P none c) A)).map (SV.r A) := by intro _; kernel_rfl)
 (hb : ∀ A, (zr P none c).bx = bx A (uOf (zr P none c) A) := by intro _; kernel_rfl)
 (hs : f1l (zr P none c) = some J := by kernel_rfl) : G P Q A c W :=
 b0u I hr fun A W I => by
  have h := h A W (uOf (zr P none c) A) (by rw [← hb A]; exact I)
  have hf := hf A
  clear hb
  unfold act at h
  rw [← hf] at h
  generalize zr P none c = c at *
  refine ⟨?_⟩
  obtain ⟨cf, cb, rg, ks⟩ := c
  cases rg with
  | pl => cases hs
  | dr => cases hs
  | one => cases hs
  | ret => cases hs
  | off =>
   cases ks with
   | nil => cases hs
   | cons k ks =>
    cases k with
    | block => cases hs
    | code => cases hs
    | stop J' =>
     obtain rfl : J' = J := Option.some.inj hs
     exact h
def cut1 (c : Cfg) (J : Act → World → Prop) : Cfg :=
 match c.ks with
 | k :: ks => ⟨c.fr, c.bx, c.rg, k :: .stop J :: ks⟩
 | [] => c
def cut2 (c : Cfg) (fr : List SV) (bx : List Box) : Cfg :=
 match c.ks with
 | _ :: ks => ⟨fr, bx, .off, ks⟩
 | [] => c
def j1q (c : Cfg) : Bool :=
 match c.rg, c.ks with
 | .off, .code _ :: _ => true
 | _, _ => false
theorem zcut (I : Inv E w0 A c.bx fs W) (d : Option Nat) (L : List SV → List Box → List PF → Prop)
 (h1 : ∀ J, (∀ fr bx gs A W, L fr bx gs → Inv E w0 A bx gs W → J (act A fr) W) → ∀ A W, Inv E w0 A (cut1 (zr P d c) J).bx fs W → G P Q A (cut1 (zr P d c) J) W)
 (h2 : ∀ fr bx gs, L fr bx gs → ∀ A W, Inv E w0 A (cut2 (zr P d c) fr bx).bx gs W → G P Q A (cut2 (zr P d c) fr bx) W)
 (hr : ∀ A w, (zms P d 5000 c A w).map (·.1) = (zms P d 5000 c A w).map (·.2) := by intro _ _; kernel_rfl)
 (hi : j1q (zr P d c) = true := by kernel_rfl) : G P Q A c W :=
 b0u I hr fun A W I => by
  have h1 := fun J hJ => h1 J hJ A W
  have h2 := fun fr bx gs hL A W I => (h2 fr bx gs hL A W I).out
  generalize zr P d c = c at *
  refine ⟨?_⟩
  obtain ⟨cf, cb, rg, ks⟩ := c
  cases rg with
  | pl => cases hi
  | dr => cases hi
  | one => cases hi
  | ret => cases hi
  | off =>
   cases ks with
   | nil => cases hi
   | cons k ks =>
    cases k with
    | block => cases hi
    | stop => cases hi
    | code b =>
     refine wp_mono (h1 (fun a w => ∃ fr bx gs A, L fr bx gs ∧ a = act A fr ∧ Inv E w0 A bx gs w) (fun fr bx gs A W hL I => ⟨fr, bx, gs, A, hL, rfl, I⟩) I).out ?_
     intro e a w hq
     cases e with
     | normal =>
      obtain ⟨fr, bx, gs, A, hL, rfl, I⟩ := hq
      exact h2 fr bx gs hL A w I
     | exit id => exact hq
     | goto l => exact hq
     | ret => exact hq
     | panic ch => exact hq
     | outgrown => exact hq
def l0t (i : Nat) (y : SV) (c : Cfg) : Cfg :=
 match c.rg with
 | .dr ops A0 m (fuel + 1) listed => match ops[i]? with
  | some o => ⟨putO c.fr o.dst y, c.bx, .dr ops A0 m fuel (listed.setIfInBounds i true), c.ks⟩
  | none => c
 | _ => c
def l0u (P : Program) (i : Nat) (c : Cfg) : Option Eff :=
 match c.rg with
 | .dr ops _ m (_ + 1) listed => match ops[i]? with
  | some o => match Region.noSelect ops && Region.free .any ops listed i && (Region.ready .any ops listed).contains i && wnt ops c.fr o with
   | true => some (eff P (m.map unm) c.fr o)
   | false => none
  | none => none
 | _ => none
theorem c1v (i : Nat) (y : SV) : (l0t i y c).bx = c.bx := by
 unfold l0t
 repeat' split
 all_goals rfl
theorem ztk (i : Nat) (I : Inv E w0 A c.bx fs W) (x y : SV) (hxy : ∀ A, x.r A = y.r A) (h : Inv E w0 A (l0t i y c).bx fs W → G P Q A (l0t i y c) W) (hv : l0u P i c = some (.val x) := by kernel_rfl)
 (hc : ∀ A w, (c0f P i c A w).map (·.1) = (c0f P i c A w).map (·.2) := by intro _ _; kernel_rfl) (hm : dk1 c.rg c.bx = dk2 c.rg := by kernel_rfl) (hQ : g0k Q := by exact e0b) : G P Q A c W := by
 refine ⟨?_⟩
 have h := (h (by rw [c1v]; exact I)).out
 replace hc := fun A w => f0c (hc A w)
 obtain ⟨cf, cb, rg, ks⟩ := c
 cases rg with
 | off => cases hv
 | pl => cases hv
 | one => cases hv
 | ret => cases hv
 | dr ops A0 m fuel listed =>
  cases fuel with
  | zero => cases hv
  | succ fuel =>
   unfold l0u at hv
   unfold l0t at h
   unfold c0f at hc
   simp only at hv h hc
   intro pre
   split at hv
   · rename_i o hi
     rw [hi] at h hc
     split at hv
     · rename_i h1
       simp only [Bool.and_eq_true] at h1
       obtain ⟨⟨⟨h1, h2⟩, h3⟩, hw⟩ := h1
       have hS : SB A0 m W := c1s I pre hm
       have hx := Option.some.inj hv
       simp only [hw] at hc
       have h : WpH P ops (post P Q ks) (SB A0 m) fuel (listed.setIfInBounds i true) (act A (putO cf o.dst y)) W := h pre
       rw [← d0j, ← hxy] at h
       exact j0v i o.dst (x.r A) _ hi rfl rfl h1 h2 h3 (fun c a w => f0z (P := P) hQ ks c a o.dst (x.r A) w) (.inl ⟨by rw [f0x]; exact hw, fun w' hS' => o0w (j1p pre hS') hx (hc A w')⟩) hS h
     · cases hv
   · cases hv
theorem zkm (i : Nat) (I : Inv E w0 A c.bx fs W) (k : IntKind) (t e : Int) (hp : t = e) (h : Inv E w0 A (l0t i (.v (.int k e)) c).bx fs W → G P Q A (l0t i (.v (.int k e)) c) W) (hv : l0u P i c = some (.val (.v (.int k t))) := by kernel_rfl)
 (hc : ∀ A w, (c0f P i c A w).map (·.1) = (c0f P i c A w).map (·.2) := by intro _ _; kernel_rfl) (hm : dk1 c.rg c.bx = dk2 c.rg := by kernel_rfl) (hQ : g0k Q := by exact e0b) : G P Q A c W :=
 ztk i I (.v (.int k t)) (.v (.int k e)) (fun _ => by rw [hp]) h hv hc hm hQ
theorem zki (i : Nat) (I : Inv E w0 A c.bx fs W) (k : IntKind) (t e : Int) (hp : k.wrap t = e) (h : Inv E w0 A (l0t i (.v (.int k e)) c).bx fs W → G P Q A (l0t i (.v (.int k e)) c) W) (hv : l0u P i c = some (.val (.v (.int k (k.wrap t)))) := by kernel_rfl)
 (hc : ∀ A w, (c0f P i c A w).map (·.1) = (c0f P i c A w).map (·.2) := by intro _ _; kernel_rfl) (hm : dk1 c.rg c.bx = dk2 c.rg := by kernel_rfl) (hQ : g0k Q := by exact e0b) : G P Q A c W :=
 ztk i I (.v (.int k (k.wrap t))) (.v (.int k e)) (fun _ => by show Value.int k (k.wrap t) = .int k e; rw [hp]) h hv hc hm hQ
theorem zkb (i : Nat) (I : Inv E w0 A c.bx fs W) (e b : Bool) (hp : e = b) (h : Inv E w0 A (l0t i (.v (.bool b)) c).bx fs W → G P Q A (l0t i (.v (.bool b)) c) W) (hv : l0u P i c = some (.val (.v (.bool e))) := by kernel_rfl)
 (hc : ∀ A w, (c0f P i c A w).map (·.1) = (c0f P i c A w).map (·.2) := by intro _ _; kernel_rfl) (hm : dk1 c.rg c.bx = dk2 c.rg := by kernel_rfl) (hQ : g0k Q := by exact e0b) : G P Q A c W :=
 ztk i I (.v (.bool e)) (.v (.bool b)) (fun _ => by rw [hp]) h hv hc hm hQ
end
section walk
variable {P : Program} {ops : Array Oper} {rest : List Oper} {o : Oper} {a : Act} {K : Act → World → Prop} {Q : Exit → Act → World → Prop} {w : World}
end walk
theorem Own.kept {w w' : World} {base : Nat} {k : IntKind} {e : TypeId} {p q : Option Addr} {c : Nat} {xs : List Nat} (h : Own w base k e p c xs) (hg : w.grownBy w' (q.map (·.block))) (hne : q.isSome = true → p.isSome = true → blk q ≠ blk p) : Own w' base k e p c xs := by
 refine h.grown hg fun hp => ?_
 cases q with
 | none => simp
 | some a =>
  have := hne rfl hp
  simp [blk] at this ⊢
  exact fun e => this e.symm
end Go.Slip
namespace Go.Proofs.YtmacohmclpnphaaGreatDoor
open Go.RowKit Go.Slip
end Go.Proofs.YtmacohmclpnphaaGreatDoor
namespace Go.Slip
open Go.RowKit
theorem Rd.pre {w : World} {k : IntKind} {p : Option Addr} {xs ys : List Nat} (h : Rd w k p (xs ++ ys)) : Rd w k p xs := by
 have hl : (xs ++ ys).length = xs.length + ys.length := List.length_append
 refine ⟨fun h0 => h.solid (by omega), fun j hj => ?_⟩
 rw [h.cells j (by omega)]
 unfold dg
 rw [List.getElem?_append_left hj]
theorem l0v {P : Program} {t e : TypeId} (h : P.underlying t = some (.slice e)) : P.elem t = e := by
 unfold Program.elem
 rw [h]
theorem z0c {P : Program} {t e : TypeId} {k : IntKind} {bytes : Nat} (hty : SlTy P t e k bytes) (w : World) : (sizeOf (P.elem t)).run P w = .ok 1 w := by
 obtain ⟨i, hi, -, hs, -⟩ := hty.hi
 rw [l0v hty.ht]
 simp [sizeOf, typeInfo, hi, hs]
theorem g1q {P : Program} {t e : TypeId} {k : IntKind} {bytes : Nat} (hty : SlTy P t e k bytes) : P.underlying t = some (.slice (P.elem t)) := by
 rw [l0v hty.ht]; exact hty.ht
section
variable {P : Program} {ops : Array Oper} {Q : Exit → Act → World → Prop} {a : Act} {w : World} {rest : List Oper} {o : Oper}
theorem p0a {t : TypeId} {x y : Operand} {dst : Option Tmp} {t2 : TypeId} {pos : String} {af : Array Edge} {g : Option (Nat × Bool)} {e : TypeId} {k : IntKind} {bytes : Nat} (hty : SlTy P t e k bytes) {p : Option Addr} {n c m : Nat}
 (hp : g0r p n) (hx : a.eval x = .slice p n c) (hy : a.eval y = .int .i64 (m : Int)) (hm : m < n) : (execOp a.eval ⟨dst, .indexAddr t x y, t2, pos, af, g⟩).run P w = .ok (.value (.pointer (some (at_ p m)))) w := by
 unfold execOp
 simp only [hx, hy, Sem.run_bind, run_indexAt_solid w t p n c .i64 m (g1q hty) hp, if_pos (show (0 : Int) ≤ (m : Int) ∧ (m : Int) < (n : Int) by omega), z0c hty, Result.andThen_ok, Sem.run_pure, Int.toNat_natCast, Nat.mul_one]
theorem k0z {ty : TypeId} {x : Operand} {dst : Option Tmp} {t2 : TypeId} {pos : String} {af : Array Edge} {g : Option (Nat × Bool)} {k : IntKind} {p : Option Addr} {xs : List Nat} (hr : Rd w k p xs) (hT : d0h P ty) {m : Nat} {v : Int}
 (hx : a.eval x = .pointer (some (at_ p m))) (hm : m < xs.length) (hv : ((dg xs m : Nat) : Int) = v) : (execOp a.eval ⟨dst, .load ty x, t2, pos, af, g⟩).run P w = .ok (.value (.int k v)) w := by
 refine s0w hx ?_
 have hl : (load (at_ p m)).run P w = .ok (.int k v) w := by
  have := hr.cells m hm
  rw [hv] at this
  simp [go_sem, this]
 simp only [Instr.loadAt, Instr.sureAddr, Sem.run_bind, Sem.run_pure, Result.andThen_ok, loadVar, c0q hT]
 simpa using hl
end
def b0b (s : ByteArray) : List Nat := s.data.toList.map UInt8.toNat
theorem b0w (s : ByteArray) : (b0b s).length = s.size := by unfold b0b; rw [List.length_map, Array.length_toList]; rfl
theorem w0l (s : ByteArray) (j : Nat) (h : j < s.size) : (s[j]'h).toNat = dg (b0b s) j := by
 rw [b0k (by rw [b0w]; exact h)]
 simp [b0b]; rfl
theorem k0a (s : ByteArray) : ∀ x ∈ b0b s, x < 256 := by
 intro x hx
 obtain ⟨u, _, rfl⟩ := List.mem_map.1 hx
 exact u.toNat_lt
theorem k0v {w : World} {B : Nat} (hB : B ≤ w.heap.size) (e : TypeId) (s : ByteArray) : Below B w (Lib.bytesWorld w e s) := by
 refine ⟨?_, ?_, ?_, by rw [Lib.bytesWorld_size]; omega, fun i hi => Lib.bytesWorld_at_old w e s i (by omega)⟩
 all_goals (unfold Lib.bytesWorld World.freeze; split <;> rfl)
theorem p0b (w : World) (e : TypeId) (s : ByteArray) : Rd (Lib.bytesWorld w e s) .u8 (some ⟨w.heap.size, 0, none⟩) (b0b s) := by
 refine ⟨fun _ => ⟨rfl, rfl⟩, fun j hj => ?_⟩
 have hj2 : j < s.size := by rw [← b0w]; exact hj
 have h := Lib.bytesWorld_cell w e s j hj2
 simp only [at_, Option.getD_some, Nat.zero_add]
 rw [h, b0k hj]
 simp [b0b, List.getD, hj2]
section walk
variable {P : Program} {ops : Array Oper} {rest : List Oper} {o : Oper} {a : Act} {K : Act → World → Prop} {Q : Exit → Act → World → Prop} {w : World}
end walk
structure RdV (w : World) (p : Option Addr) (vs : List Value) : Prop where
 solid : g0r p vs.length
 cells : ∀ j, j < vs.length → w.cell? (at_ p j) = vs[j]?
theorem RdV.nil (w : World) (p : Option Addr) : RdV w p [] := ⟨fun h => by simp at h, fun j hj => by simp at hj⟩
theorem RdV.lt {w : World} {p : Option Addr} {vs : List Value} (h : RdV w p vs) (h0 : 0 < vs.length) : blk p < w.heap.size :=
 World.block_lt_of_cell? w (at_ p 0) (u := vs[0]) (by rw [h.cells 0 h0, List.getElem?_eq_getElem h0])
theorem RdV.same {w w' : World} {p : Option Addr} {vs : List Value} (h : RdV w p vs) (hb : 0 < vs.length → w'.heap[blk p]? = w.heap[blk p]?) : RdV w' p vs :=
 ⟨h.solid, fun j hj => by rw [World.cell?_of_block (w := w) (a := at_ p j) (hb (by omega))]; exact h.cells j hj⟩
theorem RdV.below {w w' : World} {B : Nat} {p : Option Addr} {vs : List Value} (h : RdV w p vs) (hb : Below B w w') (hp : 0 < vs.length → blk p < B) : RdV w' p vs :=
 h.same fun h0 => hb.block _ (hp h0)
theorem RdV.past {w w' : World} {p : Option Addr} {vs : List Value} (h : RdV w p vs) (hb : Below w.heap.size w w') : RdV w' p vs :=
 h.below hb fun h0 => h.lt h0
theorem RdV.drop {w : World} {p : Option Addr} {vs : List Value} (h : RdV w p vs) (n : Nat) : RdV w (p.map (·.add n)) (vs.drop n) := by
 refine ⟨fun h0 => ?_, fun j hj => ?_⟩
 · have h1 := h.solid (by simp at h0; omega)
   refine ⟨by simpa using h1.1, ?_⟩
   rw [o0k p n h1.1]
   unfold Addr.add
   split
   · exact h1.2
   · rfl
 · simp only [List.length_drop] at hj
   have h1 := h.solid (by omega)
   rw [x0n p n j h1.1, h.cells (n + j) (by omega), List.getElem?_drop]
theorem RdV.take {w : World} {p : Option Addr} {vs : List Value} (h : RdV w p vs) (n : Nat) : RdV w p (vs.take n) := by
 refine ⟨h.solid.mono (by simp; omega), fun j hj => ?_⟩
 simp only [List.length_take] at hj
 rw [h.cells j (by omega), List.getElem?_take, if_pos (by omega)]
theorem Rd.v {w : World} {k : IntKind} {p : Option Addr} {xs : List Nat} (h : Rd w k p xs) : RdV w p (xs.map fun x : Nat => Value.int k (x : Int)) := by
 refine ⟨by rw [List.length_map]; exact h.solid, fun j hj => ?_⟩
 rw [List.length_map] at hj
 rw [h.cells j hj, List.getElem?_map]
 simp [hj, b0k]
theorem g1r {w : World} {b : Nat} {t : TypeId} {vs : Array Value} (h : Bt w b t vs) : RdV w (some ⟨b, 0, none⟩) vs.toList := by
 refine ⟨fun _ => ⟨rfl, rfl⟩, fun j hj => ?_⟩
 have := h.bx.cell j
 unfold at_
 simp only [Option.getD_some, Nat.zero_add]
 rw [this]
 simp
def OwnV (w : World) (base : Nat) (e : TypeId) (p : Option Addr) (c : Nat) (vs : List Value) : Prop := w.ownsRow base e 1 (.slice p vs.length c) vs.length vs
theorem Own.v {w : World} {base : Nat} {k : IntKind} {e : TypeId} {p : Option Addr} {c : Nat} {xs : List Nat} (h : Own w base k e p c xs) : OwnV w base e p c (xs.map fun x : Nat => Value.int k (x : Int)) := by
 unfold OwnV
 rw [List.length_map]
 exact h
theorem u0w {w : World} {base : Nat} {k : IntKind} {e : TypeId} {p : Option Addr} {c : Nat} {xs : List Nat} (h : OwnV w base e p c (xs.map fun x : Nat => Value.int k (x : Int))) : Own w base k e p c xs := by
 unfold OwnV at h
 rw [List.length_map] at h
 exact h
theorem OwnV.nil (w : World) (base : Nat) (e : TypeId) : OwnV w base e none 0 [] := World.ownsRow_nil w base e 1
theorem OwnV.form {w : World} {base : Nat} {e : TypeId} {p : Option Addr} {c : Nat} {vs : List Value} (h : OwnV w base e p c vs) :
 (p = none ∧ c = 0 ∧ vs = []) ∨ ∃ g, p = some ⟨g, 0, none⟩ ∧ base ≤ g ∧ g < w.heap.size ∧ vs.length ≤ c ∧ c ≤ maxLen := by
 rcases h.2 with ⟨h1, h2⟩ | ⟨g, cap, cur, hv, hb, hg, hn, hc, _, _⟩
 · left
   simp only [Value.slice.injEq] at h1
   exact ⟨h1.1, h1.2.2, List.eq_nil_of_length_eq_zero h2⟩
 · right
   simp only [Value.slice.injEq] at hv
   obtain ⟨rfl, _, rfl⟩ := hv
   exact ⟨g, rfl, hb, (Array.getElem?_eq_some_iff.1 hg).1, hn, hc⟩
theorem OwnV.mono {w : World} {base b' : Nat} {e : TypeId} {p : Option Addr} {c : Nat} {vs : List Value} (h : OwnV w base e p c vs) (hb : b' ≤ base) : OwnV w b' e p c vs := by
 refine ⟨h.1, ?_⟩
 rcases h.2 with h1 | ⟨g, cap, cur, hv, hbg, r⟩
 · exact .inl h1
 · exact .inr ⟨g, cap, cur, hv, by omega, r⟩
theorem OwnV.le_cap {w : World} {base : Nat} {e : TypeId} {p : Option Addr} {c : Nat} {vs : List Value} (h : OwnV w base e p c vs) : vs.length ≤ c := by
 rcases h.form with ⟨_, rfl, rfl⟩ | ⟨g, _, _, _, h, _⟩
 · simp
 · exact h
theorem OwnV.rd {w : World} {base : Nat} {e : TypeId} {p : Option Addr} {c : Nat} {vs : List Value} (h : OwnV w base e p c vs) : RdV w p vs := by
 rcases h.form with ⟨rfl, _, rfl⟩ | ⟨g, rfl, _⟩
 · exact RdV.nil w none
 · refine ⟨fun _ => ⟨rfl, rfl⟩, fun j hj => ?_⟩
   have h1 := World.ownsRow.cellAt (w := w) (base := base) (e := e) (size := 1) (g := g) (n := vs.length) (cap := c) h j (by omega)
   simp only [at_, Option.getD_some, Nat.zero_add]
   exact h1
theorem OwnV.blk_lt {w : World} {base : Nat} {e : TypeId} {p : Option Addr} {c : Nat} {vs : List Value} (h : OwnV w base e p c vs) (hp : p.isSome = true) : base ≤ blk p ∧ blk p < w.heap.size := by
 rcases h.form with ⟨rfl, _, rfl⟩ | ⟨g, rfl, h1, h2, _⟩
 · simp at hp
 · exact ⟨h1, h2⟩
theorem OwnV.same {w w' : World} {base : Nat} {e : TypeId} {p : Option Addr} {c : Nat} {vs : List Value} (h : OwnV w base e p c vs) (hb : p.isSome = true → w'.heap[blk p]? = w.heap[blk p]?) : OwnV w' base e p c vs := by
 refine ⟨h.1, ?_⟩
 rcases h.2 with h1 | ⟨g, cap, cur, hv, hbg, hg, r⟩
 · exact .inl h1
 · simp only [Value.slice.injEq] at hv
   obtain ⟨rfl, h2, rfl⟩ := hv
   exact .inr ⟨g, c, cur, rfl, hbg, by rw [← hg]; exact hb rfl, r⟩
theorem OwnV.below {w w' : World} {base B : Nat} {e : TypeId} {p : Option Addr} {c : Nat} {vs : List Value} (h : OwnV w base e p c vs) (hb : Below B w w') (hp : p.isSome = true → blk p < B) : OwnV w' base e p c vs :=
 h.same fun h0 => hb.block _ (hp h0)
theorem OwnV.past {w w' : World} {base : Nat} {e : TypeId} {p : Option Addr} {c : Nat} {vs : List Value} (h : OwnV w base e p c vs) (hb : Below w.heap.size w w') : OwnV w' base e p c vs :=
 h.below hb fun h0 => (h.blk_lt h0).2
theorem g1s {w : World} {base : Nat} {e : TypeId} {p : Option Addr} {c : Nat} {vs : List Value} (h : OwnV w base e p c vs) (j : Nat) (hj : j < vs.length) (v : Value) :
 OwnV (w.setCell (at_ p j) v) base e p c (vs.set j v) ∧ w.grownBy (w.setCell (at_ p j) v) (some (blk p)) ∧ base ≤ blk p := by
 rcases h.form with ⟨rfl, _, rfl⟩ | ⟨g, rfl, hb, _⟩
 · simp at hj
 · have h1 := World.ownsRow.stored (w := w) (base := base) (e := e) (size := 1) (g := g) (n := vs.length) (cap := c) h j v
   simp only [at_, Option.getD_some, Nat.zero_add]
   refine ⟨?_, h1.2, hb⟩
   unfold OwnV
   rw [List.length_set]
   exact h1.1
theorem g1t {w : World} {base : Nat} {e : TypeId} {p : Option Addr} {c : Nat} {vs : List Value} (h : OwnV w base e p c vs) (j : Nat) (hj : j < vs.length) : w.frozen? (at_ p j) = false := by
 rcases h.form with ⟨rfl, _, rfl⟩ | ⟨g, rfl, hb, _⟩
 · simp at hj
 · simpa [at_] using World.ownsRow.frozenAt (w := w) (base := base) (e := e) (size := 1) (g := g) (n := vs.length) (cap := c) h j
structure g0l (P : Program) (t e : TypeId) (z : Value) (bytes : Nat) : Prop where
 ht : P.underlying t = some (.slice e)
 hi : ∃ i, P.info? e = some i ∧ i.zero = some z ∧ i.size = 1 ∧ i.bytes = bytes
 hz : z.cells = #[z]
 h1 : z.oneCell' = true
 le : bytes ≤ 16
section walk
variable {P : Program} {ops : Array Oper} {rest : List Oper} {o : Oper} {a : Act} {Q : Exit → Act → World → Prop} {w : World} {K : Act → World → Prop}
theorem g1u (d : Option Tmp) (hd : o.dst = d) (x y : Operand) (t : TypeId) (ho : o.op = .store t x y) {ts : TypeId} {z : Value} {bytes : Nat} (hty : g0l P ts t z bytes)
 (base : Nat) (p : Option Addr) (c : Nat) (vs : List Value) (hown : OwnV w base t p c vs) (j : Nat) (hj : j < vs.length) (v : Value) (hv : v.cells = #[v]) (h5 : v.oneCell' = true)
 (hx : a.eval x = .pointer (some (at_ p j))) (hy : a.eval y = v) (hw : Region.wanted o (yielded ops a.tmps) = true)
 (h : ∀ w', OwnV w' base t p c (vs.set j v) → w.grownBy w' (some (blk p)) → Below base w w' → K (a.put d undef) w') : OpW P ops Q o K a w := by
 subst hd
 obtain ⟨i, hi, hz, hs, hb⟩ := hty.hi
 have h1 := g1s hown j hj v
 have h2 := g1t hown j hj
 have h3 := hown.rd.cells j hj
 rw [List.getElem?_eq_getElem hj] at h3
 refine ⟨?_⟩
 rw [if_pos hw]
 unfold Oper.wp execOp
 simp only [ho, hx, hy, Instr.storeAt, Instr.sureAddr]
 have e1 : (storeVar t (at_ p j) v).run P w = .ok () (w.setCell (at_ p j) v) := by
  have ha : (at_ p j).add 0 = at_ p j := by simp [Addr.add]
  simp [storeVar, sizeOf, typeInfo, hi, hs, hv, storeCells, ha]
  rw [run_store P w _ v _ h5, h3]
  simp [h2]
 simp [e1, Oper.upon]
 have hlt := hown.rd.lt (by omega)
 exact (h _ h1.1 h1.2.1 (b0i h1.2.1 (Nat.le_of_lt (Nat.lt_of_le_of_lt h1.2.2 hlt)) (fun k hk => by cases hk; exact h1.2.2)))
theorem j1r (d : Option Tmp) (hd : o.dst = d) (x y : Operand) (t : TypeId) (ho : o.op = .makeSlice t x y) {e : TypeId} {z : Value} {bytes : Nat} (hty : g0l P t e z bytes) (kl kc : IntKind) (n : Nat)
 (hx : a.eval x = .int kl (n : Int)) (hy : a.eval y = .int kc (n : Int)) (hb : n ≤ 4000000000) (hw : Region.wanted o (yielded ops a.tmps) = true)
 (h : ∀ p' c' w', OwnV w' w.heap.size e p' c' (List.replicate n z) → Below w.heap.size w w' → K (a.put d (.slice p' n c')) w') : OpW P ops Q o K a w := by
 subst hd
 obtain ⟨i, hi, hz, hs, hbt⟩ := hty.hi
 obtain ⟨w', hr, h1, h2⟩ := run_make_full (P := P) w w.heap.size t e i z 1 hty.ht hi hz hs kl kc n (by rw [hbt]; have := Nat.mul_le_mul hty.le hb; omega) (by simp only [maxLen]; omega) (Nat.le_refl _)
 refine ⟨?_⟩
 rw [if_pos hw]
 unfold Oper.wp execOp
 simp only [ho, hx, hy]
 simp only [Sem.run_bind, hr, Result.andThen_ok, Sem.run_pure]
 refine (h _ _ w' ?_ (b0i h2 (Nat.le_refl _) (fun k hk => by cases hk)))
 unfold OwnV
 rw [List.length_replicate]
 have : (madeCells (Value.cells z) (n * 1)).toList = List.replicate n z := by
  rw [Nat.mul_one, hty.hz]; exact toList_madeCells_one _ _
 rw [← this]
 exact h1
theorem q0v (w : World) {t e : TypeId} {z : Value} {bytes : Nat} (hty : g0l P t e z bytes) (ty : TypeId) (base : Nat) (p : Option Addr) (c : Nat) (xs : List Value) (hown : OwnV w base e p c xs)
 (q : Option Addr) (c2 : Nat) (ys : List Value) (hrd : RdV w q ys) (hone : ys.all (·.oneCell') = true) (hb : (xs.length + ys.length) * bytes ≤ 140737488355328) (h63 : xs.length + ys.length ≤ maxLen) (hbase : base ≤ w.heap.size) :
 ∃ p' c' w', (Builtin.append_ #[t, t] ty #[.slice p xs.length c, .slice q ys.length c2]).run P w = .ok (.slice p' (xs.length + ys.length) c') w' ∧ OwnV w' base e p' c' (xs ++ ys) ∧
  w.grownBy w' (p.map (·.block)) := by
 obtain ⟨i, hi, hz, hs, hbt⟩ := hty.hi
 by_cases hq : q = none
 · have h0 : ys = [] := by
    rcases Nat.eq_zero_or_pos ys.length with h | h
    · exact List.eq_nil_of_length_eq_zero h
    · have := (hrd.solid h).1; simp [hq] at this
   subst h0 hq
   refine ⟨p, c, w, ?_, by simpa using hown, ⟨rfl, rfl, rfl, Nat.le_refl _, fun _ _ _ => rfl⟩⟩
   have hle := hown.le_cap
   rcases hown.form with ⟨rfl, rfl, rfl⟩ | ⟨g, rfl, _⟩
   · simp [Builtin.append_, run_underlying hty.ht, sizeOf, typeInfo, hi, Builtin.lenOf, Builtin.firstCells]
   · simp [Builtin.append_, run_underlying hty.ht, sizeOf, typeInfo, hi, Builtin.lenOf, Builtin.firstCells, hle, storeCells]
 · obtain ⟨b, rfl⟩ := Option.ne_none_iff_exists'.1 hq
   have hnews : ∀ j u, ys[j]? = some u → w.cell? (b.add j) = some u := by
    intro j u hu
    have hj : j < ys.length := (List.getElem?_eq_some_iff.1 hu).1
    have h1 := hrd.cells j hj
    have h2 := x0o (some b) ys.length j hrd.solid (by omega)
    simp only [Option.getD_some] at h2
    rw [h2, h1, hu]
   obtain ⟨v', w', hr, ho, hg, hn, hat⟩ := run_append_own_at (P := P) w base t ty e i z 1 bytes hty.ht hi hz hs hbt (by rw [hty.hz]; rfl) (by omega) _ _ _ hown b ys.length c2 ys (by simp) hnews (fun u hu => List.all_eq_true.1 hone u hu) h63 hb hbase
   have hv : ∃ p' c', v' = .slice p' (xs.length + ys.length) c' := by
    rcases ho.2 with ⟨h1, h2⟩ | ⟨g, cap, cur, h1, _⟩
    · exact ⟨none, 0, by rw [h1]; congr 1; omega⟩
    · exact ⟨_, _, h1⟩
   obtain ⟨p', c', rfl⟩ := hv
   refine ⟨p', c', w', hr, ?_, ?_⟩
   · unfold OwnV
     rw [List.length_append]
     exact ho
   · cases p with
     | none => exact hg
     | some a => exact hg
theorem g1v (d : Option Tmp) (hd : o.dst = d) (s x : Operand) (t : TypeId) (ho : o.op = .call { callee := .builtin .append, args := #[s, x], argTypes := #[t, t] })
 {e : TypeId} {z : Value} {bytes : Nat} (hty : g0l P t e z bytes) (base : Nat) (p : Option Addr) (n c : Nat) (xs : List Value) (hown : OwnV w base e p c xs) (hn : n = xs.length)
 (q : Option Addr) (m c2 : Nat) (ys : List Value) (hrd : RdV w q ys) (hm : m = ys.length) (hone : ys.all (·.oneCell') = true) (hs : a.eval s = .slice p n c) (hx : a.eval x = .slice q m c2)
 (hb : xs.length + ys.length ≤ 4000000000) (hbase : base ≤ w.heap.size) (hw : Region.wanted o (yielded ops a.tmps) = true)
 (h : ∀ p' c' w', OwnV w' base e p' c' (xs ++ ys) → Below base w w' → K (a.put d (.slice p' (xs ++ ys).length c')) w') : OpW P ops Q o K a w := by
 subst hn hm hd
 obtain ⟨p', c', w', hr, h1, h2⟩ := q0v (P := P) w hty o.type base p c xs hown q c2 ys hrd hone (by have := Nat.mul_le_mul hb hty.le; omega) (by simp only [maxLen]; omega) hbase
 refine ⟨?_⟩
 rw [if_pos hw]
 unfold Oper.wp execOp
 simp only [ho, resolve, invoke, builtin, Sem.run_bind, Sem.run_pure, Result.andThen_ok, List.map_toArray, List.map_cons, List.map_nil, hs, hx, hr]
 have h4 := h p' c' w' h1 (b0i h2 hbase fun k hk => by
   cases p with
   | none => cases hk
   | some a => have := (hown.blk_lt rfl).1; cases hk; exact this)
 rw [List.length_append] at h4
 exact h4
end walk
structure Wr (w : World) (base : Nat) (k : IntKind) (p : Option Addr) (xs : List Nat) : Prop where
 rd : Rd w k p xs
 fr : ∀ j, j < xs.length → w.frozen? (at_ p j) = false
 from_ : 0 < xs.length → base ≤ blk p
theorem Own.wr {w : World} {base : Nat} {k : IntKind} {e : TypeId} {p : Option Addr} {c : Nat} {xs : List Nat} (h : Own w base k e p c xs) : Wr w base k p xs :=
 ⟨h.rd, fun j hj => f0q h j hj, fun h0 => (h.blk_lt (h.rd.solid h0).1).1⟩
theorem Wr.mono {w : World} {base b' : Nat} {k : IntKind} {p : Option Addr} {xs : List Nat} (h : Wr w base k p xs) (hb : b' ≤ base) : Wr w b' k p xs := ⟨h.rd, h.fr, fun h0 => Nat.le_trans hb (h.from_ h0)⟩
theorem Wr.same {w w' : World} {base : Nat} {k : IntKind} {p : Option Addr} {xs : List Nat} (h : Wr w base k p xs) (hb : 0 < xs.length → w'.heap[blk p]? = w.heap[blk p]?) : Wr w' base k p xs :=
 ⟨h.rd.same hb, fun j hj => by rw [World.frozen?_of_block (w := w) (a := at_ p j) (hb (by omega))]; exact h.fr j hj, h.from_⟩
theorem Wr.past {w w' : World} {base : Nat} {k : IntKind} {p : Option Addr} {xs : List Nat} (h : Wr w base k p xs) (hb : Below w.heap.size w w') : Wr w' base k p xs :=
 h.same fun h0 => hb.block _ (h.rd.lt h0)
theorem Wr.drew {w : World} {base : Nat} {k : IntKind} {p : Option Addr} {xs : List Nat} (h : Wr w base k p xs) : Wr w.drew base k p xs := h.same fun _ => rfl
theorem j1s {p : Option Addr} {i j : Nat} (h : i ≠ j) : at_ p i ≠ at_ p j := by
 unfold at_
 intro e
 simp only [Addr.mk.injEq, true_and, and_true] at e
 omega
theorem Wr.set {w : World} {base : Nat} {k : IntKind} {p : Option Addr} {xs : List Nat} (h : Wr w base k p xs) (j : Nat) (hj : j < xs.length) (n : Nat) :
 Wr (w.setCell (at_ p j) (.int k (n : Int))) base k p (xs.set j n) ∧ w.grownBy (w.setCell (at_ p j) (.int k (n : Int))) (some (blk p)) ∧ base ≤ blk p := by
 refine ⟨⟨⟨by rw [List.length_set]; exact h.rd.solid, fun i hi => ?_⟩, fun i hi => ?_, fun _ => h.from_ (by omega)⟩, ?_, h.from_ (by omega)⟩
 · rw [List.length_set] at hi
   by_cases e : j = i
   · subst e
     rw [World.cell?_setCell_same (h := h.rd.cells j hj)]
     unfold dg
     rw [List.getElem?_set_self hj]
     rfl
   · rw [World.cell?_setCell_other (h := j1s e), h.rd.cells i hi]
     unfold dg
     rw [List.getElem?_set_ne e]
 · rw [List.length_set] at hi
   rw [World.frozen?_setCell]
   exact h.fr i hi
 · refine ⟨rfl, rfl, rfl, by simp [World.setCell], fun b _ hne => ?_⟩
   show (w.heap.modify _ _)[b]? = _
   rw [Array.getElem?_modify, if_neg (fun e => hne (by rw [← e]; rfl))]
theorem p0c (w : World) (e : TypeId) (s : ByteArray) : Wr (Lib.bytesWorld w e s) w.heap.size .u8 (some ⟨w.heap.size, 0, none⟩) (b0b s) := by
 refine ⟨p0b w e s, fun j hj => ?_, fun _ => Nat.le_refl _⟩
 have hj2 : j < s.size := by rw [← b0w]; exact hj
 unfold World.frozen? at_
 simp only [Option.getD_some, Nat.zero_add]
 rw [Lib.bytesWorld_at_new]
 have : s.size ≤ (Lib.bytesCells w e s).size := by
  unfold Lib.bytesCells
  rw [Array.size_append, Array.size_map]
  exact Nat.le_add_right _ _
 simp only [Bool.and_eq_false_iff, decide_eq_false_iff_not]
 left
 omega
section walk
variable {P : Program} {ops : Array Oper} {rest : List Oper} {o : Oper} {a : Act} {K : Act → World → Prop} {Q : Exit → Act → World → Prop} {w : World}
theorem z0d (d : Option Tmp) (hd : o.dst = d) (x : Operand) (src dst : TypeId) (ho : o.op = .convert src dst x) {e : TypeId} (hs : P.underlying src = some .string) (hdt : P.underlying dst = some (.slice e)) (he : P.underlying e = some (.int .u8))
 (s : ByteArray) (hx : a.eval x = .string s) (hw : Region.wanted o (yielded ops a.tmps) = true)
 (h : ∀ p' c' w', Wr w' w.heap.size .u8 p' (b0b s) → Below w.heap.size w w' → K (a.put d (.slice p' s.size c')) w') : OpW P ops Q o K a w := by
 subst hd
 refine ⟨?_⟩
 rw [if_pos hw]
 unfold Oper.wp execOp
 simp only [ho, hx]
 have hr := Lib.run_convert_string_bytes (P := P) w src dst e s hs hdt he
 simp [hr, Oper.upon]
 exact h _ _ _ (p0c w e s) (k0v (Nat.le_refl _) e s)
end walk
section
variable {P : Program} {ops : Array Oper} {Q : Exit → Act → World → Prop} {a : Act} {w : World} {rest : List Oper} {o : Oper}
theorem j1t {x y : Operand} {t ts : TypeId} {k : IntKind} {bytes : Nat} (hty : g0l P ts t (.int k 0) bytes)
 (base : Nat) (p : Option Addr) (c : Nat) (xs : List Nat) (hown : Own w base k t p c xs) (j : Nat) (hj : j < xs.length) (n : Nat)
 (h : ∀ w', Own w' base k t p c (xs.set j n) → Below base w w' → WpL P ops Q rest (a.put none undef) w')
 (hx : a.eval x = .pointer (some (at_ p j)) := by kernel_rfl) (hy : a.eval y = .int k (n : Int) := by kernel_rfl)
 (ho : o.op = .store t x y := by rfl) (hd : o.dst = none := by kernel_rfl) (hw : Region.wanted o (yielded ops a.tmps) = true := by kernel_rfl) : WpL P ops Q (o :: rest) a w :=
 b0z (g1u none hd x y t ho hty base p c _ hown.v j (by rw [List.length_map]; exact hj) (.int k (n : Int)) rfl rfl hx hy hw fun w' h1 _ h2 => h w' (u0w (by rw [List.map_set]; exact h1)) h2)
theorem sapv (d : Nat) {s x : Operand} {t : TypeId} {e : TypeId} {z : Value} {bytes : Nat} (hty : g0l P t e z bytes) (base : Nat) (p : Option Addr) (n c : Nat) (xs : List Value) (hown : OwnV w base e p c xs) (hn : n = xs.length)
 (q : Option Addr) (m c2 : Nat) (ys : List Value) (hrd : RdV w q ys) (hm : m = ys.length) (hone : ys.all (·.oneCell') = true) (hb : xs.length + ys.length ≤ 4000000000) (hbase : base ≤ w.heap.size) (l : Nat) (hl : xs.length + ys.length = l)
 (h : ∀ p' c' w', OwnV w' base e p' c' (xs ++ ys) → Below base w w' → WpL P ops Q rest (a.put (some d) (.slice p' l c')) w')
 (hs : a.eval s = .slice p n c := by kernel_rfl) (hx : a.eval x = .slice q m c2 := by kernel_rfl)
 (ho : o.op = .call { callee := .builtin .append, args := #[s, x], argTypes := #[t, t] } := by rfl) (hd : o.dst = some d := by kernel_rfl)
 (hw : Region.wanted o (yielded ops a.tmps) = true := by kernel_rfl) : WpL P ops Q (o :: rest) a w := by
 subst hl
 rw [← List.length_append] at h
 exact b0z (g1v (some d) hd s x t ho hty base p n c xs hown hn q m c2 ys hrd hm hone hs hx hb hbase hw h)
theorem sby (d : Nat) {x : Operand} {src dst : TypeId} {e : TypeId} (hs : P.underlying src = some .string) (hdt : P.underlying dst = some (.slice e)) (he : P.underlying e = some (.int .u8)) (s : ByteArray)
 (h : ∀ p' c' w', Wr w' w.heap.size .u8 p' (b0b s) → Below w.heap.size w w' → WpL P ops Q rest (a.put (some d) (.slice p' s.size c')) w')
 (hx : a.eval x = .string s := by kernel_rfl)
 (ho : o.op = .convert src dst x := by rfl) (hd : o.dst = some d := by kernel_rfl) (hw : Region.wanted o (yielded ops a.tmps) = true := by kernel_rfl) : WpL P ops Q (o :: rest) a w :=
 b0z (z0d (some d) hd x src dst ho hs hdt he s hx hw h)
end
section
variable {P : Program} {a : Act} {w : World} {dst : Option Tmp} {t2 : TypeId} {pos : String} {af : Array Edge} {g : Option (Nat × Bool)} {x y : Operand}
theorem u0x {src dt e : TypeId} (hs : P.underlying src = some (.slice e)) (he : P.underlying e = some (.int .u8)) (hd : P.underlying dt = some .string) {p : Option Addr} {n c : Nat} {xs : List Nat} (hr : Rd w .u8 p xs) (hn : n = xs.length)
 (hx : a.eval x = .slice p n c) : (execOp a.eval ⟨dst, .convert src dt x, t2, pos, af, g⟩).run P w = .ok (.value (.string (b0q xs))) w := by
 unfold execOp
 simp only [hx]
 simp [l0e (P := P) w src dt e hs he hd p n c xs hr hn]
theorem k0b {P : Program} {t e : TypeId} {z : Value} {bytes : Nat} (hty : g0l P t e z bytes) (w : World) : (sizeOf (P.elem t)).run P w = .ok 1 w := by
 obtain ⟨i, hi, -, hs, -⟩ := hty.hi
 rw [l0v hty.ht]
 simp [sizeOf, typeInfo, hi, hs]
theorem l0a {P : Program} {t e : TypeId} {z : Value} {bytes : Nat} (hty : g0l P t e z bytes) : P.underlying t = some (.slice (P.elem t)) := by
 rw [l0v hty.ht]; exact hty.ht
theorem p0d {t : TypeId} {e : TypeId} {z : Value} {bytes : Nat} (hty : g0l P t e z bytes) {p : Option Addr} {n c m : Nat}
 (hp : g0r p n) (hx : a.eval x = .slice p n c) (hy : a.eval y = .int .i64 (m : Int)) (hm : m < n) : (execOp a.eval ⟨dst, .indexAddr t x y, t2, pos, af, g⟩).run P w = .ok (.value (.pointer (some (at_ p m)))) w := by
 unfold execOp
 simp only [hx, hy, Sem.run_bind, run_indexAt_solid w t p n c .i64 m (l0a hty) hp, if_pos (show (0 : Int) ≤ (m : Int) ∧ (m : Int) < (n : Int) by omega), k0b hty, Result.andThen_ok, Sem.run_pure, Int.toNat_natCast, Nat.mul_one]
theorem u0y {ty : TypeId} {p : Option Addr} {vs : List Value} (hr : RdV w p vs) (hT : d0h P ty) {m : Nat} {v : Value}
 (hx : a.eval x = .pointer (some (at_ p m))) (hv : vs[m]? = some v) : (execOp a.eval ⟨dst, .load ty x, t2, pos, af, g⟩).run P w = .ok (.value v) w := by
 refine s0w hx ?_
 have hm : m < vs.length := (List.getElem?_eq_some_iff.1 hv).1
 have hl : (load (at_ p m)).run P w = .ok v w := by
  have := hr.cells m hm
  rw [hv] at this
  simp [go_sem, this]
 simp only [Instr.loadAt, Instr.sureAddr, Sem.run_bind, Sem.run_pure, Result.andThen_ok, loadVar, c0q hT]
 simpa using hl
theorem c1w {t : TypeId} (ht : P.underlying t = some .string) {s : ByteArray} {m : Nat} {v : Int}
 (hx : a.eval x = .string s) (hy : a.eval y = .int .i64 (m : Int)) (hm : m < s.size) (hv : ((dg (b0b s) m : Nat) : Int) = v) : (execOp a.eval ⟨dst, .index t x y, t2, pos, af, g⟩).run P w = .ok (.value (.int .u8 v)) w := by
 subst hv
 unfold execOp
 simp only [hx, hy]
 rw [Sem.run_bind, run_index_string w t s .i64 (m : Int) ht, dif_pos ⟨by omega, by omega⟩]
 rw [← w0l s m hm]
 rfl
variable {k : IntKind} {X Y : Int} {xT yT : TypeId}
theorem u0z (m : Int) (hx : a.eval x = .int k X) (hy : a.eval y = .int k Y) (hm : bits .and k X Y = m) : (execOp a.eval ⟨dst, .binOp .and xT x y yT, t2, pos, af, g⟩).run P w = .ok (.value (.int k m)) w := by
 unfold execOp
 simp only [hx, hy]
 subst hm
 simp [binOp, eqGuard, intBits_and]
theorem g1w (m : Int) (hx : a.eval x = .int k X) (hy : a.eval y = .int k Y) (hm : bits .or k X Y = m) : (execOp a.eval ⟨dst, .binOp .or xT x y yT, t2, pos, af, g⟩).run P w = .ok (.value (.int k m)) w := by
 unfold execOp
 simp only [hx, hy]
 subst hm
 simp [binOp, eqGuard, intBits_or]
end
theorem Bx.e9 {w : World} {b : Nat} {v0 v1 v2 v3 v4 v5 v6 v7 v8 : Value} (h : Bx w b #[v0, v1, v2, v3, v4, v5, v6, v7, v8]) : w.cell? ⟨b, 0, none⟩ = some v0 ∧ w.cell? ⟨b, 1, none⟩ = some v1 ∧ w.cell? ⟨b, 2, none⟩ = some v2 ∧ w.cell? ⟨b, 3, none⟩ = some v3 ∧ w.cell? ⟨b, 4, none⟩ = some v4 ∧ w.cell? ⟨b, 5, none⟩ = some v5 ∧ w.cell? ⟨b, 6, none⟩ = some v6 ∧ w.cell? ⟨b, 7, none⟩ = some v7 ∧ w.cell? ⟨b, 8, none⟩ = some v8 := ⟨h.c 0 rfl, h.c 1 rfl, h.c 2 rfl, h.c 3 rfl, h.c 4 rfl, h.c 5 rfl, h.c 6 rfl, h.c 7 rfl, h.c 8 rfl⟩
theorem Bx.e11 {w : World} {b : Nat} {v0 v1 v2 v3 v4 v5 v6 v7 v8 v9 v10 : Value} (h : Bx w b #[v0, v1, v2, v3, v4, v5, v6, v7, v8, v9, v10]) : w.cell? ⟨b, 0, none⟩ = some v0 ∧ w.cell? ⟨b, 1, none⟩ = some v1 ∧ w.cell? ⟨b, 2, none⟩ = some v2 ∧ w.cell? ⟨b, 3, none⟩ = some v3 ∧ w.cell? ⟨b, 4, none⟩ = some v4 ∧ w.cell? ⟨b, 5, none⟩ = some v5 ∧ w.cell? ⟨b, 6, none⟩ = some v6 ∧ w.cell? ⟨b, 7, none⟩ = some v7 ∧ w.cell? ⟨b, 8, none⟩ = some v8 ∧ w.cell? ⟨b, 9, none⟩ = some v9 ∧ w.cell? ⟨b, 10, none⟩ = some v10 := ⟨h.c 0 rfl, h.c 1 rfl, h.c 2 rfl, h.c 3 rfl, h.c 4 rfl, h.c 5 rfl, h.c 6 rfl, h.c 7 rfl, h.c 8 rfl, h.c 9 rfl, h.c 10 rfl⟩
theorem Bx.e14 {w : World} {b : Nat} {v0 v1 v2 v3 v4 v5 v6 v7 v8 v9 v10 v11 v12 v13 : Value} (h : Bx w b #[v0, v1, v2, v3, v4, v5, v6, v7, v8, v9, v10, v11, v12, v13]) : w.cell? ⟨b, 0, none⟩ = some v0 ∧ w.cell? ⟨b, 1, none⟩ = some v1 ∧ w.cell? ⟨b, 2, none⟩ = some v2 ∧ w.cell? ⟨b, 3, none⟩ = some v3 ∧ w.cell? ⟨b, 4, none⟩ = some v4 ∧ w.cell? ⟨b, 5, none⟩ = some v5 ∧ w.cell? ⟨b, 6, none⟩ = some v6 ∧ w.cell? ⟨b, 7, none⟩ = some v7 ∧ w.cell? ⟨b, 8, none⟩ = some v8 ∧ w.cell? ⟨b, 9, none⟩ = some v9 ∧ w.cell? ⟨b, 10, none⟩ = some v10 ∧ w.cell? ⟨b, 11, none⟩ = some v11 ∧ w.cell? ⟨b, 12, none⟩ = some v12 ∧ w.cell? ⟨b, 13, none⟩ = some v13 := ⟨h.c 0 rfl, h.c 1 rfl, h.c 2 rfl, h.c 3 rfl, h.c 4 rfl, h.c 5 rfl, h.c 6 rfl, h.c 7 rfl, h.c 8 rfl, h.c 9 rfl, h.c 10 rfl, h.c 11 rfl, h.c 12 rfl, h.c 13 rfl⟩
theorem l0w {x E : Nat} (hx : x < 2 ^ 63) (hE : E ≤ 60) : bits .and .i64 (x : Int) ((2 ^ E - 1 : Nat) : Int) = ((x % 2 ^ E : Nat) : Int) := by
 have p1 : 2 ^ E ≤ 2 ^ 60 := Nat.pow_le_pow_right (by omega) hE
 have h2 : (BitVec.ofInt 64 (x : Int)).toNat = x := by rw [BitVec.ofInt_natCast, BitVec.toNat_ofNat, Nat.mod_eq_of_lt (by omega)]
 have h1 : (BitVec.ofInt 64 ((2 ^ E - 1 : Nat) : Int)).toNat = 2 ^ E - 1 := by rw [BitVec.ofInt_natCast, BitVec.toNat_ofNat, Nat.mod_eq_of_lt (by omega)]
 have key : (BitVec.ofInt 64 (x : Int) &&& BitVec.ofInt 64 ((2 ^ E - 1 : Nat) : Int)).toNat = x % 2 ^ E := by
  rw [BitVec.toNat_and, h2, h1, Nat.and_two_pow_sub_one_eq_mod]
 show IntKind.i64.wrap ((BitVec.ofInt 64 (x : Int) &&& BitVec.ofInt 64 ((2 ^ E - 1 : Nat) : Int)).toNat : Nat) = _
 rw [key]
 have : x % 2 ^ E < 2 ^ E := Nat.mod_lt _ (Nat.pow_pos (by omega))
 exact iwo
theorem w0m {x E : Nat} (hx : x < 2 ^ E) (hE : E ≤ 60) : bits .or .i64 (x : Int) ((2 ^ E : Nat) : Int) = ((2 ^ E + x : Nat) : Int) := by
 have p1 : 2 ^ E ≤ 2 ^ 60 := Nat.pow_le_pow_right (by omega) hE
 have h2 : (BitVec.ofInt 64 (x : Int)).toNat = x := by rw [BitVec.ofInt_natCast, BitVec.toNat_ofNat, Nat.mod_eq_of_lt (by omega)]
 have h1 : (BitVec.ofInt 64 ((2 ^ E : Nat) : Int)).toNat = 2 ^ E := by rw [BitVec.ofInt_natCast, BitVec.toNat_ofNat, Nat.mod_eq_of_lt (by omega)]
 have key : (BitVec.ofInt 64 (x : Int) ||| BitVec.ofInt 64 ((2 ^ E : Nat) : Int)).toNat = 2 ^ E + x := by
  rw [BitVec.toNat_or, h2, h1, Nat.or_comm]
  have := Nat.two_pow_add_eq_or_of_lt hx 1
  rw [Nat.mul_one] at this
  exact this.symm
 show IntKind.i64.wrap ((BitVec.ofInt 64 (x : Int) ||| BitVec.ofInt 64 ((2 ^ E : Nat) : Int)).toNat : Nat) = _
 rw [key]
 exact iwo
theorem p0e {E : Nat} (hE : E ≤ 60) : IntKind.i64.wrap (1 * 2 ^ (min (E : Int).toNat IntKind.i64.bits)) = ((2 ^ E : Nat) : Int) := by
 have p1 : 2 ^ E ≤ 2 ^ 60 := Nat.pow_le_pow_right (by omega) hE
 rw [Int.toNat_natCast, show IntKind.i64.bits = 64 from rfl, Nat.min_eq_left (by omega), Int.one_mul, show ((2 : Int) ^ E) = ((2 ^ E : Nat) : Int) by norm_cast]
 generalize 2 ^ E = T at *
 exact iwo
theorem z0e {x E : Nat} (hE : E ≤ 60) : (x : Int).fdiv (2 ^ (min (E : Int).toNat IntKind.i64.bits)) = ((x / 2 ^ E : Nat) : Int) := by
 rw [Int.toNat_natCast, show IntKind.i64.bits = 64 from rfl, Nat.min_eq_left (by omega), show ((2 : Int) ^ E) = ((2 ^ E : Nat) : Int) by norm_cast, Int.fdiv_eq_ediv_of_nonneg _ (Int.natCast_nonneg _)]
 rfl
def z0f (fn : Func) : Code := match fn.body with | some c => c | none => .skip
def cfg0 (fn : Func) (fr : List SV) (bx : List Box) : Cfg := ⟨fr ++ List.replicate (fn.ntmps - fr.length) (.v undef), bx, .off, [.code (z0f fn)]⟩
theorem a0f {P : Program} {E : List Nat} {w : World} {A : List Nat} {bx : List Box} {fs : List PF} {f : FuncId} {fn : Func} {args : Array Value} {R : Ending → World → Prop} (fr : List SV) (_ : Inv E w A bx fs w) (hf : P.funcs[f]? = some fn)
 (h : G P (bodyPost P fn R) A (cfg0 fn fr bx) w) (hb : fn.body.isSome = true := by kernel_rfl) (ha : fr.map (SV.r A) = args.toList := by kernel_rfl) : Calls P f args w R := by
 have hb2 : fn.body = some (z0f fn) := by
  unfold z0f
  cases h : fn.body with
  | none => rw [h] at hb; cases hb
  | some c => rfl
 refine calls_of_wp hf hb2 ?_
 have hl : fr.length = args.size := by rw [← Array.length_toList, ← ha, List.length_map]
 have e : (⟨args ++ Array.replicate (fn.ntmps - args.size) undef, []⟩ : Act) = act A (cfg0 fn fr bx).fr := by
  unfold act cfg0
  simp only [Act.mk.injEq, and_true]
  rw [List.map_append, ha, List.map_replicate, hl]
  apply Array.toList_inj.1
  simp [SV.r]
 rw [e]
 exact h.out
/-! ### What is handed in -/
def btL (w : World) (A0 : List Nat) : List Nat → List Box → Prop
 | a :: A, b :: bx => Bt w a b.t (b.row A0) ∧ btL w A0 A bx
 | [], [] => True
 | _, _ => False
theorem t0f {w : World} {A0 : List Nat} : ∀ {A : List Nat} {bx : List Box}, btL w A0 A bx → A.length = bx.length ∧ ∀ k, k < bx.length → Bt w (lk 0 A k) (lk bx0 bx k).t ((lk bx0 bx k).row A0)
 | [], [], _ => ⟨rfl, fun _ h => by simp at h⟩
 | a :: A, b :: bx, h => by
  have ih := t0f h.2
  refine ⟨by simp [ih.1], fun k hk => ?_⟩
  cases k with
  | zero => exact h.1
  | succ k => exact ih.2 k (by simpa using hk)
 | [], _ :: _, h => h.elim
 | _ :: _, [], h => h.elim
def c1x : List Box → Bool
 | [] => true
 | b :: l => match b.ro with | true => c1x l | false => false
theorem l0x : ∀ {l : List Box}, c1x l = true → ∀ k, k < l.length → (lk bx0 l k).ro = true
 | [], _, _, h => by simp at h
 | b :: l, h, k, hk => by
  unfold c1x at h
  split at h
  · rename_i hb
    cases k with
    | zero => exact hb
    | succ k => exact l0x h k (by simpa using hk)
  · cases h
theorem Inv.startR (w : World) (A : List Nat) (bx : List Box) (fs : List PF) (hb : btL w A A bx) (hf : PF.all w fs) (hr : c1x bx = true := by kernel_rfl) : Inv [] w A bx fs w := by
 have hF : ∀ a, Fa A bx a → False := fun a ⟨k, hk, h, _⟩ => by rw [l0x hr k hk] at h; cases h
 exact ⟨Kp.refl _ _, fun a h => (hF a h).elim, fun i j hi _ h => (by rw [l0x hr i hi] at h; cases h), (t0f hb).1, List.nil_prefix, (t0f hb).2, hf, fun a h => (hF a h).elim⟩
theorem Inv.startW (w : World) (b : Nat) (t : TypeId) (cs : List SV) (fs : List PF) {row : Array Value} (hb : Bt w b t row) (hf : PF.all w fs) (hfar : PF.far b fs) (hrow : row = (cs.map (SV.r [b])).toArray := by kernel_rfl) : Inv [b] w [b] [⟨t, cs, false⟩] fs w := by
 have hF : ∀ a, Fa [b] [⟨t, cs, false⟩] a → a = b := fun a ⟨k, hk, _, e⟩ => by
  obtain rfl : k = 0 := by simpa using hk
  exact e
 refine ⟨Kp.refl _ _, fun a h => .inr (by rw [hF a h]; simp), fun i j hi hj _ hn => ?_, rfl, List.prefix_refl _, fun k hk => ?_, hf, fun a h => by rw [hF a h]; exact hfar⟩
 · simp at hi hj
   omega
 · obtain rfl : k = 0 := by simpa using hk
   rw [hrow] at hb
   exact hb
/-! ### Facts -/
def ownF (b : Nat) (k : IntKind) (e : TypeId) (p : Option Addr) (c : Nat) (xs : List Nat) : PF :=
 ⟨fun w => Own w b k e p c xs, fun a => p.isSome = true ∧ blk p = a, fun _ _ h hb _ => h.same fun hp => hb _ (h.blk_lt hp).2 ⟨hp, rfl⟩, fun _ _ h hf => hf.2 ▸ (h.blk_lt hf.1).2⟩
def rdF (k : IntKind) (p : Option Addr) (xs : List Nat) : PF :=
 ⟨fun w => Rd w k p xs, fun a => 0 < xs.length ∧ blk p = a, fun _ _ h hb _ => h.same fun hp => hb _ (h.lt hp) ⟨hp, rfl⟩, fun _ _ h hf => hf.2 ▸ h.lt hf.1⟩
def rfF (b : Nat) (p : Option Addr) (c : Nat) (xs : List Nat) : PF :=
 ⟨fun w => Rf w b p c xs, fun a => 0 < xs.length ∧ blk p = a, fun _ _ h hb _ => ⟨h.rd.same fun hp => hb _ (h.rd.lt hp) ⟨hp, rfl⟩, h.cap, h.at_⟩, fun _ _ h hf => hf.2 ▸ h.rd.lt hf.1⟩
def g1x (b : Nat) (e : TypeId) (p : Option Addr) (c : Nat) (vs : List Value) : PF :=
 ⟨fun w => OwnV w b e p c vs, fun a => p.isSome = true ∧ blk p = a, fun _ _ h hb _ => h.same fun hp => hb _ (h.blk_lt hp).2 ⟨hp, rfl⟩, fun _ _ h hf => hf.2 ▸ (h.blk_lt hf.1).2⟩
theorem OwnV.far {w : World} {base : Nat} {e : TypeId} {p : Option Addr} {c : Nat} {xs : List Value} (h : OwnV w base e p c xs) {b : Nat} {t : TypeId} {vs : Array Value} (hX : Bt w b t vs) (hne : Nat.beq t e = false) (hp : p.isSome = true) : blk p ≠ b := by
 rcases h.2 with ⟨h1, h2⟩ | ⟨g, cap, cur, hv, hb, hg, _⟩
 · simp only [Value.slice.injEq] at h1
   rw [h1.1] at hp; cases hp
 · simp only [Value.slice.injEq] at hv
   intro hE
   rw [hv.1] at hE
   have hE2 : g = b := hE
   subst hE2
   have hE3 := hg.symm.trans hX
   simp only [Option.some.injEq, Obj.cells.injEq] at hE3
   rw [hE3.2.1] at hne
   simp at hne
def q0w (e : TypeId) : List Box → Bool
 | [] => true
 | b :: l => match Nat.beq b.t e with | true => false | false => q0w e l
theorem g0z {e : TypeId} : ∀ {l : List Box}, q0w e l = true → ∀ k, k < l.length → Nat.beq (lk bx0 l k).t e = false
 | [], _, _, h => by simp at h
 | b :: l, h, k, hk => by
  unfold q0w at h
  split at h
  · cases h
  · rename_i hb
    cases k with
    | zero => exact hb
    | succ k => exact g0z h k (by simpa using hk)
section
variable {E : List Nat} {w0 : World} {A : List Nat} {bx : List Box} {fs : List PF} {W : World}
def g1y (bx : List Box) (k : Nat) (A : List Nat) : Option (TypeId × Array Value) := match Nat.ble (k + 1) bx.length with | true => some ((lk bx0 bx k).t, (lk bx0 bx k).row A) | false => none
theorem Inv.box (I : Inv E w0 A bx fs W) (k : Nat) (t : TypeId) (vs : Array Value) (h : g1y bx k A = some (t, vs) := by kernel_rfl) : Bt W (lk 0 A k) t vs := by
 unfold g1y at h
 split at h
 · rename_i hk
   simp only [Option.some.injEq, Prod.mk.injEq] at h
   have := I.bt k (g0y hk)
   rw [h.1, h.2] at this
   exact this
 · cases h
theorem Inv.boxE {b : Nat} (I : Inv (b :: E) w0 A bx fs W) (t : TypeId) (vs : Array Value) (h : g1y bx 0 A = some (t, vs) := by kernel_rfl) : Bt W b t vs := by
 have := I.box 0 t vs h
 rw [u0v I.pre (k := 0) (by simp)] at this
 exact this
theorem Inv.geB (I : Inv [] w0 A bx fs W) (k : Nat) (h : Nat.ble (k + 1) bx.length = true := by kernel_rfl) (hr : (lk bx0 bx k).ro = false := by kernel_rfl) : w0.heap.size ≤ lk 0 A k :=
 (I.ge _ ⟨k, g0y h, hr, rfl⟩).resolve_right (by simp)
theorem Inv.own (I : Inv E w0 A bx fs W) {b : Nat} {k : IntKind} {e : TypeId} {p : Option Addr} {c : Nat} {xs : List Nat} (o : Own W b k e p c xs) (hb : w0.heap.size ≤ b := by first | exact Nat.le_refl _ | assumption | omega) (hne : q0w e bx = true := by kernel_rfl) :
 Inv E w0 A bx (ownF w0.heap.size k e p c xs :: fs) W :=
 I.add (ownF w0.heap.size k e p c xs) (o.mono hb) fun a ha hf => by
  obtain ⟨j, hj, _, rfl⟩ := ha
  exact o.far (I.bt j hj) (g0z hne j hj) hf.1 hf.2
theorem Inv.ownv (I : Inv E w0 A bx fs W) {b : Nat} {e : TypeId} {p : Option Addr} {c : Nat} {xs : List Value} (o : OwnV W b e p c xs) (hb : w0.heap.size ≤ b := by first | exact Nat.le_refl _ | assumption | omega) (hne : q0w e bx = true := by kernel_rfl) :
 Inv E w0 A bx (g1x w0.heap.size e p c xs :: fs) W :=
 I.add (g1x w0.heap.size e p c xs) (o.mono hb) fun a ha hf => by
  obtain ⟨j, hj, _, rfl⟩ := ha
  exact o.far (I.bt j hj) (g0z hne j hj) hf.1 hf.2
theorem Inv.ownB (I : Inv E w0 A bx fs W) (B : Nat) {b : Nat} {k : IntKind} {e : TypeId} {p : Option Addr} {c : Nat} {xs : List Nat} (o : Own W b k e p c xs) (hb : B ≤ b := by first | exact Nat.le_refl _ | assumption | omega) (hne : q0w e bx = true := by kernel_rfl) :
 Inv E w0 A bx (ownF B k e p c xs :: fs) W :=
 I.add (ownF B k e p c xs) (o.mono hb) fun a ha hf => by
  obtain ⟨j, hj, _, rfl⟩ := ha
  exact o.far (I.bt j hj) (g0z hne j hj) hf.1 hf.2
def z0g (k : IntKind) : SV → Bool
 | .v (.int k' _) => !(decide (k' = k))
 | _ => true
def v0a (k : IntKind) : List Box → Bool
 | [] => true
 | b :: l => match b.cs.all (z0g k) with | true => v0a k l | false => false
theorem n0t {k : IntKind} : ∀ {l : List Box}, v0a k l = true → ∀ j, j < l.length → (lk bx0 l j).cs.all (z0g k) = true
 | [], _, _, h => by simp at h
 | b :: l, h, j, hj => by
  unfold v0a at h
  split at h
  · rename_i hb
    cases j with
    | zero => exact hb
    | succ j => exact n0t h j (by simpa using hj)
  · cases h
theorem z0h {k : IntKind} (A : List Nat) {l : List SV} (h : l.all (z0g k) = true) : y0m k (l.map (SV.r A)).toArray = true := by
 unfold y0m
 rw [List.all_toArray, List.all_map]
 rw [List.all_eq_true] at h ⊢
 intro x hx
 have := h x hx
 cases x with
 | v x => cases x <;> first | exact this | rfl
 | _ => rfl
theorem Inv.rd (I : Inv E w0 A bx fs W) {k : IntKind} {p : Option Addr} {xs : List Nat} (r : Rd W k p xs) (hne : v0a k bx = true := by kernel_rfl) : Inv E w0 A bx (rdF k p xs :: fs) W :=
 I.add (rdF k p xs) r fun a ha hf => by
  obtain ⟨j, hj, _, rfl⟩ := ha
  exact r.far (I.bt j hj) (z0h A (n0t hne j hj)) hf.1 hf.2
theorem Inv.rf (I : Inv E w0 A bx fs W) {p : Option Addr} {c : Nat} {xs : List Nat} {bx' : List Box} {fs' : List PF} {V : World} (o : Rf W V.heap.size p c xs) (hB : ∀ a, Fa A bx a → Fa A bx' a) (J : Inv E w0 A bx' fs' V) (hb : w0.heap.size ≤ V.heap.size := by first | exact Nat.le_refl _ | assumption | omega) : Inv E w0 A bx (rfF w0.heap.size p c xs :: fs) W :=
 I.add (rfF w0.heap.size p c xs) (o.mono hb) fun a ha hf => by
  have h1 := J.lt a (hB a ha)
  have h2 := o.at_ hf.1
  have h3 := hf.2
  omega
end
section
variable {P : Program} {Q : Exit → Act → World → Prop} {E : List Nat} {w0 : World} {A : List Nat} {fs : List PF} {W : World} {c : Cfg}
theorem zqo (I : Inv E w0 A c.bx fs W) {f : FuncId} {args : List Nat → World → Array Value} {v : Option Addr → Nat → Value} {k : IntKind} {t : TypeId} {xs : List Nat} {b : World → Nat}
 (hc : ∀ A W, Inv E w0 A (zr P none c).bx fs W → Calls P f (args A W) W fun e w' => ∃ p c, e = .returned (v p c) ∧ Own w' (b W) k t p c xs ∧ Below W.heap.size W w')
 (h : ∀ A W p d, Inv E w0 A (putc (zr P none c) (.v (v p d))).bx (ownF w0.heap.size k t p d xs :: fs) W → G P Q A (putc (zr P none c) (.v (v p d))) W)
 (ho : ∀ A w, i0f P (zr P none c) A w = some (.ok (.enter f (args A w)) w) := by intro _ _; kernel_rfl)
 (hr : ∀ A w, (zms P none 5000 c A w).map (·.1) = (zms P none 5000 c A w).map (·.2) := by intro _ _; kernel_rfl)
 (hm : ok1 (zr P none c).rg (zr P none c).bx = ok2 (zr P none c).rg := by kernel_rfl)
 (hne : q0w t (zr P none c).bx = true := by kernel_rfl) (hbb : ∀ V, w0.heap.size ≤ V.heap.size → w0.heap.size ≤ b V := by intro _ h; first | exact h | exact Nat.le_refl _ | assumption | omega) : G P Q A c W :=
 zg I hc (fun A V _ hz _ _ hK _ W ⟨p, d, h1, h2, h3⟩ => ⟨v p d, h1, hK _ W h3 fun I => h A W p d (I.own h2 (hbb V hz) hne)⟩) ho hr hm
theorem zqr (I : Inv E w0 A c.bx fs W) {f : FuncId} {args : List Nat → World → Array Value} {v : Option Addr → Nat → Value} {xs : List Nat}
 (hc : ∀ A W, Inv E w0 A (zr P none c).bx fs W → Calls P f (args A W) W fun e w' => ∃ p c, e = .returned (v p c) ∧ Rf w' W.heap.size p c xs ∧ Below W.heap.size W w')
 (h : ∀ A W p d, Inv E w0 A (putc (zr P none c) (.v (v p d))).bx (rfF w0.heap.size p d xs :: fs) W → G P Q A (putc (zr P none c) (.v (v p d))) W)
 (ho : ∀ A w, i0f P (zr P none c) A w = some (.ok (.enter f (args A w)) w) := by intro _ _; kernel_rfl)
 (hr : ∀ A w, (zms P none 5000 c A w).map (·.1) = (zms P none 5000 c A w).map (·.2) := by intro _ _; kernel_rfl)
 (hm : ok1 (zr P none c).rg (zr P none c).bx = ok2 (zr P none c).rg := by kernel_rfl) : G P Q A c W :=
 zg I hc (fun A _ Iv hz hB _ hK _ W ⟨p, d, h1, h2, h3⟩ => ⟨v p d, h1, hK _ W h3 fun I => h A W p d (I.rf h2 (hB _) Iv hz)⟩) ho hr hm
end
def pick : List Nat → List PF → List PF
 | [], _ => []
 | i :: is, fs => lk ⟨fun _ => True, fun _ => False, fun _ _ h _ _ => h, fun _ _ _ h => h.elim⟩ fs i :: pick is fs
section
variable {E : List Nat} {w0 : World} {A : List Nat} {bx : List Box} {fs : List PF} {W : World}
theorem PF.all_lk {W : World} (d : PF) (hd : d.prop W) : ∀ {fs : List PF} (i : Nat), PF.all W fs → (lk d fs i).prop W
 | [], _, _ => hd
 | _ :: _, 0, h => h.1
 | _ :: _, i + 1, h => PF.all_lk d hd i h.2
theorem PF.far_lk {a : Nat} (d : PF) (hd : ¬ d.foot a) : ∀ {fs : List PF} (i : Nat), PF.far a fs → ¬ (lk d fs i).foot a
 | [], _, _ => hd
 | _ :: _, 0, h => h.1
 | _ :: _, i + 1, h => PF.far_lk d hd i h.2
theorem Inv.pick (I : Inv E w0 A bx fs W) (is : List Nat) : Inv E w0 A bx (pick is fs) W := by
 refine ⟨I.bel, I.ge, I.nd, I.len, I.pre, I.bt, ?_, fun a ha => ?_⟩
 · have := I.fa
   induction is with
   | nil => exact True.intro
   | cons i is ih => exact ⟨PF.all_lk _ True.intro i this, ih⟩
 · have := I.far a ha
   induction is with
   | nil => exact True.intro
   | cons i is ih => exact ⟨PF.far_lk _ id i this, ih⟩
end
/-! ### Values of two -/
section
variable {P : Program} {t : TypeId} {x y : Operand} {W : World}
theorem c0i (k : IntKind) (X : Int) (k2 : IntKind) (Y m : Int) (h0 : 0 ≤ Y) (hm : k.wrap (X * 2 ^ (min Y.toNat k.bits)) = m) : (do eqGuard .shl t x y (.int k X) (.int k2 Y); binOp .shl t (.int k X) (.int k2 Y) : Sem Value).run P W = .ok (.int k m) W := by
 simp [binOp, eqGuard, Op.shift, show ¬ Y < 0 by omega, hm]
theorem t0g (k : IntKind) (X Y m : Int) (h0 : Y ≠ 0) (hm : k.wrap (X.tdiv Y) = m) : (do eqGuard .quo t x y (.int k X) (.int k Y); binOp .quo t (.int k X) (.int k Y) : Sem Value).run P W = .ok (.int k m) W := by
 simp [binOp, eqGuard, Op.intDiv, h0, hm]
theorem z0i (k : IntKind) (X Y m : Int) (h0 : Y ≠ 0) (hm : X.tmod Y = m) : (do eqGuard .rem t x y (.int k X) (.int k Y); binOp .rem t (.int k X) (.int k Y) : Sem Value).run P W = .ok (.int k m) W := by
 simp [binOp, eqGuard, Op.intDiv, h0, hm]
theorem z0j (k : IntKind) (X Y m : Int) (hm : bits .and k X Y = m) : (do eqGuard .and t x y (.int k X) (.int k Y); binOp .and t (.int k X) (.int k Y) : Sem Value).run P W = .ok (.int k m) W := by
 subst hm
 simp [binOp, eqGuard, intBits_and]
theorem f1m (k : IntKind) (X Y m : Int) (hm : bits .or k X Y = m) : (do eqGuard .or t x y (.int k X) (.int k Y); binOp .or t (.int k X) (.int k Y) : Sem Value).run P W = .ok (.int k m) W := by
 subst hm
 simp [binOp, eqGuard, intBits_or]
end
/-! ### Rows of others -/
theorem tyV {P : Program} {t e : TypeId} {z : Value} {bytes : Nat} (h1 : P.underlying t = some (.slice e))
 (h2 : (P.info? e).map (fun i => (i.zero, i.size, i.bytes)) = some (some z, 1, bytes)) (h3 : bytes ≤ 16) (h4 : z.cells = #[z]) (h5 : z.oneCell' = true) : g0l P t e z bytes := by
 refine ⟨h1, ?_, h4, h5, h3⟩
 cases h : P.info? e with
 | none => rw [h] at h2; simp at h2
 | some i => rw [h] at h2; simp at h2; exact ⟨i, rfl, h2.1, h2.2.1, h2.2.2⟩
section
variable {P : Program} {w : World}
theorem h0a {t : TypeId} {e : TypeId} {z : Value} {bytes : Nat} (hty : g0l P t e z bytes) {p : Option Addr} {n c m : Nat} (hp : g0r p n) (hm : m < n) : (VO.ix t (.slice p n c) (.int .i64 (m : Int))).sem.run P w = .ok (.pointer (some (at_ p m))) w := by
 show (Instr.indexAt _ _ _).run P w = _
 rw [run_indexAt_solid w t p n c .i64 m (l0a hty) hp, if_pos (show (0 : Int) ≤ (m : Int) ∧ (m : Int) < (n : Int) by omega)]
 simp only [k0b hty, Result.andThen_ok, Int.toNat_natCast, Nat.mul_one]
theorem j1u {t : TypeId} {e : TypeId} {z : Value} {bytes : Nat} (hty : g0l P t e z bytes) {p : Option Addr} {n c m : Nat} (hm : m ≤ n) (hc : m < c) (_hnc : n ≤ c) : (VO.sl t (.slice p n c) (some (.int .i64 (m : Int))) none none).sem.run P w = .ok (.slice (p.map (·.add m)) (n - m) (c - m)) w := by
 show (Instr.sliceAt _ _ _ _ _).run P w = _
 simp only [run_sliceAt_slice (h := l0a hty), run_slice_l (ht := l0a hty) (h0 := Int.natCast_nonneg m) (h1 := Int.ofNat_le.2 hm), k0b hty, Result.andThen_ok, Int.toNat_natCast]
 rw [w0c p m n c hc]
theorem q0x {ty : TypeId} {p : Option Addr} {vs : List Value} (hr : RdV w p vs) (hT : d0h P ty) {m : Nat} {v : Value} (hv : vs[m]? = some v) : (VO.ld ty (.pointer (some (at_ p m)))).sem.run P w = .ok v w := by
 show (Instr.loadAt _ _).run P w = _
 have hm : m < vs.length := (List.getElem?_eq_some_iff.1 hv).1
 have hl : (load (at_ p m)).run P w = .ok v w := by
  have := hr.cells m hm
  rw [hv] at this
  simp [go_sem, this]
 simp only [Instr.loadAt, Instr.sureAddr, Sem.run_bind, Sem.run_pure, Result.andThen_ok, loadVar, c0q hT]
 simpa using hl
end
/-! ### What calls leave -/
section
variable {P : Program} {f : FuncId} {args : Array Value} {w : World}
end
end Go.Slip
namespace Go.Proofs.YtmacohmclpnphaaGreatDoor
open Go.RowKit Go.Slip
theorem TabW.same {w w' : World} (h : TabW w) (hb : w'.heap[0]? = w.heap[0]?) (hs : w.heap.size ≤ w'.heap.size) : TabW w' :=
 ⟨fun j hj => by
   have := h.1 j hj
   unfold World.cell? at this ⊢
   rw [show w'.heap[(⟨0, j, none⟩ : Addr).block]? = w.heap[(⟨0, j, none⟩ : Addr).block]? from hb]
   exact this, Nat.lt_of_lt_of_le h.2 hs⟩
def tabF : PF := ⟨TabW, fun a => 0 = a, fun _ _ h hb hs => h.same (hb 0 h.2 rfl) hs, fun _ _ h hf => hf ▸ h.2⟩
end Go.Proofs.YtmacohmclpnphaaGreatDoor
namespace Go.Slip
open Go.RowKit
/-! ### Slices of structs -/
structure z0k (P : Program) (t e : TypeId) (s bytes : Nat) : Prop where
 ht : P.underlying t = some (.slice e)
 hi : ∃ i z, P.info? e = some i ∧ i.zero = some z ∧ i.size = s ∧ i.bytes = bytes ∧ z.cells.size = s
 pos : 0 < s
 le : bytes ≤ 100
theorem c1y {P : Program} {t e : TypeId} {s bytes : Nat} {z : Value} (h1 : P.underlying t = some (.slice e)) (h2 : (P.info? e).map (fun i => (i.zero, i.size, i.bytes)) = some (some z, s, bytes)) (h3 : Nat.ble bytes 100 = true) (h4 : Nat.beq z.cells.size s = true) (h5 : Nat.ble 1 s = true) : z0k P t e s bytes := by
 refine ⟨h1, ?_, Nat.le_of_ble_eq_true h5, Nat.le_of_ble_eq_true h3⟩
 cases h : P.info? e with
 | none => rw [h] at h2; cases h2
 | some i =>
  rw [h] at h2
  simp only [Option.map_some, Option.some.injEq, Prod.mk.injEq] at h2
  exact ⟨i, z, rfl, h2.1, h2.2.1, h2.2.2, Nat.eq_of_beq_eq_true h4⟩
def OwnS (w : World) (base : Nat) (e : TypeId) (s : Nat) (p : Option Addr) (c n : Nat) (vs : List Value) : Prop := w.ownsRow base e s (.slice p n c) n vs
theorem OwnS.nil (w : World) (base : Nat) (e : TypeId) (s : Nat) : OwnS w base e s none 0 0 [] := World.ownsRow_nil w base e s
section
variable {w w' : World} {base : Nat} {e : TypeId} {s : Nat} {p : Option Addr} {c n : Nat} {vs : List Value}
theorem OwnS.form (h : OwnS w base e s p c n vs) : (p = none ∧ c = 0 ∧ n = 0 ∧ vs = []) ∨ ∃ g, p = some ⟨g, 0, none⟩ ∧ base ≤ g ∧ g < w.heap.size ∧ n ≤ c ∧ c ≤ maxLen := by
 rcases h.2 with ⟨h1, h2⟩ | ⟨g, cap, cur, hv, hb, hg, hn, hc, _, _⟩
 · left
   simp only [Value.slice.injEq] at h1
   refine ⟨h1.1, h1.2.2, h2, List.eq_nil_of_length_eq_zero ?_⟩
   rw [h.1, h2, Nat.zero_mul]
 · right
   simp only [Value.slice.injEq] at hv
   obtain ⟨rfl, _, rfl⟩ := hv
   exact ⟨g, rfl, hb, (Array.getElem?_eq_some_iff.1 hg).1, hn, hc⟩
theorem OwnS.blk_lt (h : OwnS w base e s p c n vs) (hp : p.isSome = true) : base ≤ blk p ∧ blk p < w.heap.size := by
 rcases h.form with ⟨rfl, _, _, rfl⟩ | ⟨g, rfl, h1, h2, _⟩
 · simp at hp
 · exact ⟨h1, h2⟩
theorem OwnS.mono {b' : Nat} (h : OwnS w base e s p c n vs) (hb : b' ≤ base) : OwnS w b' e s p c n vs := by
 refine ⟨h.1, ?_⟩
 rcases h.2 with h1 | ⟨g, cap, cur, hv, hbg, r⟩
 · exact .inl h1
 · exact .inr ⟨g, cap, cur, hv, by omega, r⟩
theorem OwnS.same (h : OwnS w base e s p c n vs) (hb : p.isSome = true → w'.heap[blk p]? = w.heap[blk p]?) : OwnS w' base e s p c n vs := by
 refine ⟨h.1, ?_⟩
 rcases h.2 with h1 | ⟨g, cap, cur, hv, hbg, hg, r⟩
 · exact .inl h1
 · simp only [Value.slice.injEq] at hv
   obtain ⟨rfl, h2, rfl⟩ := hv
   exact .inr ⟨g, c, cur, rfl, hbg, by rw [← hg]; exact hb rfl, r⟩
theorem OwnS.cell (h : OwnS w base e s p c n vs) {j : Nat} {u : Value} (hu : vs[j]? = some u) : w.cell? (at_ p j) = some u := by
 rcases h.form with ⟨_, _, _, rfl⟩ | ⟨g, rfl, _⟩
 · simp at hu
 · have := World.ownsRow.cells h (g := g) rfl j u hu
   rw [← this]
   unfold at_ Addr.add
   split <;> simp_all
theorem OwnS.solid (h : OwnS w base e s p c n vs) : g0r p n := by
 rcases h.form with ⟨_, _, rfl, _⟩ | ⟨g, rfl, _⟩
 · exact fun h => by simp at h
 · exact fun _ => ⟨rfl, rfl⟩
theorem OwnS.far (h : OwnS w base e s p c n vs) {b : Nat} {t : TypeId} {us : Array Value} (hX : Bt w b t us) (hne : Nat.beq t e = false) (hp : p.isSome = true) : blk p ≠ b := by
 rcases h.2 with ⟨h1, h2⟩ | ⟨g, cap, cur, hv, hb, hg, _⟩
 · simp only [Value.slice.injEq] at h1
   rw [h1.1] at hp; cases hp
 · simp only [Value.slice.injEq] at hv
   intro hE
   rw [hv.1] at hE
   have hE2 : g = b := hE
   subst hE2
   have hE3 := hg.symm.trans hX
   simp only [Option.some.injEq, Obj.cells.injEq] at hE3
   rw [hE3.2.1] at hne
   simp at hne
end
def k0c (b : Nat) (e : TypeId) (s : Nat) (p : Option Addr) (c n : Nat) (vs : List Value) : PF :=
 ⟨fun w => OwnS w b e s p c n vs, fun a => p.isSome = true ∧ blk p = a, fun _ _ h hb _ => h.same fun hp => hb _ (h.blk_lt hp).2 ⟨hp, rfl⟩, fun _ _ h hf => hf.2 ▸ (h.blk_lt hf.1).2⟩
section
variable {P : Program} {w : World}
theorem k0q {t e : TypeId} {s bytes : Nat} (hty : z0k P t e s bytes) {p : Option Addr} {n c m : Nat} (hp : g0r p n) (hm : m < n) : (VO.ix t (.slice p n c) (.int .i64 (m : Int))).sem.run P w = .ok (.pointer (some (at_ p (m * s)))) w := by
 obtain ⟨i, z, hi, -, hs, -⟩ := hty.hi
 have hel : P.elem t = e := l0v hty.ht
 show (Instr.indexAt _ _ _).run P w = _
 rw [run_indexAt_solid w t p n c .i64 m (by rw [hel]; exact hty.ht) hp, if_pos (show (0 : Int) ≤ (m : Int) ∧ (m : Int) < (n : Int) by omega)]
 have hz : (sizeOf (P.elem t)).run P w = .ok s w := by
  rw [hel]
  simp [sizeOf, typeInfo, hi, hs]
 simp only [hz, Result.andThen_ok, Int.toNat_natCast]
theorem z0l {ty : TypeId} {base : Nat} {e : TypeId} {s : Nat} {p : Option Addr} {c n : Nat} {vs : List Value} (hr : OwnS w base e s p c n vs) {k : Nat} (hT : e0h P ty k) {m : Nat} (cs : List Value) (hc : (vs.drop m).take cs.length = cs) (hn : cs.length = k) : (VO.ld ty (.pointer (some (at_ p m)))).sem.run P w = .ok (.agg cs.toArray) w := by
 obtain ⟨⟨d, hu, hd⟩, hi⟩ := hT
 show (Instr.loadAt _ _).run P w = _
 have hE : at_ p m = ⟨(at_ p m).block, (at_ p m).off, none⟩ := rfl
 rw [hE]
 refine run_loadAt_mid w _ _ ty cs d (fun j v hv => ?_) hu hd (by rw [hi, hn])
 have hj := (List.getElem?_eq_some_iff.1 hv).1
 rw [← hc, List.getElem?_take, if_pos hj, List.getElem?_drop] at hv
 have := hr.cell hv
 rw [← this]
 unfold at_
 simp only [Nat.add_assoc]
end
section
variable {P : Program} {ops : Array Oper} {rest : List Oper} {o : Oper} {a : Act} {Q : Exit → Act → World → Prop} {w : World} {K : Act → World → Prop}
theorem g1z (s x : Operand) (t ty : TypeId) {pos : String} {d : Option Tmp} {af : Array Edge} {g : Option (Nat × Bool)} (ho : o = ⟨d, .call { callee := .builtin .append, args := #[s, x], argTypes := #[t, t] }, ty, pos, af, g⟩)
 {e : TypeId} {sz bytes : Nat} (hty : z0k P t e sz bytes) (base : Nat) (p : Option Addr) (n c : Nat) (vs : List Value) (hown : OwnS w base e sz p c n vs)
 (q : Addr) (m c2 : Nat) (ys : List Value) (hl : ys.length = m * sz) (hnews : ∀ j u, ys[j]? = some u → w.cell? (q.add j) = some u) (hone : ys.all (·.oneCell') = true) (hs : a.eval s = .slice p n c) (hx : a.eval x = .slice (some q) m c2)
 (hb : n + m ≤ 1000000000) (hbase : base ≤ w.heap.size) (hw : Region.wanted o (yielded ops a.tmps) = true)
 (h : ∀ p' c' w', OwnS w' base e sz p' c' (n + m) (vs ++ ys) → w.grownBy w' (p.map (·.block)) → (p'.isSome = true → (p.isSome = true ∧ blk p' = blk p) ∨ blk p' = w.heap.size) → K (a.put d (.slice p' (n + m) c')) w') : OpW P ops Q o K a w := by
 obtain ⟨i, z, hi, hz, hs1, hbt, hzs⟩ := hty.hi
 obtain ⟨v', w', hr, hO, hg, hnn, hat⟩ := run_append_own_at (P := P) w base t ty e i z sz bytes hty.ht hi hz hs1 hbt hzs hty.pos _ _ _ hown q m c2 ys hl hnews (fun u hu => List.all_eq_true.1 hone u hu) (by simp only [maxLen]; omega)
  (by have := Nat.mul_le_mul hb hty.le; omega) hbase
 have hv : ∃ p' c', v' = .slice p' (n + m) c' := by
  rcases hO.2 with ⟨h1, h2⟩ | ⟨g, cap, cur, h1, _⟩
  · exact ⟨none, 0, by rw [h1, h2]⟩
  · exact ⟨_, _, h1⟩
 obtain ⟨p', c', rfl⟩ := hv
 have hg' : w.grownBy w' (p.map (·.block)) := by cases p <;> exact hg
 refine ⟨?_⟩
 rw [if_pos hw]
 subst ho
 unfold Oper.wp execOp
 simp only [resolve, invoke, builtin, Sem.run_bind, Sem.run_pure, Result.andThen_ok, List.map_toArray, List.map_cons, List.map_nil, hs, hx, hr]
 refine h p' c' w' hO hg' fun hp' => ?_
 cases p' with
 | none => cases hp'
 | some a' =>
  rcases hat with h1 | h1
  · cases p with
    | none => cases h1
    | some b =>
     left
     exact ⟨rfl, Option.some.inj h1⟩
  · exact .inr (Option.some.inj h1)
end
/-! ### A block that was handed in -/
theorem Bt.far {w : World} {b b' : Nat} {t t' : TypeId} {vs us : Array Value} (h : Bt w b t vs) (hX : Bt w b' t' us) (hne : Nat.beq t t' = false) : ¬ (b = b') := by
 intro e
 subst e
 have := h.symm.trans hX
 simp only [Option.some.injEq, Obj.cells.injEq] at this
 rw [this.2.1] at hne
 simp at hne
def btF (b : Nat) (t : TypeId) (vs : Array Value) : PF :=
 ⟨fun w => Bt w b t vs, fun a => b = a, fun _ _ h hb _ => (hb b h.lt rfl).trans h, fun _ _ h hf => hf ▸ h.lt⟩
/-! ### Steps -/
def z0m : List Box → Bool
 | [] => true
 | b :: l => match b.ro with | true => false | false => z0m l
theorem q0y : ∀ {l : List Box}, z0m l = true → ∀ k, k < l.length → (lk bx0 l k).ro = false
 | [], _, _, h => by simp at h
 | b :: l, h, k, hk => by
  unfold z0m at h
  split at h
  · cases h
  · rename_i hb
    cases k with
    | zero => exact hb
    | succ k => exact q0y h k (by simpa using hk)
section
variable {P : Program} {Q : Exit → Act → World → Prop} {E : List Nat} {w0 : World} {A : List Nat} {fs : List PF} {W V : World} {c : Cfg}
theorem Inv.grown {W' : World} {bx : List Box} {b : Nat} {e : TypeId} {s : Nat} {p p' : Option Addr} {cc c' n n' : Nat} {vs vs' : List Value} (I : Inv E w0 A bx (k0c b e s p cc n vs :: fs) W) (hb : w0.heap.size ≤ b) (hrw : z0m bx = true)
 (hO : OwnS W' b e s p' c' n' vs') (hg : W.grownBy W' (p.map (·.block))) (hat : p'.isSome = true → (p.isSome = true ∧ blk p' = blk p) ∨ blk p' = W.heap.size) (hfar : p.isSome = true → PF.far (blk p) fs) :
 Inv E w0 A bx (k0c b e s p' c' n' vs' :: fs) W' := by
 have hrow := I.fa.1
 have hne : ∀ k, p.map (·.block) = some k → p.isSome = true ∧ blk p = k := fun k h => by
  cases p with
  | none => cases h
  | some a => exact ⟨rfl, Option.some.inj h⟩
 have keep : ∀ k, k < W.heap.size → (p.isSome = true → blk p ≠ k) → W'.heap[k]? = W.heap[k]? := fun k hk h => hg.block k hk fun e => by
  obtain ⟨h1, h2⟩ := hne k e.symm
  exact h h1 h2
 refine ⟨⟨hg.os.trans I.bel.os, hg.tape.trans I.bel.tape, hg.output.trans I.bel.output, Nat.le_trans I.bel.size hg.size, fun k hk hkE => ?_⟩, I.ge, I.nd, I.len, I.pre, fun k hk => ?_, ⟨hO, ?_⟩, fun a ha => ⟨fun hf => ?_, (I.far a ha).2⟩⟩
 · rw [keep k (Nat.lt_of_lt_of_le hk I.bel.size) fun hp => by have := (hrow.blk_lt hp).1; omega]
   exact I.bel.block k hk hkE
 · have hF : Fa A bx (lk 0 A k) := ⟨k, hk, q0y hrw k hk, rfl⟩
   have h1 := I.bt k hk
   unfold Bt at h1 ⊢
   rw [keep _ (I.lt _ hF) fun hp e => (I.far _ hF).1 ⟨hp, e⟩]
   exact h1
 · refine PF.all_keep hg.size I.fa.2 fun k hk ha => keep k hk fun hp => ha _ (hfar hp)
 · rcases hat hf.1 with ⟨hp, h⟩ | h
   · exact (I.far a ha).1 ⟨hp, h.symm.trans hf.2⟩
   · have := I.lt a ha
     have := hf.2
     omega
def apOf (c : Cfg) (A : List Nat) : Option (TypeId × Value × Value) :=
 match hdOp c with
 | some ⟨_, .call ⟨.builtin .append, ⟨[s, x]⟩, ⟨[t, t']⟩⟩, _, _, _, _⟩ => match Nat.beq t t' with
  | true => some (t, evr A c.fr s, evr A c.fr x)
  | false => none
 | _ => none
theorem zap {e : TypeId} {sz : Nat} {p : Option Addr} {cc n : Nat} {vs : List Value} (I : Inv E w0 A c.bx (k0c w0.heap.size e sz p cc n vs :: fs) W) {t : TypeId} {bytes : Nat} (hty : z0k P t e sz bytes) (k m : Nat) (news : List Nat → List Value)
 (hbox : ∀ A W, Inv E w0 A (zr P none c).bx (k0c w0.heap.size e sz p cc n vs :: fs) W → Bt W (lk 0 A k) e (news A).toArray) (hcap : n + m ≤ 1000000000)
 (hfar : ∀ A W, Inv E w0 A (zr P none c).bx (k0c w0.heap.size e sz p cc n vs :: fs) W → p.isSome = true → PF.far (blk p) fs)
 (h : ∀ A W p' c', (p'.isSome = true → PF.far (blk p') fs) → Inv E w0 A (putc (zr P none c) (.v (.slice p' (n + m) c'))).bx (k0c w0.heap.size e sz p' c' (n + m) (vs ++ news A) :: fs) W → G P Q A (putc (zr P none c) (.v (.slice p' (n + m) c'))) W)
 (hl : ∀ A, Nat.beq (news A).length (m * sz) = true := by intro _; kernel_rfl) (hone : ∀ A, (news A).all (·.oneCell') = true := by intro _; kernel_rfl)
 (ho : ∀ A, apOf (zr P none c) A = some (t, .slice p n cc, .slice (some ⟨lk 0 A k, 0, none⟩) m m) := by intro _; kernel_rfl)
 (hr : ∀ A w, (zms P none 5000 c A w).map (·.1) = (zms P none 5000 c A w).map (·.2) := by intro _ _; kernel_rfl)
 (hrw : z0m (zr P none c).bx = true := by kernel_rfl)
 (hm : ok1 (zr P none c).rg (zr P none c).bx = ok2 (zr P none c).rg := by kernel_rfl) : G P Q A c W :=
 b0u I hr fun A W I => by
  have ho2 := ho A
  have h2 := h A
  have hbox2 := hbox A W I
  have hfar2 := hfar A W I
  have hl2 := hl A
  have hone2 := hone A
  clear hr ho h hbox hfar hl hone
  generalize zr P none c = c at *
  unfold apOf hdOp at ho2
  split at ho2
  · rename_i hn'
    split at ho2
    · rename_i hbeq
      have htt := Nat.eq_of_beq_eq_true hbeq
      subst htt
      simp only [Option.some.injEq, Prod.mk.injEq] at ho2
      obtain ⟨rfl, ho1, ho2⟩ := ho2
      split at hn'
      · rename_i o' hn
        split at hn'
        · rename_i hw
          simp only [Option.some.injEq] at hn'
          subst hn'
          refine G_op (E := E) (w0 := w0) (fs := []) hn fun K hK => g1z _ _ _ _ rfl hty w0.heap.size p n cc vs I.fa.1 ⟨lk 0 A k, 0, none⟩ m m (news A) (Nat.eq_of_beq_eq_true hl2) (fun j u hu => ?_) hone2 (by rw [b0x]; exact ho1) (by rw [b0x]; exact ho2) hcap I.bel.size (by rw [f0x]; exact hw) fun p' c' W' hO hg hat => ?_
          · have := hbox2.bx.cell j
            rw [show (⟨lk 0 A k, 0, none⟩ : Addr).add j = ⟨lk 0 A k, j, none⟩ by unfold Addr.add; split <;> simp_all, this]
            simpa using hu
          · have I2 := I.grown (Nat.le_refl _) hrw hO hg hat hfar2
            have hq : p'.isSome = true → PF.far (blk p') fs := fun hp => by
             rcases hat hp with ⟨h1, h3⟩ | h1
             · rw [h3]; exact hfar2 h1
             · rw [h1]; exact PF.far_new I.fa.2
            have h := h2 W' p' c' hq I2
            unfold putc at h
            rw [hn] at h
            have := hK A W' _ c.bx (List.prefix_refl _) (I2.pick []) hm h
            rw [show Value.slice p' (n + m) c' = (SV.v (.slice p' (n + m) c')).r A from rfl, d0j]
            exact this
        · cases hn'
      · cases hn'
    · cases ho2
  · cases ho2
theorem Inv.newb {bx : List Box} (I : Inv E w0 A bx fs V) (hb : Below V.heap.size V W) {b : Nat} {t : TypeId} {cs : List SV} (hge : V.heap.size ≤ b) (hB : Bt W b t (cs.map (SV.r A)).toArray) (h1 : wfL bx.length cs = true) (h2 : wfB bx.length bx = true) :
 Inv E w0 (A ++ [b]) (bx ++ [⟨t, cs, false⟩]) fs W := by
 have I' := I.past hb
 have hl : ∀ k, k < bx.length → lk 0 (A ++ [b]) k = lk 0 A k ∧ lk bx0 (bx ++ [⟨t, cs, false⟩]) k = lk bx0 bx k := fun k h => ⟨c0u 0 (by rw [I.len]; exact h), c0u bx0 h⟩
 have hn : lk 0 (A ++ [b]) bx.length = b ∧ lk bx0 (bx ++ [⟨t, cs, false⟩]) bx.length = ⟨t, cs, false⟩ := ⟨by rw [← I.len, d0d], d0d _⟩
 have hF : ∀ a, Fa (A ++ [b]) (bx ++ [⟨t, cs, false⟩]) a → Fa A bx a ∨ a = b := fun a ⟨k, hk, hr, e⟩ => by
  rw [List.length_append, List.length_singleton] at hk
  by_cases h : k < bx.length
  · rw [(hl k h).2] at hr
    rw [(hl k h).1] at e
    exact .inl ⟨k, h, hr, e⟩
  · obtain rfl : k = bx.length := by omega
    exact .inr (e.trans hn.1)
 refine ⟨I'.bel, fun a ha => ?_, fun i j hi hj hr hne => ?_, by simp [I.len], I.pre.trans (List.prefix_append _ _), fun k hk => ?_, I'.fa, fun a ha => ?_⟩
 · rcases hF a ha with h | rfl
   · exact I.ge a h
   · exact .inl (Nat.le_trans I.bel.size hge)
 · rw [List.length_append, List.length_singleton] at hi hj
   by_cases h : i < bx.length
   · rw [(hl i h).2] at hr
     by_cases h' : j < bx.length
     · rw [(hl i h).1, (hl j h').1]
       exact I.nd i j h h' hr hne
     · obtain rfl : j = bx.length := by omega
       rw [(hl i h).1, hn.1]
       have := (I.bt i h).lt
       omega
   · obtain rfl : i = bx.length := by omega
     have h' : j < bx.length := by omega
     rw [(hl j h').1, hn.1]
     have := (I.bt j h').lt
     omega
 · rw [List.length_append, List.length_singleton] at hk
   by_cases h : k < bx.length
   · rw [(hl k h).1, (hl k h).2]
     have := I'.bt k h
     unfold Box.row at this ⊢
     rw [n0c _ I.len (l0s h2 k)]
     exact this
   · obtain rfl : k = bx.length := by omega
     rw [hn.1, hn.2]
     unfold Box.row
     simp only
     rw [n0c _ I.len h1]
     exact hB
 · rcases hF a ha with h | rfl
   · exact I'.far a h
   · have : ∀ {l : List PF}, PF.all V l → PF.far a l := fun {l} hl => by
      induction l with
      | nil => exact True.intro
      | cons f l ih => exact ⟨fun hf => by have := f.lt V _ hl.1 hf; omega, ih hl.2⟩
     exact this I.fa
theorem j1v {A' : List Nat} {c' : Cfg} (hA : A <+: A') (he : act A c.fr = act A' c'.fr) (h1 : c'.rg = c.rg) (h2 : c'.ks = c.ks) (h : G P Q A' c' W) : G P Q A c W := by
 refine ⟨?_⟩
 have h := h.out
 unfold f1f at *
 obtain ⟨fr, bx, rg, ks⟩ := c
 obtain ⟨fr', bx', rg', ks'⟩ := c'
 simp only at *
 subst h1 h2
 rw [he]
 cases rg' with
 | off => exact h
 | pl => exact h
 | dr ops A0 m fuel listed => exact fun pre => h (pre.on hA)
 | one ops A0 m fuel listed i => exact fun pre => h (pre.on hA)
 | ret => exact h
theorem l1q {bxv : List Box} (I : Inv E w0 A bxv fs V) (hb : Below V.heap.size V W) (k b : Nat) (t : TypeId) (cs : List Value) (hge : V.heap.size ≤ b) (hB : Bt W b t cs.toArray)
 (h : ∀ A', lk 0 A' k = b → Inv E w0 A' (c.bx ++ [⟨t, cs.map .v, false⟩]) fs W → G P Q A' ⟨c.fr, c.bx ++ [⟨t, cs.map .v, false⟩], c.rg, c.ks⟩ W)
 (hbv : bxv = c.bx := by kernel_rfl) (hk : c.bx.length = k := by kernel_rfl) (h1 : wfL c.bx.length (cs.map SV.v) = true := by kernel_rfl) (h2 : wfB c.bx.length c.bx = true := by kernel_rfl) (h3 : wfL c.bx.length c.fr = true := by kernel_rfl) : G P Q A c W := by
 subst hbv
 have hcs : ∀ A, (cs.map SV.v).map (SV.r A) = cs := fun A => by
  rw [List.map_map]
  exact List.map_id _
 have I2 := I.newb hb (cs := cs.map SV.v) hge (by rw [hcs]; exact hB) h1 h2
 refine j1v (A' := A ++ [b]) (c' := ⟨c.fr, c.bx ++ [⟨t, cs.map .v, false⟩], c.rg, c.ks⟩) (List.prefix_append _ _) ?_ rfl rfl (h _ ?_ I2)
 · unfold act
   simp only
   rw [n0c _ I.len h3]
 · rw [← hk, ← I.len, d0d]
theorem l1r (I : Inv E w0 A c.bx fs W) (d k b : Nat) (hk : lk 0 A k = b) (h : ∀ A W, Inv E w0 A (putc (zr P (some d) c) (.p k 0)).bx fs W → G P Q A (putc (zr P (some d) c) (.p k 0)) W)
 (hkl : Nat.ble (k + 1) c.bx.length = true := by kernel_rfl)
 (hv : w0j P (zr P (some d) c) = some (.val (.v (.pointer (some ⟨b, 0, none⟩)))) := by kernel_rfl)
 (hc : ∀ A w, (f0y P (zr P (some d) c) A w).map (·.1) = (f0y P (zr P (some d) c) A w).map (·.2) := by intro _ _; kernel_rfl)
 (hr : ∀ A w, (zms P (some d) 5000 c A w).map (·.1) = (zms P (some d) 5000 c A w).map (·.2) := by intro _ _; kernel_rfl)
 (hm : ok1 (zr P (some d) c).rg (zr P (some d) c).bx = ok2 (zr P (some d) c).rg := by kernel_rfl) : G P Q A c W := by
 refine j0z 5000 I (fun A w => f0c (hr A w)) fun A' W' hA I' => ?_
 rw [← j1i] at I' ⊢
 refine j1l I' _ (.p k 0) ?_ (h A' W') hv (fun A w => f0c (hc A w)) hm
 show Value.pointer (some ⟨b, 0, none⟩) = .pointer (some ⟨lk 0 A' k, 0, none⟩)
 rw [u0v hA (by rw [I.len]; exact g0y hkl), hk]
theorem i0g {α : Type} (d : α) {l : List α} {n k : Nat} (h : k < n) : lk d (l.take n) k = lk d l k := by
 rw [d0z, d0z, List.getElem?_take, if_pos h]
theorem Inv.dropB {bx : List Box} (I : Inv E w0 A bx fs W) (n : Nat) (hE : E.length ≤ n) (hw : wfB n (bx.take n) = true) (hn : n ≤ bx.length) : Inv E w0 (A.take n) (bx.take n) fs W := by
 have hl : (bx.take n).length = n := by rw [List.length_take]; omega
 have hla : (A.take n).length = n := by rw [List.length_take, I.len]; omega
 have hF : ∀ a, Fa (A.take n) (bx.take n) a → Fa A bx a := fun a ⟨k, hk, hr, e⟩ => by
  rw [hl] at hk
  rw [i0g _ hk] at hr e
  exact ⟨k, by omega, hr, e⟩
 refine ⟨I.bel, fun a ha => I.ge a (hF a ha), fun i j hi hj hr hne => ?_, by rw [hl, hla], ?_, fun k hk => ?_, I.fa, fun a ha => I.far a (hF a ha)⟩
 · rw [hl] at hi hj
   rw [i0g _ hi] at hr
   rw [i0g _ hi, i0g _ hj]
   exact I.nd i j (by omega) (by omega) hr hne
 · exact List.prefix_take_iff.2 ⟨I.pre, hE⟩
 · rw [hl] at hk
   have h1 := I.bt k (by omega)
   rw [i0g _ hk, i0g _ hk]
   unfold Box.row at h1 ⊢
   have hw2 := l0s hw k
   rw [i0g _ hk] at hw2
   have h2 := n0c (A := A.take n) (A.drop n) hla hw2
   rw [List.take_append_drop] at h2
   rw [← h2]
   exact h1
theorem f1n (n : Nat) (I : Inv E w0 A c.bx fs W) (J : Act → World → Prop) {fr : (Nat → Value) → List SV} {bx : (Nat → Value) → List Box} (h : ∀ A W U, Inv E w0 A (bx U) fs W → J (act A (fr U)) W)
 (hr : ∀ A w, (zms P none 5000 c A w).map (·.1) = (zms P none 5000 c A w).map (·.2) := by intro _ _; kernel_rfl)
 (hf : ∀ A, (zr P none c).fr.map (SV.r A) = (fr (uOf (zr P none c) A)).map (SV.r A) := by intro _; kernel_rfl)
 (hb : ∀ A, (zr P none c).bx.take n = bx (uOf (zr P none c) A) := by intro _; kernel_rfl)
 (hw : ∀ U, wfL n (fr U) = true := by intro _; kernel_rfl) (hw2 : wfB n ((zr P none c).bx.take n) = true := by kernel_rfl) (hn : Nat.ble n (zr P none c).bx.length = true := by kernel_rfl) (hE : Nat.ble E.length n = true := by kernel_rfl)
 (hs : f1l (zr P none c) = some J := by kernel_rfl) : G P Q A c W :=
 b0u I hr fun A W I => by
  have I2 := I.dropB n (Nat.le_of_ble_eq_true hE) hw2 (Nat.le_of_ble_eq_true hn)
  rw [hb A] at I2
  have h := h (A.take n) W (uOf (zr P none c) A) I2
  have hf := hf A
  have hla : (A.take n).length = n := by rw [List.length_take, I.len]; exact Nat.min_eq_left (Nat.le_of_ble_eq_true hn)
  have h3 := n0c (A := A.take n) (A.drop n) hla (hw (uOf (zr P none c) A))
  rw [List.take_append_drop] at h3
  unfold act at h
  rw [← h3, ← hf] at h
  clear hb hf h3 hw hw2 hn I2
  generalize zr P none c = c at *
  refine ⟨?_⟩
  obtain ⟨cf, cb, rg, ks⟩ := c
  cases rg with
  | pl => cases hs
  | dr => cases hs
  | one => cases hs
  | ret => cases hs
  | off =>
   cases ks with
   | nil => cases hs
   | cons k ks =>
    cases k with
    | block => cases hs
    | code => cases hs
    | stop J' =>
     obtain rfl : J' = J := Option.some.inj hs
     exact h
theorem Inv.owns {bx : List Box} (I : Inv E w0 A bx fs W) {b : Nat} {e : TypeId} {s : Nat} {p : Option Addr} {cc n : Nat} {vs : List Value} (o : OwnS W b e s p cc n vs) (hb : w0.heap.size ≤ b := by first | exact Nat.le_refl _ | assumption | omega) (hne : q0w e bx = true := by kernel_rfl) :
 Inv E w0 A bx (k0c w0.heap.size e s p cc n vs :: fs) W :=
 I.add (k0c w0.heap.size e s p cc n vs) (o.mono hb) fun a ha hf => by
  obtain ⟨j, hj, _, rfl⟩ := ha
  exact o.far (I.bt j hj) (g0z hne j hj) hf.1 hf.2
end
end Go.Slip
namespace Go.Proofs.YtmacohmclpnphaaGreatDoor
open Go.RowKit Go.Slip
theorem TabW.far {w : World} {b : Nat} {t : TypeId} {vs : Array Value} (h : TabW w) (hX : Bt w b t vs) (hne : (match vs[0]? with | some (.int .u8 _) => false | _ => true) = true) : ¬ (0 = b) := by
 intro e
 subst e
 have h1 := h.1 0 (by omega)
 rw [hX.bx.cell 0] at h1
 rw [h1] at hne
 cases hne
end Go.Proofs.YtmacohmclpnphaaGreatDoor
namespace Go.Slip
def be (l : List Nat) : Nat := l.foldl (fun a c => a * 256 + c) 0
def vb (l : List Bool) : Nat := l.foldl (fun a b => 2 * a + b.toNat) 0
def d0v (c : Nat) : List Bool := [c / 128 % 2 == 1, c / 64 % 2 == 1, c / 32 % 2 == 1, c / 16 % 2 == 1, c / 8 % 2 == 1, c / 4 % 2 == 1, c / 2 % 2 == 1, c / 1 % 2 == 1]
def f0n : List Nat → List Bool
 | [] => []
 | c :: r => d0v c ++ f0n r
theorem z0n (l : List Bool) : ∀ a : Nat, l.foldl (fun a b => 2 * a + b.toNat) a = a * 2 ^ l.length + vb l := by
 induction l with
 | nil => intro a; simp [vb]
 | cons x r ih =>
  intro a
  unfold vb
  simp only [List.foldl_cons, List.length_cons]
  rw [ih, ih (2 * 0 + x.toNat), Nat.pow_succ, Nat.mul_zero, Nat.zero_add, Nat.add_mul]
  have h1 : 2 * a * 2 ^ r.length = a * (2 ^ r.length * 2) := by rw [Nat.mul_comm 2 a, Nat.mul_assoc, Nat.mul_comm 2]
  omega
theorem z0o : vb [] = 0 := rfl
theorem k0d (x : Bool) (r : List Bool) : vb (x :: r) = x.toNat * 2 ^ r.length + vb r := by
 show List.foldl _ _ r = _
 rw [z0n]
 simp
theorem h0b (x y : List Bool) : vb (x ++ y) = vb x * 2 ^ y.length + vb y := by
 show List.foldl _ _ (x ++ y) = _
 rw [List.foldl_append, z0n]
 rfl
theorem z0p (x : List Bool) (b : Bool) : vb (x ++ [b]) = 2 * vb x + b.toNat := by
 rw [h0b, k0d, z0o]
 simp
 omega
theorem k0e : ∀ l : List Bool, vb l < 2 ^ l.length
 | [] => by simp [vb]
 | x :: r => by
  have h := k0e r
  rw [k0d, List.length_cons, Nat.pow_succ]
  have h2 : x.toNat ≤ 1 := by cases x <;> decide
  have h3 : x.toNat * 2 ^ r.length ≤ 1 * 2 ^ r.length := Nat.mul_le_mul_right _ h2
  omega
theorem h1a : ∀ c, c < 256 → vb (d0v c) = c := by decide +kernel
theorem f0d (c : Nat) : (d0v c).length = 8 := rfl
theorem h0c : ∀ l : List Nat, (f0n l).length = 8 * l.length
 | [] => rfl
 | c :: r => by
  show (d0v c ++ f0n r).length = _
  rw [List.length_append, f0d, h0c r, List.length_cons]
  omega
theorem h1b (l : List Nat) : ∀ a : Nat, l.foldl (fun a c => a * 256 + c) a = a * 256 ^ l.length + be l := by
 induction l with
 | nil => intro a; simp [be]
 | cons x r ih =>
  intro a
  unfold be
  simp only [List.foldl_cons, List.length_cons]
  rw [ih, ih (0 * 256 + x), Nat.pow_succ, Nat.zero_mul, Nat.zero_add, Nat.add_mul, Nat.mul_assoc, Nat.mul_comm 256]
  omega
theorem h1c (x : Nat) (r : List Nat) : be (x :: r) = x * 256 ^ r.length + be r := by
 show List.foldl _ _ r = _
 rw [h1b]
 simp
theorem z0q (l : List Nat) (c : Nat) : be (l ++ [c]) = be l * 256 + c := by
 show List.foldl _ _ (l ++ [c]) = _
 rw [List.foldl_append]
 rfl
theorem t0h : ∀ l : List Nat, (∀ c ∈ l, c < 256) → vb (f0n l) = be l
 | [], _ => rfl
 | c :: r, h => by
  show vb (d0v c ++ f0n r) = _
  rw [h0b, h1a c (h c (List.mem_cons_self ..)), t0h r (fun d hd => h d (List.mem_cons_of_mem _ hd)), h1c, h0c, Nat.pow_mul]
theorem j1w (l : List Nat) (h : ∀ c ∈ l, c < 256) : be l < 2 ^ (8 * l.length) := by
 rw [← t0h l h, ← h0c]
 exact k0e _
theorem h1d (b : List Bool) (k : Nat) : vb (b.take k) = vb b / 2 ^ (b.length - k) := by
 have h := h0b (b.take k) (b.drop k)
 rw [List.take_append_drop, List.length_drop] at h
 have h2 := k0e (b.drop k)
 rw [List.length_drop] at h2
 rw [h, Nat.mul_comm, Nat.mul_add_div (Nat.pow_pos (by omega)), Nat.div_eq_of_lt h2]
 omega
theorem h1e (b : List Bool) (k : Nat) : vb (b.drop k) = vb b % 2 ^ (b.length - k) := by
 have h := h0b (b.take k) (b.drop k)
 rw [List.take_append_drop, List.length_drop] at h
 have h2 := k0e (b.drop k)
 rw [List.length_drop] at h2
 rw [h, Nat.mul_comm, Nat.mul_add_mod, Nat.mod_eq_of_lt h2]
theorem j1x (x : Bool) (r : List Bool) : (vb (x :: r) / 2 ^ r.length == 1) = x := by
 have h := k0e r
 rw [k0d, Nat.mul_comm, Nat.mul_add_div (Nat.pow_pos (by omega)), Nat.div_eq_of_lt h]
 cases x <;> simp
theorem h1f (x : Bool) (r : List Bool) : vb (x :: r) % 2 ^ r.length = vb r := by
 have h := k0e r
 rw [k0d, Nat.mul_comm, Nat.mul_add_mod, Nat.mod_eq_of_lt h]
theorem z0r : ∀ l : List Bool, (l.all id = true) ↔ vb l = 2 ^ l.length - 1
 | [] => by simp [vb]
 | x :: r => by
  have h := z0r r
  have h2 := k0e r
  rw [k0d, List.length_cons, Nat.pow_succ, List.all_cons, Bool.and_eq_true, h]
  cases x
  · simp
    omega
  · simp
    omega
structure Gd where
 rad : Int
 digs : Int
 lo : Int
 hi : Int
 grad : Bool
def wid (g : Gd) : Nat := if g.rad = 16 then 4 else 1
def most (g : Gd) : Int := if g.rad = 16 then 4000 else 17000
def farG (g : Gd) (n : Int) : Prop := n < -most g ∨ most g < n
instance (g : Gd) (n : Int) : Decidable (farG g n) := by unfold farG; exact inferInstance
def errG (g : Gd) : Int :=
 if g.rad ≠ 2 ∧ g.rad ≠ 16 then 6 else if g.digs < 1 ∨ 120 < g.digs ∨ farG g g.lo ∨ farG g g.hi ∨ g.hi < g.lo then 3 else 0
structure h0v (g : Gd) : Prop where
 rad : g.rad = 2 ∨ g.rad = 16
 d1 : 1 ≤ g.digs
 d2 : g.digs ≤ 120
 l1 : -17000 ≤ g.lo
 l2 : g.lo ≤ 17000
 h1 : -17000 ≤ g.hi
 h2 : g.hi ≤ 17000
 le : g.lo ≤ g.hi
theorem c0c {g : Gd} (h : errG g = 0) : h0v g := by
 unfold errG at h
 by_cases h1 : g.rad ≠ 2 ∧ g.rad ≠ 16
 · rw [if_pos h1] at h; simp at h
 · rw [if_neg h1] at h
   by_cases h2 : g.digs < 1 ∨ 120 < g.digs ∨ farG g g.lo ∨ farG g g.hi ∨ g.hi < g.lo
   · rw [if_pos h2] at h; simp at h
   · unfold farG most at h2
     split at h2 <;> constructor <;> omega
theorem b0f (g : Gd) : 1 ≤ wid g ∧ wid g ≤ 4 := by unfold wid; split <;> omega
def numP (num : Nat) (n : Int) : Nat := num * 2 ^ n.toNat
def denP (den : Nat) (n : Int) : Nat := den * 2 ^ (-n).toNat
def qP (num den : Nat) (n : Int) : Nat := numP num n / denP den n
def rP (num den : Nat) (n : Int) : Nat := numP num n % denP den n
theorem h0q {den : Nat} (h : 0 < den) (n : Int) : 0 < denP den n := Nat.mul_pos h (Nat.pow_pos (by omega))
def e0i (num den : Nat) (e : Int) (w D : Nat) (k : Int) : Prop := 2 ^ (w * (D - 1)) ≤ qP num den (e - w * k)
instance (num den : Nat) (e : Int) (w D : Nat) (k : Int) : Decidable (e0i num den e w D k) := by unfold e0i; exact inferInstance
theorem h0f {num den : Nat} (hd : 0 < den) (e : Int) (w D : Nat) (k : Int) (u v : Nat) (huv : (u : Int) - v = w * k + (w * (D - 1) : Nat) - e) :
 e0i num den e w D k ↔ den * 2 ^ u ≤ num * 2 ^ v := by
 unfold e0i qP
 rw [Nat.le_div_iff_mul_le (h0q hd _)]
 unfold numP denP
 have h2 : ∀ n : Nat, 0 < 2 ^ n := fun n => Nat.pow_pos (by omega)
 generalize hj : w * (D - 1) = j at *
 have e1 : ∃ c : Nat, (2 : Nat) ^ j * 2 ^ (-(e - w * k)).toNat * 2 ^ c = 2 ^ u * 2 ^ (c - 0) * 1 ∨ True := ⟨0, .inr trivial⟩
 clear e1
 by_cases hn : 0 ≤ e - w * k
 · obtain ⟨a, ha⟩ : ∃ a : Nat, e - w * k = a := ⟨(e - w * k).toNat, by omega⟩
   rw [ha]
   have t1 : (-(a : Int)).toNat = 0 := by omega
   have t2 : ((a : Int)).toNat = a := by omega
   rw [t1, t2]
   have t3 : u + a = v + j := by omega
   constructor
   · intro h
     have := Nat.mul_le_mul_right (2 ^ v) h
     have e2 : (2 ^ j * (den * 2 ^ 0)) * 2 ^ v = den * 2 ^ u * 2 ^ a := by
      have : 2 ^ j * 2 ^ v = 2 ^ u * 2 ^ a := by rw [← Nat.pow_add, ← Nat.pow_add]; congr 1; omega
      simp only [Nat.pow_zero, Nat.mul_one]
      grind
     rw [e2] at this
     have e3 : num * 2 ^ a * 2 ^ v = num * 2 ^ v * 2 ^ a := by grind
     rw [e3] at this
     exact Nat.le_of_mul_le_mul_right this (h2 a)
   · intro h
     have := Nat.mul_le_mul_right (2 ^ a) h
     have e2 : den * 2 ^ u * 2 ^ a = (2 ^ j * (den * 2 ^ 0)) * 2 ^ v := by
      have : 2 ^ j * 2 ^ v = 2 ^ u * 2 ^ a := by rw [← Nat.pow_add, ← Nat.pow_add]; congr 1; omega
      simp only [Nat.pow_zero, Nat.mul_one]
      grind
     rw [e2] at this
     have e3 : num * 2 ^ v * 2 ^ a = num * 2 ^ a * 2 ^ v := by grind
     rw [e3] at this
     exact Nat.le_of_mul_le_mul_right this (h2 v)
 · obtain ⟨a, ha⟩ : ∃ a : Nat, e - w * k = -(a : Int) := ⟨(-(e - w * k)).toNat, by omega⟩
   rw [ha]
   have t1 : (-(-(a : Int))).toNat = a := by omega
   have t2 : (-(a : Int)).toNat = 0 := by omega
   rw [t1, t2]
   have t3 : u = v + j + a := by omega
   subst t3
   have e2 : den * 2 ^ (v + j + a) = (2 ^ j * (den * 2 ^ a)) * 2 ^ v := by rw [Nat.pow_add, Nat.pow_add]; grind
   rw [e2, Nat.pow_zero, Nat.mul_one]
   constructor
   · intro h; exact Nat.mul_le_mul_right _ h
   · intro h; exact Nat.le_of_mul_le_mul_right h (h2 v)
theorem k0f {num den : Nat} (hd : 0 < den) {e : Int} {w D : Nat} {k k' : Int} (h : e0i num den e w D k) (hk : k' ≤ k) : e0i num den e w D k' := by
 have hw : (w : Int) * k' ≤ w * k := Int.mul_le_mul_of_nonneg_left hk (by omega)
 obtain ⟨v, hv⟩ : ∃ v : Nat, 0 ≤ (w : Int) * k' + (w * (D - 1) : Nat) - e + v := ⟨(-((w : Int) * k' + (w * (D - 1) : Nat) - e)).toNat, by omega⟩
 have h1 := (h0f hd e w D k ((w : Int) * k + (w * (D - 1) : Nat) - e + v).toNat v (by omega)).1 h
 refine (h0f hd e w D k' ((w : Int) * k' + (w * (D - 1) : Nat) - e + v).toNat v (by omega)).2 (Nat.le_trans ?_ h1)
 exact Nat.mul_le_mul_left _ (Nat.pow_le_pow_right (by omega) (by omega))
structure IsK (num den : Nat) (e : Int) (w D : Nat) (K : Int) : Prop where
 yes : e0i num den e w D K
 no : ¬ e0i num den e w D (K + 1)
theorem IsK.le {num den : Nat} (hd : 0 < den) {e : Int} {w D : Nat} {K k : Int} (h : IsK num den e w D K) (hk : e0i num den e w D k) : k ≤ K := by
 rcases Int.lt_or_le K k with h1 | h1
 · exact absurd (k0f hd hk (by omega)) h.no
 · exact h1
theorem e0j (n : Int) (w : Nat) (hw : 0 < w) : (w : Int) * (n / w) ≤ n ∧ n < w * (n / w) + w := by
 have h1 := Int.emod_nonneg n (show (w : Int) ≠ 0 by omega)
 have h2 := Int.emod_lt_of_pos n (show (0 : Int) < w by omega)
 have h3 := Int.mul_ediv_add_emod n w
 omega
theorem p0f {num den : Nat} (hn : 0 < num) (hd : 0 < den) (e : Int) {w D : Nat} (hw : 0 < w) (hD : 1 ≤ D) (x : Int) (hx : x = (blen num : Int) - blen den + e) :
 e0i num den e w D (x / w - D) ∧ ¬ e0i num den e w D (x / w - D + 2) := by
 obtain ⟨b1, b2⟩ := e0j x w hw
 generalize x / (w : Int) = f at *
 have hn1 := e0z num hn
 have hn2 : num < 2 ^ blen num := (a0w num _).1 (Nat.le_refl _)
 have hd1 := e0z den hd
 have hd2 : den < 2 ^ blen den := (a0w den _).1 (Nat.le_refl _)
 have hbn := (c0o num).2 hn
 have hbd := (c0o den).2 hd
 have eD : (w : Int) * (f - D) + (w * (D - 1) : Nat) = w * f - w := by
  obtain ⟨d, rfl⟩ : ∃ d, D = d + 1 := ⟨D - 1, by omega⟩
  simp only [Nat.add_sub_cancel, Int.natCast_mul, Int.natCast_add]
  grind
 have eD2 : (w : Int) * (f - D + 2) + (w * (D - 1) : Nat) = w * f + w := by
  have : (w : Int) * (f - D + 2) = w * (f - D) + w * 2 := by grind
  omega
 constructor
 · obtain ⟨v, hv⟩ : ∃ v : Nat, 0 ≤ (w : Int) * f - w - e + v := ⟨(-((w : Int) * f - w - e)).toNat, by omega⟩
   refine (h0f hd e w D (f - D) ((w : Int) * f - w - e + v).toNat v (by omega)).2 ?_
   refine Nat.le_trans (Nat.mul_le_mul_right _ (Nat.le_of_lt hd2)) (Nat.le_trans ?_ (Nat.mul_le_mul_right _ hn1))
   rw [← Nat.pow_add, ← Nat.pow_add]
   exact Nat.pow_le_pow_right (by omega) (by omega)
 · obtain ⟨v, hv⟩ : ∃ v : Nat, 0 ≤ (w : Int) * f + w - e + v := ⟨(-((w : Int) * f + w - e)).toNat, by omega⟩
   intro h
   have h1 := (h0f hd e w D (f - D + 2) ((w : Int) * f + w - e + v).toNat v (by omega)).1 h
   have h2 : num * 2 ^ v < 2 ^ blen num * 2 ^ v := Nat.mul_lt_mul_of_pos_right hn2 (Nat.pow_pos (by omega))
   have h3 := Nat.mul_le_mul_right (2 ^ ((w : Int) * f + w - e + v).toNat) hd1
   rw [← Nat.pow_add] at h2 h3
   have h4 : 2 ^ (blen num + v) ≤ 2 ^ (blen den - 1 + ((w : Int) * f + w - e + v).toNat) := Nat.pow_le_pow_right (by omega) (by omega)
   omega
structure Pl where
 neg : Bool
 d : Nat
 pow : Int
 exact : Bool
 over : Bool
 under : Bool
def e0x (way : Int) (neg odd : Bool) (half : Int) : Bool :=
 if way = 1 then decide (0 < half) || (decide (half = 0) && odd) else if way = 2 then decide (0 ≤ half) else if way = 4 then !neg else if way = 5 then neg else false
def powK (g : Gd) (K : Int) : Int := if K < g.lo ∧ g.grad = true then g.lo else K
def upP (neg : Bool) (num den : Nat) (e : Int) (w : Nat) (way k : Int) : Bool :=
 decide (rP num den (e - w * k) ≠ 0) && e0x way neg (decide (qP num den (e - w * k) % 2 = 1)) (cmpN (rP num den (e - w * k) * 2) (denP den (e - w * k)))
def dUp (neg : Bool) (num den : Nat) (e : Int) (w : Nat) (way k : Int) : Nat := qP num den (e - w * k) + if upP neg num den e w way k then 1 else 0
def g0m (neg : Bool) (num den : Nat) (e : Int) (w D : Nat) (way k : Int) : Prop := upP neg num den e w way k = true ∧ w * D < blen (dUp neg num den e w way k)
instance (neg : Bool) (num den : Nat) (e : Int) (w D : Nat) (way k : Int) : Decidable (g0m neg num den e w D way k) := by unfold g0m; exact inferInstance
def digP (neg : Bool) (num den : Nat) (e : Int) (w D : Nat) (way k : Int) : Nat := if g0m neg num den e w D way k then 2 ^ (w * (D - 1)) else dUp neg num den e w way k
def powP (neg : Bool) (num den : Nat) (e : Int) (w D : Nat) (way k : Int) : Int := if g0m neg num den e w D way k then k + 1 else k
def fitK (neg : Bool) (num den : Nat) (e : Int) (g : Gd) (way K : Int) : Pl :=
 ⟨neg, digP neg num den e (wid g) g.digs.toNat way (powK g K),
  if digP neg num den e (wid g) g.digs.toNat way (powK g K) = 0 then 0 else powP neg num den e (wid g) g.digs.toNat way (powK g K),
  decide (rP num den (e - wid g * powK g K) = 0), decide (g.hi < powP neg num den e (wid g) g.digs.toNat way (powK g K)), decide (K < g.lo)⟩
theorem i0h {neg : Bool} {num den : Nat} {e : Int} {w D : Nat} {way k : Int} {X N : Nat} {ub : Bool} (h1 : upP neg num den e w way k = ub) (h2 : qP num den (e - w * k) = X) (h3 : N = w * (D - 1)) :
 digP neg num den e w D way k = (if ub = true ∧ w * D < blen (X + if ub then 1 else 0) then 2 ^ N else X + if ub then 1 else 0) ∧ powP neg num den e w D way k = if ub = true ∧ w * D < blen (X + if ub then 1 else 0) then k + 1 else k := by
 subst h1 h2 h3
 unfold digP powP
 by_cases h : g0m neg num den e w D way k
 · have h' : upP neg num den e w way k = true ∧ w * D < blen (qP num den (e - w * k) + if upP neg num den e w way k then 1 else 0) := h
   rw [if_pos h, if_pos h, if_pos h', if_pos h']; exact ⟨rfl, rfl⟩
 · have h' : ¬ (upP neg num den e w way k = true ∧ w * D < blen (qP num den (e - w * k) + if upP neg num den e w way k then 1 else 0)) := h
   rw [if_neg h, if_neg h, if_neg h', if_neg h']; exact ⟨rfl, rfl⟩
theorem z0s {neg : Bool} {num den : Nat} {e : Int} {g : Gd} {way K : Int} {wd D : Nat} {k1 : Int} {dd Y : Nat} {k2 : Int} (h5 : wid g = wd) (hD : g.digs.toNat = D) (h4 : powK g K = k1)
 (h2 : digP neg num den e wd D way k1 = dd) (h3 : powP neg num den e wd D way k1 = k2) (h8 : rP num den (e - wd * k1) = Y) :
 fitK neg num den e g way K = ⟨neg, dd, if dd = 0 then 0 else k2, decide (Y = 0), decide (g.hi < k2), decide (K < g.lo)⟩ := by
 subst h5 hD h4 h2 h3 h8
 rfl
def theK (num den : Nat) (e : Int) (w D : Nat) : Int :=
 if e0i num den e w D (((blen num : Int) - blen den + e) / w - D + 1) then ((blen num : Int) - blen den + e) / w - D + 1 else ((blen num : Int) - blen den + e) / w - D
theorem l0y {num den : Nat} (hn : 0 < num) (hd : 0 < den) (e : Int) {w D : Nat} (hw : 0 < w) (hD : 1 ≤ D) : IsK num den e w D (theK num den e w D) := by
 obtain ⟨h1, h2⟩ := p0f hn hd e hw hD _ rfl
 unfold theK
 by_cases h3 : e0i num den e w D (((blen num : Int) - blen den + e) / w - D + 1)
 · rw [if_pos h3]
   exact ⟨h3, by rw [show ∀ z : Int, z + 1 + 1 = z + 2 by omega]; exact h2⟩
 · rw [if_neg h3]
   exact ⟨h1, h3⟩
def a0m (neg : Bool) (num den : Nat) (e : Int) (g : Gd) (way : Int) : Pl :=
 if num = 0 then ⟨false, 0, 0, true, false, false⟩ else fitK neg num den e g way (theK num den e (wid g) g.digs.toNat)
theorem g0n {n : Nat} (h : n ≤ 480) : (dig B32 (2 ^ n)).length ≤ 16 := by
 have h1 := congrArg List.length (i0v (B := B32) (w := 32) (by decide) (by omega) n)
 rw [List.length_set, List.length_replicate] at h1
 omega
theorem h1g (z : Int) {e : Int} (hz : z ≠ 0) : e ≤ (norm z e).e := by
 unfold norm bare ofZ
 simp only
 rw [if_neg (by omega)]
 simp only
 omega
def upK (a : Dv) (w D : Nat) : Int := (topD a - 1) / w - D + 1
theorem z0t {m : Nat} (hm : 0 < m) (e : Int) {w D : Nat} (hw : 1 ≤ w) (hD : 1 ≤ D) : IsK m 1 e w D ((e + blen m - 1) / w - D + 1) := by
 have key : ∀ k : Int, e0i m 1 e w D k ↔ k ≤ (e + blen m - 1) / w - D + 1 := by
  intro k
  have hb := e0j (e + blen m - 1) w hw
  have hbm := (c0o m).2 hm
  obtain ⟨v, hv⟩ : ∃ v : Nat, 0 ≤ (w : Int) * k + (w * (D - 1) : Nat) - e + v := ⟨(-((w : Int) * k + (w * (D - 1) : Nat) - e)).toNat, by omega⟩
  rw [h0f (by omega) e w D k ((w : Int) * k + (w * (D - 1) : Nat) - e + v).toNat v (by omega), Nat.one_mul]
  have h1 : 2 ^ ((w : Int) * k + (w * (D - 1) : Nat) - e + v).toNat ≤ m * 2 ^ v ↔ ((w : Int) * k + (w * (D - 1) : Nat) - e + v).toNat < blen m + v := by
   have h2 := h0n hm v
   have h3 := a0w (m * 2 ^ v) ((w : Int) * k + (w * (D - 1) : Nat) - e + v).toNat
   omega
  rw [h1]
  have e1 : ((w * (D - 1) : Nat) : Int) = w * D - w := by
   obtain ⟨d, rfl⟩ : ∃ d, D = d + 1 := ⟨D - 1, by omega⟩
   simp only [Nat.add_sub_cancel, Int.natCast_mul, Int.natCast_add]; grind
  generalize (e + blen m - 1) / (w : Int) = f at *
  have e2 : (w : Int) * (f - D + 1) = w * f - w * D + w := by grind
  have e3 : (w : Int) * (k - 1) = w * k - w := by grind
  constructor
  · intro h
    rcases Int.lt_or_le (f - D + 1) k with h4 | h4
    · have h5 : (w : Int) * (f - D + 1 + 1) ≤ w * k := Int.mul_le_mul_of_nonneg_left (by omega) (by omega)
      have e4 : (w : Int) * (f - D + 1 + 1) = w * f - w * D + w + w := by grind
      omega
    · exact h4
  · intro h
    have h5 : (w : Int) * k ≤ w * (f - D + 1) := Int.mul_le_mul_of_nonneg_left h (by omega)
    omega
 exact ⟨(key _).2 (Int.le_refl _), fun h => by have := (key _).1 h; omega⟩
def b0r (a : Dv) (g : Gd) : Bool :=
 if a.m = 0 then true else
 if a.e < wid g * g.lo ∨ wid g * (g.hi + g.digs) < topD a then false else
 if upK a (wid g) g.digs.toNat < g.lo then (if g.grad then decide (wid g * g.lo ≤ a.e) else false) else decide (wid g * upK a (wid g) g.digs.toNat ≤ a.e)
def j0b (a : Dv) (g : Gd) : Bool :=
 if a.m = 0 then true else
 (fitK a.neg a.m 1 a.e g 3 (upK a (wid g) g.digs.toNat)).exact && !(fitK a.neg a.m 1 a.e g 3 (upK a (wid g) g.digs.toNat)).over && (!(fitK a.neg a.m 1 a.e g 3 (upK a (wid g) g.digs.toNat)).under || g.grad)
theorem p0g (neg : Bool) (num den : Nat) (e : Int) (w : Nat) (k : Int) : upP neg num den e w 3 k = false := by
 unfold upP e0x
 simp
theorem q0z (neg : Bool) (num den : Nat) (e : Int) (w D : Nat) (k : Int) : powP neg num den e w D 3 k = k := by
 unfold powP
 rw [if_neg]
 unfold g0m
 rw [p0g]
 simp
theorem z0u (neg : Bool) (num den : Nat) (e : Int) (w D : Nat) (k : Int) : digP neg num den e w D 3 k = qP num den (e - w * k) := by
 unfold digP
 rw [if_neg]
 · unfold dUp; rw [p0g]; simp
 · unfold g0m; rw [p0g]; simp
theorem z0v {m : Nat} (hm : m % 2 = 1) (n : Int) : rP m 1 n = 0 ↔ 0 ≤ n := by
 unfold rP numP denP
 by_cases h : 0 ≤ n
 · have e1 : (-n).toNat = 0 := by omega
   rw [e1]
   simp [h, Nat.mod_one]
 · have e1 : n.toNat = 0 := by omega
   rw [e1, Nat.pow_zero, Nat.mul_one, Nat.one_mul]
   have := g1e (n := (-n).toNat) hm (by omega)
   constructor
   · intro h2; exact absurd h2 this
   · intro h2; exact absurd h2 h
theorem c1z {a : Dv} (ha : Bare a) {g : Gd} (G : h0v g) : j0b a g = b0r a g := by
 unfold j0b b0r
 by_cases h0 : a.m = 0
 · rw [if_pos h0, if_pos h0]
 · rw [if_neg h0, if_neg h0]
   have hodd : a.m % 2 = 1 := by
    rcases ha with h | h
    · exact h
    · rw [h] at h0; simp at h0
   have wp := b0f g
   have hd := G.d1
   have hle := G.le
   have hb := e0j (topD a - 1) (wid g) (by omega)
   obtain ⟨D, hD⟩ : ∃ D : Nat, g.digs = D := ⟨g.digs.toNat, by omega⟩
   have hDt : g.digs.toNat = D := by omega
   rw [hDt, hD]
   have eU : upK a (wid g) D = (topD a - 1) / (wid g : Int) - D + 1 := rfl
   obtain ⟨K, hK⟩ : ∃ K, upK a (wid g) D = K := ⟨_, rfl⟩
   rw [hK] at eU ⊢
   generalize (topD a - 1) / (wid g : Int) = f at *
   show (decide (rP a.m 1 (a.e - wid g * powK g K) = 0) && !decide (g.hi < powP a.neg a.m 1 a.e (wid g) g.digs.toNat 3 (powK g K)) && (!decide (K < g.lo) || g.grad)) = _
   rw [q0z]
   have hx : decide (rP a.m 1 (a.e - wid g * powK g K) = 0) = decide (wid g * powK g K ≤ a.e) := by
    have := z0v hodd (a.e - wid g * powK g K)
    by_cases h : (wid g : Int) * powK g K ≤ a.e
    · rw [decide_eq_true h, decide_eq_true (this.2 (by omega))]
    · rw [decide_eq_false h, decide_eq_false (fun h2 => h (by have := this.1 h2; omega))]
   rw [hx]
   have w0 : 0 ≤ (wid g : Int) := by omega
   have eh : (wid g : Int) * (g.hi + D) = wid g * g.hi + wid g * D := Int.mul_add _ _ _
   have eK : (wid g : Int) * K = wid g * f - wid g * D + wid g := by rw [eU]; grind
   have hll : (wid g : Int) * g.lo ≤ wid g * g.hi := Int.mul_le_mul_of_nonneg_left hle w0
   rw [eh]
   have hKh : K ≤ g.hi ↔ topD a ≤ wid g * g.hi + wid g * D := by
    constructor
    · intro h
      have := Int.mul_le_mul_of_nonneg_left h w0
      omega
    · intro h
      rcases Int.lt_or_le g.hi K with h1 | h1
      · have h2 : (wid g : Int) * (g.hi + 1) ≤ wid g * K := Int.mul_le_mul_of_nonneg_left (by omega) w0
        rw [Int.mul_add] at h2
        omega
      · exact h1
   unfold powK
   by_cases hu : K < g.lo
   · have hh := hKh.1 (by omega)
     cases hg : g.grad
     · simp [hu]
     · simp only [hu, true_and, if_true, decide_true, Bool.not_true, Bool.false_or, Bool.and_true]
       rw [decide_eq_false (by omega : ¬ g.hi < g.lo)]
       by_cases h1 : (wid g : Int) * g.lo ≤ a.e
       · rw [if_neg (by omega)]; simp [h1]
       · rw [if_pos (by omega)]; simp [h1]
   · rw [if_neg (by omega), if_neg hu, decide_eq_false hu]
     simp only [Bool.not_false, Bool.true_or, Bool.and_true]
     have h3 : (wid g : Int) * g.lo ≤ wid g * K := Int.mul_le_mul_of_nonneg_left (by omega) w0
     by_cases h1 : (wid g : Int) * K ≤ a.e
     · by_cases h2 : g.hi < K
       · rw [if_pos (.inr (by have := hKh.2; omega)), decide_eq_true h2]; simp
       · rw [if_neg (by have := hKh.1 (by omega); omega), decide_eq_false h2]; simp
     · rw [decide_eq_false h1]
       split <;> simp
theorem n0u {z : Int} (hz : z ≠ 0) (e : Int) : (norm z e).m ≠ 0 := by
 unfold norm ofZ bare
 simp only
 rw [if_neg (by omega)]
 have := (c0h z.natAbs (by omega)).2
 simp only
 omega
theorem v0b {z : Int} (hz : z ≠ 0) (e : Int) : topD (norm z e) = e + blen z.natAbs := by
 unfold norm ofZ bare topD
 simp only
 rw [if_neg (by omega)]
 have h := (c0h z.natAbs (by omega)).1
 have h2 := (c0h z.natAbs (by omega)).2
 have h4 : 0 < z.natAbs / 2 ^ tz z.natAbs := by
  generalize z.natAbs / 2 ^ tz z.natAbs = q at *
  omega
 have h3 := h0n h4 (tz z.natAbs)
 rw [Nat.mul_comm, h] at h3
 simp only
 omega
def stepK (a : Dv) (g : Gd) : Int := max g.lo (upK a (wid g) g.digs.toNat)
theorem i0i {g : Gd} (G : h0v g) {D : Nat} (hD : g.digs = D) {z : Int} {k : Int} (h1 : z.natAbs < 2 ^ (wid g * D)) (h2 : z = 0 ∨ 2 ^ (wid g * (D - 1)) ≤ z.natAbs ∨ (g.grad = true ∧ k = g.lo)) (hk : g.lo ≤ k) (hk2 : k ≤ g.hi) : b0r (norm z (wid g * k)) g = true := by
 by_cases hz : z = 0
 · subst hz; rfl
 · have wp := b0f g
   have hd := G.d1
   have w0 : 0 ≤ (wid g : Int) := by omega
   have ht := v0b hz (wid g * k)
   have he := h1g z (e := wid g * k) hz
   have hm := n0u hz (wid g * k)
   generalize norm z (wid g * k) = a at *
   have hDt : g.digs.toNat = D := by omega
   have hb1 : blen z.natAbs ≤ wid g * D := (a0w _ _).2 h1
   have hb0 := (c0o z.natAbs).2 (by omega)
   unfold b0r
   rw [if_neg hm, hDt, hD]
   have e1 : ((wid g * D : Nat) : Int) = wid g * D := Int.natCast_mul _ _
   have a1 : (wid g : Int) * g.lo ≤ wid g * k := Int.mul_le_mul_of_nonneg_left hk w0
   have a2 : (wid g : Int) * k ≤ wid g * g.hi := Int.mul_le_mul_of_nonneg_left hk2 w0
   have e2 : (wid g : Int) * (g.hi + D) = wid g * g.hi + wid g * D := Int.mul_add _ _ _
   rw [if_neg (by omega)]
   have hb := e0j (topD a - 1) (wid g) (by omega)
   have eU : upK a (wid g) D = (topD a - 1) / (wid g : Int) - D + 1 := rfl
   generalize upK a (wid g) D = K at *
   generalize (topD a - 1) / (wid g : Int) = f at *
   have eK : (wid g : Int) * K = wid g * f - wid g * D + wid g := by rw [eU]; grind
   have hKk : K ≤ k := by
    rcases Int.lt_or_le k K with h | h
    · have h3 : (wid g : Int) * (k + 1) ≤ wid g * K := Int.mul_le_mul_of_nonneg_left (by omega) w0
      rw [Int.mul_add] at h3
      omega
    · exact h
   have a3 : (wid g : Int) * K ≤ wid g * k := Int.mul_le_mul_of_nonneg_left hKk w0
   by_cases hu : K < g.lo
   · rw [if_pos hu]
     rcases h2 with h2 | h2 | ⟨h2, _⟩
     · exact absurd h2 hz
     · exfalso
       have h3 : wid g * (D - 1) < blen z.natAbs := by
        rcases Nat.lt_or_ge (wid g * (D - 1)) (blen z.natAbs) with h | h
        · exact h
        · have := (a0w _ _).1 h; omega
       have e3 : ((wid g * (D - 1) : Nat) : Int) = wid g * D - wid g := by
        obtain ⟨d, rfl⟩ : ∃ d, D = d + 1 := ⟨D - 1, by omega⟩
        simp only [Nat.add_sub_cancel, Int.natCast_mul, Int.natCast_add]; grind
       have h4 : (wid g : Int) * (K + 1) ≤ wid g * k := Int.mul_le_mul_of_nonneg_left (by omega) w0
       rw [Int.mul_add] at h4
       omega
     · rw [if_pos h2]; exact dTr (by omega)
   · rw [if_neg hu]; exact dTr (by omega)
theorem z0w {a : Dv} {g : Gd} (G : h0v g) (hin : b0r a g = true) (h0 : a.m ≠ 0) :
 wid g * stepK a g ≤ a.e ∧ a.e ≤ wid g * stepK a g + 484 ∧ g.lo ≤ stepK a g ∧ stepK a g ≤ g.hi := by
 have wp := b0f g
 have hd := G.d1
 have hd2 := G.d2
 have hle := G.le
 have w0 : (0 : Int) ≤ wid g := by omega
 obtain ⟨D, hD⟩ : ∃ D : Nat, g.digs = D := ⟨g.digs.toNat, by omega⟩
 have hDt : g.digs.toNat = D := by omega
 have hwD : wid g * D ≤ 4 * 120 := Nat.mul_le_mul wp.2 (by omega)
 have ewD : ((wid g * D : Nat) : Int) = wid g * D := Int.natCast_mul _ _
 unfold stepK
 unfold b0r at hin
 rw [if_neg h0, hDt, hD] at hin
 rw [hDt]
 have hb := e0j (topD a - 1) (wid g) (by omega)
 have eU : upK a (wid g) D = (topD a - 1) / (wid g : Int) - D + 1 := rfl
 have etop : topD a = a.e + blen a.m := rfl
 have hbm := (c0o a.m).2 (by omega)
 generalize topD a = T at *
 generalize upK a (wid g) D = K at *
 generalize (T - 1) / (wid g : Int) = f at *
 have eK : (wid g : Int) * K = wid g * f - wid g * D + wid g := by rw [eU]; grind
 have ehi : (wid g : Int) * (g.hi + D) = wid g * g.hi + wid g * D := Int.mul_add _ _ _
 by_cases h1 : a.e < wid g * g.lo ∨ wid g * (g.hi + D) < T
 · rw [if_pos h1] at hin; simp at hin
 · rw [if_neg h1] at hin
   by_cases hu : K < g.lo
   · rw [if_pos hu] at hin
     have hm : max g.lo K = g.lo := by omega
     rw [hm]
     have h2 : (wid g : Int) * (K + 1) ≤ wid g * g.lo := Int.mul_le_mul_of_nonneg_left (by omega) w0
     rw [Int.mul_add] at h2
     exact ⟨by omega, by omega, by omega, by omega⟩
   · rw [if_neg hu] at hin
     have hm : max g.lo K = K := by omega
     have h2 := oTr hin
     rw [hm]
     have h3 : K ≤ g.hi := by
      rcases Int.lt_or_le g.hi K with h | h
      · have h4 : (wid g : Int) * (g.hi + 1) ≤ wid g * K := Int.mul_le_mul_of_nonneg_left (by omega) w0
        rw [Int.mul_add] at h4
        omega
      · exact h
     exact ⟨by omega, by omega, by omega, h3⟩
def le2 (a : Nat) (x : Int) (b : Nat) (y : Int) : Prop := a * 2 ^ (x - min x y).toNat ≤ b * 2 ^ (y - min x y).toNat
theorem l0z {a b : Nat} {x y : Int} (s : Int) (h1 : s ≤ x) (h2 : s ≤ y) : le2 a x b y ↔ a * 2 ^ (x - s).toNat ≤ b * 2 ^ (y - s).toNat := by
 unfold le2
 rw [show (x - s).toNat = (x - min x y).toNat + (min x y - s).toNat by omega, show (y - s).toNat = (y - min x y).toNat + (min x y - s).toNat by omega, Nat.pow_add, Nat.pow_add, ← Nat.mul_assoc, ← Nat.mul_assoc]
 have hp : 0 < 2 ^ (min x y - s).toNat := Nat.pow_pos (by omega)
 exact ⟨fun h => Nat.mul_le_mul_right _ h, fun h => Nat.le_of_mul_le_mul_right h hp⟩
theorem z0x {a b c : Nat} {x y z : Int} (h : le2 a x b y) (k : le2 b y c z) : le2 a x c z := by
 obtain ⟨s, h1, h2, h3⟩ : ∃ s : Int, s ≤ x ∧ s ≤ y ∧ s ≤ z := ⟨min x (min y z), by omega, by omega, by omega⟩
 rw [l0z s h1 h2] at h
 rw [l0z s h2 h3] at k
 rw [l0z s h1 h3]
 exact Nat.le_trans h k
theorem h1h {a : Nat} {x : Int} (n : Nat) : le2 (a * 2 ^ n) x a (x + n) ∧ le2 a (x + n) (a * 2 ^ n) x := by
 rw [l0z x (Int.le_refl _) (by omega), l0z x (by omega) (Int.le_refl _)]
 rw [show (x - x).toNat = 0 by omega, show (x + (n : Int) - x).toNat = n by omega]
 simp
theorem f1o {num den : Nat} (hd : 0 < den) (e k : Int) (m : Nat) : m ≤ qP num den (e - k) ↔ le2 (m * den) k num e := by
 unfold qP
 rw [Nat.le_div_iff_mul_le (h0q hd _)]
 unfold numP denP le2
 rcases Int.le_total k e with h | h
 · rw [show (-(e - k)).toNat = 0 by omega, show (k - min k e).toNat = 0 by omega, show (e - min k e).toNat = (e - k).toNat by omega]
   simp only [Nat.pow_zero, Nat.mul_one]
 · rw [show (e - k).toNat = 0 by omega, show (k - min k e).toNat = (-(e - k)).toNat by omega, show (e - min k e).toNat = 0 by omega]
   simp only [Nat.pow_zero, Nat.mul_one, Nat.mul_assoc]
theorem z0y {num den : Nat} (hd : 0 < den) (e : Int) (w D : Nat) (k : Int) : e0i num den e w D k ↔ le2 (2 ^ (w * (D - 1)) * den) (w * k) num e := by
 unfold e0i; exact f1o hd e _ _
end Go.Slip
