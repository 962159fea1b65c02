/- Steps of a walk in few words (for texts that sx.py prints). No program is in sight here. -/
import Derived.Test.YtlegnbigddhmlaaDoorZSx
namespace Go.Slip
open Go.RowKit
theorem sx_thenret {next : Act → World → Prop} {Q : Exit → Act → World → Prop} {a : Act} {w : World} (h : Q .ret a w) : Exit.then next Q .ret a w := h
theorem sx_blockret {id : Nat} {Q : Exit → Act → World → Prop} {a : Act} {w : World} (h : Q .ret a w) : Exit.inBlock id Q .ret a w := h

section
variable {P : Program} {ops : Array Oper} {Q : Exit → Act → World → Prop} {a : Act} {w : World} {rest : List Oper} {o : Oper} {K : Act → World → Prop}

/-- A value. -/
theorem sk (d : Nat) (v : Value) (h : K (a.put (some d) v) w) (hr : (execOp a.eval o).run P w = .ok (.value v) w := by kernel_rfl) (hd : o.dst = some d := by kernel_rfl) (hw : Region.wanted o (yielded ops a.tmps) = true := by kernel_rfl) : OpW P ops Q o K a w := opw_val (some d) hd v hw hr h
theorem sv (d : Nat) (v : Value) (h : WpL P ops Q rest (a.put (some d) v) w) (hr : (execOp a.eval o).run P w = .ok (.value v) w := by kernel_rfl) (hd : o.dst = some d := by kernel_rfl) (hw : Region.wanted o (yielded ops a.tmps) = true := by kernel_rfl) : WpL P ops Q (o :: rest) a w := wpList_of (opw_val (some d) hd v hw hr h)
/-- Not wanted. -/
theorem so (d : Option Tmp) (h : WpL P ops Q rest (a.put d undef) w) (hd : o.dst = d := by kernel_rfl) (hw : Region.wanted o (yielded ops a.tmps) = false := by kernel_rfl) : WpL P ops Q (o :: rest) a w := wpList_of (opw_off d hd hw h)
/-- A new block. -/
theorem snk (d : Nat) (vs : Array Value) (t : TypeId) (h : ∀ W, Below w.heap.size w W → W.heap.size = w.heap.size + 1 → Bt W w.heap.size t vs → K (a.put (some d) (.pointer (some ⟨w.heap.size, 0, none⟩))) W)
    (hd : o.dst = some d := by kernel_rfl) (hw : Region.wanted o (yielded ops a.tmps) = true := by kernel_rfl) (hr : (execOp a.eval o).run P w = .ok (.value (.pointer (some ⟨w.heap.size, 0, none⟩))) (w.alloc (.cells vs t)) := by kernel_rfl) : OpW P ops Q o K a w := opw_new (some d) hd vs t hw hr h
theorem sn (d : Nat) (vs : Array Value) (t : TypeId) (h : ∀ W, Below w.heap.size w W → W.heap.size = w.heap.size + 1 → Bt W w.heap.size t vs → WpL P ops Q rest (a.put (some d) (.pointer (some ⟨w.heap.size, 0, none⟩))) W)
    (hd : o.dst = some d := by kernel_rfl) (hw : Region.wanted o (yielded ops a.tmps) = true := by kernel_rfl) (hr : (execOp a.eval o).run P w = .ok (.value (.pointer (some ⟨w.heap.size, 0, none⟩))) (w.alloc (.cells vs t)) := by kernel_rfl) : WpL P ops Q (o :: rest) a w := wpList_of (opw_new (some d) hd vs t hw hr h)
theorem snvk (d : Nat) (v : Value) (vs : Array Value) (t : TypeId) (h : ∀ W, Below w.heap.size w W → W.heap.size = w.heap.size + 1 → Bt W w.heap.size t vs → K (a.put (some d) v) W)
    (hd : o.dst = some d := by kernel_rfl) (hw : Region.wanted o (yielded ops a.tmps) = true := by kernel_rfl) (hr : (execOp a.eval o).run P w = .ok (.value v) (w.alloc (.cells vs t)) := by kernel_rfl) : OpW P ops Q o K a w := opw_newv (some d) hd v vs t hw hr h
theorem snv (d : Nat) (v : Value) (vs : Array Value) (t : TypeId) (h : ∀ W, Below w.heap.size w W → W.heap.size = w.heap.size + 1 → Bt W w.heap.size t vs → WpL P ops Q rest (a.put (some d) v) W)
    (hd : o.dst = some d := by kernel_rfl) (hw : Region.wanted o (yielded ops a.tmps) = true := by kernel_rfl) (hr : (execOp a.eval o).run P w = .ok (.value v) (w.alloc (.cells vs t)) := by kernel_rfl) : WpL P ops Q (o :: rest) a w := wpList_of (opw_newv (some d) hd v vs t hw hr h)
/-- A call. -/
theorem sek (d : Nat) (f : FuncId) (args : Array Value) (h : Calls P f args w fun e w' => ∃ v, e = .returned v ∧ K (a.put (some d) v) w')
    (hd : o.dst = some d := by kernel_rfl) (hw : Region.wanted o (yielded ops a.tmps) = true := by kernel_rfl) (hr : (execOp a.eval o).run P w = .ok (.enter f args) w := by kernel_rfl) : OpW P ops Q o K a w := opw_enter (some d) hd f args hw hr h
theorem se (d : Nat) (f : FuncId) (args : Array Value) (h : ∀ G : Act → World → Prop, (∀ a w, WpL P ops Q rest a w → G a w) → Calls P f args w fun e w' => ∃ v, e = .returned v ∧ G (a.put (some d) v) w')
    (hd : o.dst = some d := by kernel_rfl) (hw : Region.wanted o (yielded ops a.tmps) = true := by kernel_rfl) (hr : (execOp a.eval o).run P w = .ok (.enter f args) w := by kernel_rfl) : WpL P ops Q (o :: rest) a w := wpList_of (opw_enter (some d) hd f args hw hr (h _ fun _ _ h => h))
/-- Stores. -/
theorem ssk (d : Option Tmp) {ty : TypeId} {x y : Operand} {b : Nat} {t : TypeId} {vs : Array Value} (hX : Bt w b t vs) {n : Nat} (hT : SxAgg P ty n) (off : Nat) (cs vs' : Array Value) (h : ∀ W, Only b w W → Bt W b t vs' → K (a.put d undef) W)
    (hd : o.dst = d := by kernel_rfl) (hw : Region.wanted o (yielded ops a.tmps) = true := by kernel_rfl) (ho : o.op = .store ty x y := by rfl) (hx : a.eval x = .pointer (some ⟨b, off, none⟩) := by kernel_rfl) (hy : a.eval y = .agg cs := by kernel_rfl)
    (hn : cs.size = n := by kernel_rfl) (hle' : Nat.ble (off + n) vs.size = true := by kernel_rfl) (h1 : cs.all (·.oneCell') = true := by kernel_rfl) (hv : putL vs off cs.toList = vs' := by kernel_rfl) : OpW P ops Q o K a w :=
  opw_st d hd hX hT off cs vs' hw ho hx hy hn hle' h1 hv h
theorem ss (d : Option Tmp) {ty : TypeId} {x y : Operand} {b : Nat} {t : TypeId} {vs : Array Value} (hX : Bt w b t vs) {n : Nat} (hT : SxAgg P ty n) (off : Nat) (cs vs' : Array Value) (h : ∀ W, Only b w W → Bt W b t vs' → WpL P ops Q rest (a.put d undef) W)
    (hd : o.dst = d := by kernel_rfl) (hw : Region.wanted o (yielded ops a.tmps) = true := by kernel_rfl) (ho : o.op = .store ty x y := by rfl) (hx : a.eval x = .pointer (some ⟨b, off, none⟩) := by kernel_rfl) (hy : a.eval y = .agg cs := by kernel_rfl)
    (hn : cs.size = n := by kernel_rfl) (hle' : Nat.ble (off + n) vs.size = true := by kernel_rfl) (h1 : cs.all (·.oneCell') = true := by kernel_rfl) (hv : putL vs off cs.toList = vs' := by kernel_rfl) : WpL P ops Q (o :: rest) a w :=
  wpList_of (opw_st d hd hX hT off cs vs' hw ho hx hy hn hle' h1 hv h)
theorem ss1k (d : Option Tmp) {ty : TypeId} {x y : Operand} {b : Nat} {t : TypeId} {vs : Array Value} (hX : Bt w b t vs) (hT : SxOne P ty) (off : Nat) (v : Value) (vs' : Array Value) (h : ∀ W, Only b w W → Bt W b t vs' → K (a.put d undef) W)
    (hd : o.dst = d := by kernel_rfl) (hw : Region.wanted o (yielded ops a.tmps) = true := by kernel_rfl) (ho : o.op = .store ty x y := by rfl) (hx : a.eval x = .pointer (some ⟨b, off, none⟩) := by kernel_rfl) (hy : a.eval y = v := by kernel_rfl)
    (hle' : Nat.ble (off + 1) vs.size = true := by kernel_rfl) (h1 : v.cells = #[v] := by kernel_rfl) (h5 : v.oneCell' = true := by kernel_rfl) (hv : vs.setIfInBounds off v = vs' := by kernel_rfl) : OpW P ops Q o K a w :=
  opw_st1 d hd hX hT off v vs' hw ho hx hy hle' h1 h5 hv h
theorem ss1 (d : Option Tmp) {ty : TypeId} {x y : Operand} {b : Nat} {t : TypeId} {vs : Array Value} (hX : Bt w b t vs) (hT : SxOne P ty) (off : Nat) (v : Value) (vs' : Array Value) (h : ∀ W, Only b w W → Bt W b t vs' → WpL P ops Q rest (a.put d undef) W)
    (hd : o.dst = d := by kernel_rfl) (hw : Region.wanted o (yielded ops a.tmps) = true := by kernel_rfl) (ho : o.op = .store ty x y := by rfl) (hx : a.eval x = .pointer (some ⟨b, off, none⟩) := by kernel_rfl) (hy : a.eval y = v := by kernel_rfl)
    (hle' : Nat.ble (off + 1) vs.size = true := by kernel_rfl) (h1 : v.cells = #[v] := by kernel_rfl) (h5 : v.oneCell' = true := by kernel_rfl) (hv : vs.setIfInBounds off v = vs' := by kernel_rfl) : WpL P ops Q (o :: rest) a w :=
  wpList_of (opw_st1 d hd hX hT off v vs' hw ho hx hy hle' h1 h5 hv h)
end

section
variable {P : Program} {ops : Array Oper} {Q : Exit → Act → World → Prop} {S : World → Prop} {fuel : Nat} {listed : Array Bool} {a : Act} {w : World}
/-- Taken first. -/
theorem tk (i : Nat) {oi : Oper} (d : Nat) (v : Value) (hS : S w) (h : WpH P ops Q S fuel (listed.setIfInBounds i true) (a.put (some d) v) w)
    (hy : ∀ w', S w' → (execOp a.eval oi).run P w' = .ok (.value v) w' := by intro _ _; kernel_rfl) (hi : ops[i]? = some oi := by rfl) (hd : oi.dst = some d := by kernel_rfl)
    (hs : Region.noSelect ops = true := by kernel_rfl) (hf : Region.free .any ops listed i = true := by kernel_rfl) (hr : (Region.ready .any ops listed).contains i = true := by kernel_rfl)
    (hQ : ∀ c a w, Q (.panic c) (a.put (some d) v) w → Q (.panic c) a w := by first | exact fun _ _ _ h => h | exact fun _ _ _ h => cut_panic h) (hw : Region.wanted oi (yielded ops a.tmps) = true := by kernel_rfl) : WpH P ops Q S (fuel + 1) listed a w :=
  sx_take i (some d) v _ hi hd rfl hs hf hr hQ (.inl ⟨hw, hy⟩) hS h
theorem tko (i : Nat) {oi : Oper} (d : Nat) (hS : S w) (h : WpH P ops Q S fuel (listed.setIfInBounds i true) (a.put (some d) undef) w) (hi : ops[i]? = some oi := by rfl) (hd : oi.dst = some d := by kernel_rfl)
    (hs : Region.noSelect ops = true := by kernel_rfl) (hf : Region.free .any ops listed i = true := by kernel_rfl) (hr : (Region.ready .any ops listed).contains i = true := by kernel_rfl)
    (hQ : ∀ c a w, Q (.panic c) (a.put (some d) undef) w → Q (.panic c) a w := by first | exact fun _ _ _ h => h | exact fun _ _ _ h => cut_panic h) (hw : Region.wanted oi (yielded ops a.tmps) = false := by kernel_rfl) : WpH P ops Q S (fuel + 1) listed a w :=
  sx_take i (some d) undef _ hi hd rfl hs hf hr hQ (.inr ⟨hw, rfl⟩) hS h
theorem rd1 {i : Nat} {o : Oper} {rs : List Nat} (h : ∀ K' : Act → World → Prop, Shut (∀ a w, S w → WpH P ops Q S fuel (listed.setIfInBounds i true) a w → K' a w) → OpW P ops Q o K' a w)
    (hs : Rdy P ops Q S fuel listed a w rs := by exact rdy_nil) (ho : ops[i]? = some o := by rfl) : Rdy P ops Q S fuel listed a w (i :: rs) := rdy_cons _ ho rfl h hs
theorem rd2 {i : Nat} {o : Oper} {rs : List Nat} (h : ∀ K' : Act → World → Prop, Shut (∀ a w, S w → WpH P ops Q S fuel (listed.setIfInBounds i true) a w → K' a w) → OpW P ops Q o K' a w)
    (hs : Rdy P ops Q S fuel listed a w rs) (ho : ops[i]? = some o := by rfl) : Rdy P ops Q S fuel listed a w (i :: rs) := rdy_cons _ ho rfl h hs
theorem sxr (rs : List Nat) (h : Rdy P ops Q S fuel listed a w rs) (hr : Region.ready .any ops listed = rs := by kernel_rfl) (hne : rs.isEmpty = false := by rfl) : WpH P ops Q S (fuel + 1) listed a w := sx_ready rs hr hne h
end
theorem sxd (P : Program) {ops : Array Oper} {Q : Exit → Act → World → Prop} (S : World → Prop) {id : Nat} {a : Act} {w V : World} (hV : V = w.drew) (hS : S V)
    (h : WpH P ops Q S ops.size (Array.replicate ops.size false) a V) (hm : P.follows .mixedOrders = true := by kernel_rfl) : (Code.region id ops true).wp P Q a w := sx_drawn S hV hm hS h

end Go.Slip
