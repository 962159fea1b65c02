/- Steps of a walk in as few words as may be: what only reckons goes by itself (for texts that sx.py prints). No program is in sight here.
   Bits and bytes of a pattern, and the numbers that they are. No program is in sight here.
   A number without the digits 0 behind, told by the program and by the reference. No program is in sight here.
   Rounding to a grid: what it comes to, as plain arithmetic. No program is in sight here.
   Places that were rounded are not long. No program is in sight here.
   Which numbers a grid holds. No program is in sight here.
   The next number of a grid: the program's way and the document's come to the same. No program is in sight here.
   A step's bounds. No program is in sight here.
   Rounding to a grid: what comes of it lies so and so beside what was rounded; who is more is rounded to no less. Plain arithmetic. No program is in sight here.
   Bounds of what is rounded. Plain arithmetic. No program is in sight here.
   The formats of chapter 5, what a pattern's number is, said in numbers. No program is in sight here.
   A pattern's bits and its number: what the reference reads, and what it writes. No program is in sight here.
   An append onto a row of the call's own as far as the form reaches; twin, spoil.
   Steps over slices in rows of the call's own, as sx.py prints them: append, a slice's part, an index, a load. No program is in sight here.
   Texts as lists of bytes; '[]byte(s)'. No program is in sight here.
   Slices of values of one cell each (texts, truth values): what Base says of numbers; steps over them. No program is in sight here.
   Slices that may be written to, of rows of the call's own, with a mark or without one. No program is in sight here.
   Steps over slices of any values and over rows with a mark, as sx.py prints them. No program is in sight here.
   limb.small: division by one digit.
   codec: forms, Size, Grid, open, and how bytes are ordered.
   limb.Of.
   Quotients and roots with a sticky bit, cut to so many bits: they don't hang on how far one reckoned. Plain arithmetic. No program is in sight here.
   Boxes of structs: what is stored into one.
   dyad.Whole, Opposite.
   ball: around.
   limb.less, limb.more: over a window of a row.
   bits.LeadingZeros32, limb.Div.
   limb.Div: long division.
   ball: rows of numbers; how far what is cut, and a quotient, goes.
   ball: Over.
   ball: check.
   ball: Done; Plus, Times, Join, Opposite.
   What the series call, said of whole numbers over one power of 2.
   What codec's functions call, in the form that sx.py's rows want.
   The references' division by one digit.
   codec: split: the parts of a pattern. -/
import Derived.Deep.LoopGhost
import Derived.Lib.ConvBytes
import Derived.Deep.RegionLaw
import Derived.Maps.AppendAt
import Derived.Test.YtcipdimogodndaaDoorZt1
import Derived.Test.YtcipdimogodndaaDoorZt2
namespace Go.Slip
open Go.RowKit

def us : Nat → List Value → List Value
  | 0, l => l
  | n + 1, l => undef :: us n l

def uvs (U : Nat → Value) : Nat → Nat → List Value → List Value
  | _, 0, l => l
  | i, n + 1, l => U i :: uvs U (i + 1) n l

def runN (P : Program) (ops : Array Oper) : Nat → List Oper → Act → World → Option (Act × World)
  | 0, _, a, w => some (a, w)
  | _ + 1, [], _, _ => none
  | n + 1, o :: l, a, w =>
    match Region.wanted o (yielded ops a.tmps) with
    | true => match (execOp a.eval o).run P w with
      | .ok (.value v) w' => runN P ops n l (a.put o.dst v) w'
      | _ => none
    | false => runN P ops n l (a.put o.dst undef) w
def actN (P : Program) (ops : Array Oper) (n : Nat) (l : List Oper) (a : Act) (w : World) : Act := match runN P ops n l a w with | some (a', _) => a' | none => a

section
variable {P : Program} {ops : Array Oper} {Q : Exit → Act → World → Prop}
theorem runN_sound : ∀ (n : Nat) (l : List Oper) (a : Act) (w : World) (a' : Act) (w' : World), runN P ops n l a w = some (a', w') → WpL P ops Q (l.drop n) a' w' → WpL P ops Q l a w
  | 0, l, a, w, a', w', h, k => by
    simp only [runN, Option.some.injEq, Prod.mk.injEq] at h
    obtain ⟨rfl, rfl⟩ := h
    exact k
  | n + 1, [], a, w, a', w', h, k => by simp [runN] at h
  | n + 1, o :: l, a, w, a', w', h, k => by
    unfold runN at h
    split at h
    · rename_i hw
      split at h
      · rename_i v w2 hr
        refine wpList_of ⟨?_⟩
        rw [if_pos hw]
        unfold Oper.wp
        rw [hr]
        exact runN_sound n l _ _ a' w' h k
      · cases h
    · rename_i hw
      refine wpList_of ⟨?_⟩
      rw [if_neg (by simp [hw])]
      exact runN_sound n l _ _ a' w' h k

variable {a : Act} {w : World} {l l' : List Oper} {o : Oper}

theorem yn (n : Nat) (hs : l.drop n = l') (h : WpL P ops Q l' (actN P ops n l a w) w) (hr : runN P ops n l a w = some (actN P ops n l a w, w) := by kernel_rfl) : WpL P ops Q l a w :=
  runN_sound n l a w _ _ hr (by rw [hs]; exact h)
theorem yv (n : Nat) (hs : l.drop n = o :: l') (d : Nat) (v : Value) (h : WpL P ops Q l' ((actN P ops n l a w).put (some d) v) w) (hv : (execOp (actN P ops n l a w).eval o).run P w = .ok (.value v) w := by kernel_rfl)
    (hd : o.dst = some d := by kernel_rfl) (hw : Region.wanted o (yielded ops (actN P ops n l a w).tmps) = true := by kernel_rfl) (hr : runN P ops n l a w = some (actN P ops n l a w, w) := by kernel_rfl) : WpL P ops Q l a w :=
  yn n hs (sv d v h hv hd hw) hr
theorem ya (n : Nat) (hs : l.drop n = o :: l') (d : Nat) (k : IntKind) (e t : Int) (hp : k.wrap e = t) (h : WpL P ops Q l' ((actN P ops n l a w).put (some d) (.int k t)) w) (hv : (execOp (actN P ops n l a w).eval o).run P w = .ok (.value (.int k (k.wrap e))) w := by kernel_rfl)
    (hd : o.dst = some d := by kernel_rfl) (hw : Region.wanted o (yielded ops (actN P ops n l a w).tmps) = true := by kernel_rfl) (hr : runN P ops n l a w = some (actN P ops n l a w, w) := by kernel_rfl) : WpL P ops Q l a w :=
  yv n hs d _ h (by rw [← hp]; exact hv) hd hw hr
theorem yi (n : Nat) (hs : l.drop n = o :: l') (d : Nat) (e : Int) (h : WpL P ops Q l' ((actN P ops n l a w).put (some d) (.int .i64 e)) w) (hp : IntKind.i64.wrap e = e := by (exact IntWalk.i64_in _ (by omega))) (hv : (execOp (actN P ops n l a w).eval o).run P w = .ok (.value (.int .i64 (IntKind.i64.wrap e))) w := by kernel_rfl)
    (hd : o.dst = some d := by kernel_rfl) (hw : Region.wanted o (yielded ops (actN P ops n l a w).tmps) = true := by kernel_rfl) (hr : runN P ops n l a w = some (actN P ops n l a w, w) := by kernel_rfl) : WpL P ops Q l a w :=
  ya n hs d .i64 e e hp h hv hd hw hr
theorem yb (n : Nat) (hs : l.drop n = o :: l') (d : Nat) (e b : Bool) (hp : e = b) (h : WpL P ops Q l' ((actN P ops n l a w).put (some d) (.bool b)) w) (hv : (execOp (actN P ops n l a w).eval o).run P w = .ok (.value (.bool e)) w := by kernel_rfl)
    (hd : o.dst = some d := by kernel_rfl) (hw : Region.wanted o (yielded ops (actN P ops n l a w).tmps) = true := by kernel_rfl) (hr : runN P ops n l a w = some (actN P ops n l a w, w) := by kernel_rfl) : WpL P ops Q l a w :=
  yv n hs d _ h (by rw [← hp]; exact hv) hd hw hr

theorem exec_load1 {o : Oper} {ty : TypeId} {x : Operand} {b : Nat} {t : TypeId} {vs : Array Value} (ho : o.op = .load ty x) (hX : Bt w b t vs) (hT : SxOne P ty) (off : Nat) (hx : a.eval x = .pointer (some ⟨b, off, none⟩)) (hc : (vs[off]?).isSome = true) :
    (execOp a.eval o).run P w = .ok (.value (vs[off]?.getD undef)) w := by
  cases o
  simp only at ho
  subst ho
  refine exec_ld hx (run_ld1 hX hT off _ ?_)
  cases hv : vs[off]? with
  | none => rw [hv] at hc; cases hc
  | some v => rfl
def rowAt (vs : Array Value) (off k : Nat) : Value := .agg ((vs.toList.drop off).take k).toArray
theorem exec_loadn {o : Oper} {ty : TypeId} {x : Operand} {b : Nat} {t : TypeId} {vs : Array Value} (ho : o.op = .load ty x) (hX : Bt w b t vs) {k : Nat} (hT : SxAgg P ty k) (off : Nat) (hx : a.eval x = .pointer (some ⟨b, off, none⟩)) (hc : ((vs.toList.drop off).take k).length = k) :
    (execOp a.eval o).run P w = .ok (.value (rowAt vs off k)) w := by
  cases o
  simp only at ho
  subst ho
  exact exec_ld hx (run_ld hX hT off _ (by rw [hc]) hc)
theorem yl (n : Nat) (hs : l.drop n = o :: l') (d : Nat) {ty : TypeId} {x : Operand} {b : Nat} {t : TypeId} {vs : Array Value} (hX : Bt w b t vs) (hT : SxOne P ty) (off : Nat) (h : WpL P ops Q l' ((actN P ops n l a w).put (some d) (vs[off]?.getD undef)) w)
    (ho : o.op = .load ty x := by rfl) (hx : (actN P ops n l a w).eval x = .pointer (some ⟨b, off, none⟩) := by kernel_rfl) (hc : (vs[off]?).isSome = true := by kernel_rfl)
    (hd : o.dst = some d := by kernel_rfl) (hw : Region.wanted o (yielded ops (actN P ops n l a w).tmps) = true := by kernel_rfl) (hr : runN P ops n l a w = some (actN P ops n l a w, w) := by kernel_rfl) : WpL P ops Q l a w :=
  yv n hs d _ h (exec_load1 ho hX hT off hx hc) hd hw hr
theorem yla (n : Nat) (hs : l.drop n = o :: l') (d : Nat) {ty : TypeId} {x : Operand} {b : Nat} {t : TypeId} {vs : Array Value} (hX : Bt w b t vs) {k : Nat} (hT : SxAgg P ty k) (off : Nat) (h : WpL P ops Q l' ((actN P ops n l a w).put (some d) (rowAt vs off k)) w)
    (ho : o.op = .load ty x := by rfl) (hx : (actN P ops n l a w).eval x = .pointer (some ⟨b, off, none⟩) := by kernel_rfl) (hc : ((vs.toList.drop off).take k).length = k := by kernel_rfl)
    (hd : o.dst = some d := by kernel_rfl) (hw : Region.wanted o (yielded ops (actN P ops n l a w).tmps) = true := by kernel_rfl) (hr : runN P ops n l a w = some (actN P ops n l a w, w) := by kernel_rfl) : WpL P ops Q l a w :=
  yv n hs d _ h (exec_loadn ho hX hT off hx hc) hd hw hr
theorem ylb (n : Nat) (hs : l.drop n = o :: l') (d : Nat) {ty : TypeId} {x : Operand} {b : Nat} {t : TypeId} {vs : Array Value} (hX : Bt w b t vs) (hT : SxOne P ty) (off : Nat) (e c : Bool) (hp : e = c) (h : WpL P ops Q l' ((actN P ops n l a w).put (some d) (.bool c)) w)
    (he : vs[off]?.getD undef = .bool e := by kernel_rfl) (ho : o.op = .load ty x := by rfl) (hx : (actN P ops n l a w).eval x = .pointer (some ⟨b, off, none⟩) := by kernel_rfl) (hc : (vs[off]?).isSome = true := by kernel_rfl)
    (hd : o.dst = some d := by kernel_rfl) (hw : Region.wanted o (yielded ops (actN P ops n l a w).tmps) = true := by kernel_rfl) (hr : runN P ops n l a w = some (actN P ops n l a w, w) := by kernel_rfl) : WpL P ops Q l a w :=
  yv n hs d _ h (by rw [← hp, ← he]; exact exec_load1 ho hX hT off hx hc) hd hw hr
theorem yw (n : Nat) (hs : l.drop n = o :: l') (d : Nat) (vs : Array Value) (t : TypeId) (h : ∀ W, Below w.heap.size w W → W.heap.size = w.heap.size + 1 → Bt W w.heap.size t vs → WpL P ops Q l' ((actN P ops n l a w).put (some d) (.pointer (some ⟨w.heap.size, 0, none⟩))) W)
    (hd : o.dst = some d := by kernel_rfl) (hw : Region.wanted o (yielded ops (actN P ops n l a w).tmps) = true := by kernel_rfl) (hv : (execOp (actN P ops n l a w).eval o).run P w = .ok (.value (.pointer (some ⟨w.heap.size, 0, none⟩))) (w.alloc (.cells vs t)) := by kernel_rfl)
    (hr : runN P ops n l a w = some (actN P ops n l a w, w) := by kernel_rfl) : WpL P ops Q l a w := yn n hs (sn d vs t h hd hw hv) hr
theorem ywv (n : Nat) (hs : l.drop n = o :: l') (d : Nat) (v : Value) (vs : Array Value) (t : TypeId) (h : ∀ W, Below w.heap.size w W → W.heap.size = w.heap.size + 1 → Bt W w.heap.size t vs → WpL P ops Q l' ((actN P ops n l a w).put (some d) v) W)
    (hd : o.dst = some d := by kernel_rfl) (hw : Region.wanted o (yielded ops (actN P ops n l a w).tmps) = true := by kernel_rfl) (hv : (execOp (actN P ops n l a w).eval o).run P w = .ok (.value v) (w.alloc (.cells vs t)) := by kernel_rfl)
    (hr : runN P ops n l a w = some (actN P ops n l a w, w) := by kernel_rfl) : WpL P ops Q l a w := yn n hs (snv d v vs t h hd hw hv) hr
theorem yc (n : Nat) (hs : l.drop n = o :: l') (d : Nat) {f : FuncId} {args : Array Value} {post : Ending → World → Prop} (hc : Calls P f args w post)
    (h : ∀ G : Act → World → Prop, (∀ a w, WpL P ops Q l' a w → G a w) → ∀ e w', post e w' → ∃ v, e = .returned v ∧ G ((actN P ops n l a w).put (some d) v) w')
    (hv : (execOp (actN P ops n l a w).eval o).run P w = .ok (.enter f args) w := by kernel_rfl) (hd : o.dst = some d := by kernel_rfl) (hw : Region.wanted o (yielded ops (actN P ops n l a w).tmps) = true := by kernel_rfl)
    (hr : runN P ops n l a w = some (actN P ops n l a w, w) := by kernel_rfl) : WpL P ops Q l a w := yn n hs (se d f args (fun G hG => hc.mono (h G hG)) hd hw hv) hr
theorem yck {K : Act → World → Prop} (d : Nat) {f : FuncId} {args : Array Value} {post : Ending → World → Prop} (hc : Calls P f args w post) (h : ∀ e w', post e w' → ∃ v, e = .returned v ∧ K (a.put (some d) v) w')
    (hv : (execOp a.eval o).run P w = .ok (.enter f args) w := by kernel_rfl) (hd : o.dst = some d := by kernel_rfl) (hw : Region.wanted o (yielded ops a.tmps) = true := by kernel_rfl) : OpW P ops Q o K a w := sek d f args (hc.mono h) hd hw hv
theorem ys (n : Nat) (hs : l.drop n = o :: l') {ty : TypeId} {x y : Operand} {b : Nat} {t : TypeId} {vs : Array Value} (hX : Bt w b t vs) {k : Nat} (hT : SxAgg P ty k) (off : Nat) (cs vs' : Array Value) (h : ∀ W, Only b w W → Bt W b t vs' → WpL P ops Q l' ((actN P ops n l a w).put none undef) W)
    (hd : o.dst = none := by kernel_rfl) (hw : Region.wanted o (yielded ops (actN P ops n l a w).tmps) = true := by kernel_rfl) (ho : o.op = .store ty x y := by rfl) (hx : (actN P ops n l a w).eval x = .pointer (some ⟨b, off, none⟩) := by kernel_rfl) (hy : (actN P ops n l a w).eval y = .agg cs := by kernel_rfl)
    (hn : cs.size = k := by kernel_rfl) (hle' : Nat.ble (off + k) vs.size = true := by kernel_rfl) (h1 : cs.all (·.oneCell') = true := by kernel_rfl) (hv : putL vs off cs.toList = vs' := by kernel_rfl)
    (hr : runN P ops n l a w = some (actN P ops n l a w, w) := by kernel_rfl) : WpL P ops Q l a w := yn n hs (ss none hX hT off cs vs' h hd hw ho hx hy hn hle' h1 hv) hr
theorem ysw (n : Nat) (hs : l.drop n = o :: l') {ty : TypeId} {x y : Operand} {b : Nat} {t : TypeId} {vs : Array Value} (hX : Bt w b t vs) {k : Nat} (hT : SxAgg P ty k) (cs : Array Value) (h : ∀ W, Only b w W → Bt W b t cs → WpL P ops Q l' ((actN P ops n l a w).put none undef) W)
    (hd : o.dst = none := by kernel_rfl) (hw : Region.wanted o (yielded ops (actN P ops n l a w).tmps) = true := by kernel_rfl) (ho : o.op = .store ty x y := by rfl) (hx : (actN P ops n l a w).eval x = .pointer (some ⟨b, 0, none⟩) := by kernel_rfl) (hy : (actN P ops n l a w).eval y = .agg cs := by kernel_rfl)
    (hn : cs.size = k := by kernel_rfl) (hle' : Nat.ble (0 + k) vs.size = true := by kernel_rfl) (h1 : cs.all (·.oneCell') = true := by kernel_rfl) (hv : putL vs 0 cs.toList = cs := by kernel_rfl)
    (hr : runN P ops n l a w = some (actN P ops n l a w, w) := by kernel_rfl) : WpL P ops Q l a w := yn n hs (ss none hX hT 0 cs cs h hd hw ho hx hy hn hle' h1 hv) hr
theorem ys1 (n : Nat) (hs : l.drop n = o :: l') {ty : TypeId} {x y : Operand} {b : Nat} {t : TypeId} {vs : Array Value} (hX : Bt w b t vs) (hT : SxOne P ty) (off : Nat) (v : Value) (vs' : Array Value) (h : ∀ W, Only b w W → Bt W b t vs' → WpL P ops Q l' ((actN P ops n l a w).put none undef) W)
    (hd : o.dst = none := by kernel_rfl) (hw : Region.wanted o (yielded ops (actN P ops n l a w).tmps) = true := by kernel_rfl) (ho : o.op = .store ty x y := by rfl) (hx : (actN P ops n l a w).eval x = .pointer (some ⟨b, off, none⟩) := by kernel_rfl) (hy : (actN P ops n l a w).eval y = v := by kernel_rfl)
    (hle' : Nat.ble (off + 1) vs.size = true := by kernel_rfl) (h1 : v.cells = #[v] := by kernel_rfl) (h5 : v.oneCell' = true := by kernel_rfl) (hv : vs.setIfInBounds off v = vs' := by kernel_rfl)
    (hr : runN P ops n l a w = some (actN P ops n l a w, w) := by kernel_rfl) : WpL P ops Q l a w := yn n hs (ss1 none hX hT off v vs' h hd hw ho hx hy hle' h1 h5 hv) hr
theorem yz (n : Nat) (h : Q .normal (actN P ops n l a w) w) (hs : l.drop n = [] := by rfl) (hr : runN P ops n l a w = some (actN P ops n l a w, w) := by kernel_rfl) : WpL P ops Q l a w := yn n hs ⟨h⟩ hr
theorem yzt {next : Act → World → Prop} (n : Nat) (h : next (actN P ops n l a w) w) (hs : l.drop n = [] := by rfl) (hr : runN P ops n l a w = some (actN P ops n l a w, w) := by kernel_rfl) : WpL P ops (Exit.then next Q) l a w := yn (Q := Exit.then next Q) n hs ⟨h⟩ hr
end

section
variable {P : Program} {Q : Exit → Act → World → Prop} {a : Act} {w : World} {l : List Oper} {c c1 c2 : Code} {id : Nat} {x : Operand}
theorem yq (h : c.wp P Q (actN P l.toArray l.length l a w) w) (hr : runN P l.toArray l.length l a w = some (actN P l.toArray l.length l a w, w) := by kernel_rfl) : (Code.seq (Code.region id l.toArray false) c).wp P Q a w :=
  wp_seq (sx_region (yn (Q := Exit.then (c.wp P Q) Q) l.length List.drop_length ⟨h⟩ hr))
theorem yr (h : Q .normal (actN P l.toArray l.length l a w) w) (hr : runN P l.toArray l.length l a w = some (actN P l.toArray l.length l a w, w) := by kernel_rfl) : (Code.region id l.toArray false).wp P Q a w :=
  sx_region (yn l.length List.drop_length ⟨h⟩ hr)
theorem ye (h : WpL P l.toArray (Exit.then (c.wp P Q) Q) l a w) : (Code.seq (Code.region id l.toArray false) c).wp P Q a w := wp_seq (sx_region h)
theorem yT (h : c1.wp P Q a w) (hx : a.eval x = .bool true := by kernel_rfl) : (Code.cond x c1 c2).wp P Q a w := wp_cond_true hx h
theorem yF (h : c2.wp P Q a w) (hx : a.eval x = .bool false := by kernel_rfl) : (Code.cond x c1 c2).wp P Q a w := wp_cond_false hx h
theorem yTs (h : c1.wp P (Exit.then (c.wp P Q) Q) a w) (hx : a.eval x = .bool true := by kernel_rfl) : (Code.seq (Code.cond x c1 c2) c).wp P Q a w := wp_seq (wp_cond_true hx h)
theorem yFs (h : c2.wp P (Exit.then (c.wp P Q) Q) a w) (hx : a.eval x = .bool false := by kernel_rfl) : (Code.seq (Code.cond x c1 c2) c).wp P Q a w := wp_seq (wp_cond_false hx h)
end

section
variable {P : Program} {fn : Func} {R : Ending → World → Prop} {a : Act} {w : World}
def rvS (tmps : Array Value) : ResultVar → Sem Value
  | .tmp t => pure (tmps.getD t undef)
  | .cell a t => do loadVar t (← asAddr (tmps.getD a undef))
structure Rv (P : Program) (w : World) (tmps : Array Value) (r : ResultVar) (v : Value) : Prop where
  out : (rvS tmps r).run P w = .ok v w
theorem rvt {tmps : Array Value} {t : Tmp} : Rv P w tmps (.tmp t) (tmps.getD t undef) := ⟨by simp [rvS]⟩
theorem rvr {tmps : Array Value} {s : Tmp} {ty : TypeId} {b : Nat} {t : TypeId} {cs : Array Value} {k : Nat} (hX : Bt w b t cs) (hT : SxAgg P ty k) (hx : tmps.getD s undef = .pointer (some ⟨b, 0, none⟩) := by kernel_rfl) (hc : cs.size = k := by kernel_rfl) : Rv P w tmps (.cell s ty) (.agg cs) := by
  refine ⟨?_⟩
  have h2 := run_ld hX hT 0 cs.toList (by rw [List.drop_zero, List.take_length]) (by rw [Array.length_toList, hc])
  simp only [Instr.loadAt, Instr.sureAddr, Sem.run_bind, Sem.run_pure, Result.andThen_ok] at h2
  simp only [rvS, Sem.run_bind, Sem.run_pure, Result.andThen_ok, hx, asAddr, h2, Array.toArray_toList]
theorem results_eq (tmps : Array Value) : results fn tmps = (do
    let vs ← fn.results.mapM (rvS tmps)
    pure (if h : vs.size = 1 then vs[0] else .tuple vs)) := by
  unfold results
  congr 1
theorem res0 (hf : fn.results = #[]) : (results fn a.tmps).run P w = .ok (.tuple #[]) w := by
  rw [results_eq, hf]
  simp
theorem res1 {r : ResultVar} {v : Value} (hf : fn.results = #[r]) (h : Rv P w a.tmps r v) : (results fn a.tmps).run P w = .ok v w := by
  rw [results_eq, hf]
  simp [h.out]
theorem res2 {r r2 : ResultVar} {v v2 : Value} (hf : fn.results = #[r, r2]) (h : Rv P w a.tmps r v) (h2 : Rv P w a.tmps r2 v2) : (results fn a.tmps).run P w = .ok (.tuple #[v, v2]) w := by
  rw [results_eq, hf]
  simp [h.out, h2.out]
theorem res3 {r r2 r3 : ResultVar} {v v2 v3 : Value} (hf : fn.results = #[r, r2, r3]) (h : Rv P w a.tmps r v) (h2 : Rv P w a.tmps r2 v2) (h3 : Rv P w a.tmps r3 v3) : (results fn a.tmps).run P w = .ok (.tuple #[v, v2, v3]) w := by
  rw [results_eq, hf]
  simp [h.out, h2.out, h3.out]
theorem yret {u : Value} (v : Value) (r : (results fn a.tmps).run P w = .ok u w) (h : R (.returned v) w) (hv : u = v := by kernel_rfl) (hd : a.defers = [] := by kernel_rfl) : bodyPost P fn R .ret a w := bodyPost_ret (by rw [← hv]; exact r) hd h
theorem yend {u : Value} (v : Value) (r : (results fn a.tmps).run P w = .ok u w) (h : R (.returned v) w) (hv : u = v := by kernel_rfl) (hd : a.defers = [] := by kernel_rfl) : bodyPost P fn R .normal a w := bodyPost_end (by rw [← hv]; exact r) hd h
end

/-! ### Drawn regions -/
section
variable {P : Program} {ops : Array Oper} {Q : Exit → Act → World → Prop} {S : World → Prop} {a : Act} {w V : World} {fuel fuel' : Nat} {listed : Array Bool}
theorem drew_of (w : World) : ∃ V, V = w.drew ∧ Below w.heap.size w V ∧ V.heap.size = w.heap.size := ⟨_, rfl, (Below.refl _ _).drew, rfl⟩
theorem yd1 (hV : V = w.drew) {b : Nat} {t : TypeId} {vs : Array Value} (hX : Bt V b t vs) {id : Nat} (h : WpH P ops Q (fun w' => Bt w' b t vs) ops.size (Array.replicate ops.size false) a V) (hm : P.follows .mixedOrders = true := by kernel_rfl) : (Code.region id ops true).wp P Q a w := sxd P _ hV hX h hm
theorem yd2 (hV : V = w.drew) {b b2 : Nat} {t t2 : TypeId} {vs vs2 : Array Value} (hX : Bt V b t vs ∧ Bt V b2 t2 vs2) {id : Nat} (h : WpH P ops Q (fun w' => Bt w' b t vs ∧ Bt w' b2 t2 vs2) ops.size (Array.replicate ops.size false) a V) (hm : P.follows .mixedOrders = true := by kernel_rfl) : (Code.region id ops true).wp P Q a w := sxd P _ hV hX h hm
def valT (P : Program) (o : Oper) (a : Act) (V : World) : Value := match (execOp a.eval o).run P V with | .ok (.value v) _ => v | _ => undef
def actT (P : Program) (ops : Array Oper) : List Nat → Act → World → Act
  | [], a, _ => a
  | i :: is, a, V => match ops[i]? with
    | some o => match Region.wanted o (yielded ops a.tmps) with
      | true => actT P ops is (a.put o.dst (valT P o a V)) V
      | false => actT P ops is (a.put o.dst undef) V
    | none => a
def seqT (P : Program) (ops : Array Oper) : List Nat → Act → World → World → List (Result Next)
  | [], _, _, _ => []
  | i :: is, a, V, w => match ops[i]? with
    | some o => match Region.wanted o (yielded ops a.tmps) with
      | true => (execOp a.eval o).run P w :: seqT P ops is (a.put o.dst (valT P o a V)) V w
      | false => seqT P ops is (a.put o.dst undef) V w
    | none => [.ok .skip w]
def expT (P : Program) (ops : Array Oper) : List Nat → Act → World → World → List (Result Next)
  | [], _, _, _ => []
  | i :: is, a, V, w => match ops[i]? with
    | some o => match Region.wanted o (yielded ops a.tmps) with
      | true => .ok (.value (valT P o a V)) w :: expT P ops is (a.put o.dst (valT P o a V)) V w
      | false => expT P ops is (a.put o.dst undef) V w
    | none => []
def okT (ops : Array Oper) : List Nat → Array Bool → Bool
  | [], _ => true
  | i :: is, l => Region.free .any ops l i && ((Region.ready .any ops l).contains i && okT ops is (l.setIfInBounds i true))
def listT : List Nat → Array Bool → Array Bool
  | [], l => l
  | i :: is, l => listT is (l.setIfInBounds i true)
theorem putQ (hQ : ∀ c a (d : Nat) v w, Q (.panic c) (a.put (some d) v) w → Q (.panic c) a w) (c : List PanicEntry) (a : Act) (d : Option Tmp) (v : Value) (w : World) (h : Q (.panic c) (a.put d v) w) : Q (.panic c) a w := by
  cases d with
  | none => exact h
  | some d => exact hQ c a d v w h
theorem takes_sound (hs : Region.noSelect ops = true) (hQ : ∀ c a (d : Nat) v w, Q (.panic c) (a.put (some d) v) w → Q (.panic c) a w) (hS : S V) : ∀ (is : List Nat) (fuel : Nat) (listed : Array Bool) (a : Act), okT ops is listed = true → (∀ w', S w' → seqT P ops is a V w' = expT P ops is a V w') →
    WpH P ops Q S fuel (listT is listed) (actT P ops is a V) V → WpH P ops Q S (fuel + is.length) listed a V
  | [], fuel, listed, a, _, _, h => h
  | i :: is, fuel, listed, a, ho, hr, h => by
    unfold okT at ho
    rw [Bool.and_eq_true, Bool.and_eq_true] at ho
    obtain ⟨h1, h2, h3⟩ := ho
    unfold actT at h
    unfold seqT expT at hr
    unfold listT at h
    cases hi : ops[i]? with
    | none => rw [hi] at hr; have := hr V hS; simp at this
    | some o =>
      rw [hi] at h hr
      simp only at h hr
      cases hw : Region.wanted o (yielded ops a.tmps) with
      | true =>
        rw [hw] at h hr
        simp only [List.cons.injEq] at h hr
        exact sx_take (fuel := fuel + is.length) i o.dst (valT P o a V) _ hi rfl rfl hs h1 h2 (fun c a w => putQ hQ c a _ _ w) (.inl ⟨hw, fun w' hS' => (hr w' hS').1⟩) hS (takes_sound hs hQ hS is fuel _ _ h3 (fun w' hS' => (hr w' hS').2) h)
      | false =>
        rw [hw] at h hr
        simp only at h hr
        exact sx_take (fuel := fuel + is.length) i o.dst undef _ hi rfl rfl hs h1 h2 (fun c a w => putQ hQ c a _ _ w) (.inr ⟨hw, rfl⟩) hS (takes_sound hs hQ hS is fuel _ _ h3 hr h)
theorem yt (fuel : Nat) (is : List Nat) (hf : fuel' = fuel + is.length) (hS : S V) (h : WpH P ops Q S fuel (listT is listed) (actT P ops is a V) V) (hr : ∀ w', S w' → seqT P ops is a V w' = expT P ops is a V w' := by intro _ _; kernel_rfl) (ho : okT ops is listed = true := by kernel_rfl)
    (hQ : ∀ c a (d : Nat) v w, Q (.panic c) (a.put (some d) v) w → Q (.panic c) a w := by first | exact fun _ _ _ _ _ h => h | exact fun _ _ _ _ _ h => cut_panic h) (hs : Region.noSelect ops = true := by kernel_rfl) : WpH P ops Q S fuel' listed a V := by
  subst hf
  exact takes_sound hs hQ hS is fuel listed a ho hr h
theorem ytl (i : Nat) {oi : Oper} (hi : ops[i]? = some oi) (d : Nat) {ty : TypeId} {x : Operand} {b : Nat} {t : TypeId} {vs : Array Value} (hX : ∀ w', S w' → Bt w' b t vs) (hT : SxOne P ty) (off : Nat) (hS : S V) (h : WpH P ops Q S fuel (listed.setIfInBounds i true) (a.put (some d) (vs[off]?.getD undef)) V)
    (ho : oi.op = .load ty x := by rfl) (hx : a.eval x = .pointer (some ⟨b, off, none⟩) := by kernel_rfl) (hc : (vs[off]?).isSome = true := by kernel_rfl) (hd : oi.dst = some d := by kernel_rfl)
    (hs : Region.noSelect ops = true := by kernel_rfl) (hf : Region.free .any ops listed i = true := by kernel_rfl) (hr : (Region.ready .any ops listed).contains i = true := by kernel_rfl)
    (hQ : ∀ c a (d : Nat) v w, Q (.panic c) (a.put (some d) v) w → Q (.panic c) a w := by first | exact fun _ _ _ _ _ h => h | exact fun _ _ _ _ _ h => cut_panic h) (hw : Region.wanted oi (yielded ops a.tmps) = true := by kernel_rfl) : WpH P ops Q S (fuel + 1) listed a V :=
  tk i d _ hS h (fun w' h' => exec_load1 ho (hX w' h') hT off hx hc) hi hd hs hf hr (fun c a w => hQ c a _ _ w) hw
theorem ytla (i : Nat) {oi : Oper} (hi : ops[i]? = some oi) (d : Nat) {ty : TypeId} {x : Operand} {b : Nat} {t : TypeId} {vs : Array Value} (hX : ∀ w', S w' → Bt w' b t vs) {k : Nat} (hT : SxAgg P ty k) (off : Nat) (hS : S V) (h : WpH P ops Q S fuel (listed.setIfInBounds i true) (a.put (some d) (rowAt vs off k)) V)
    (ho : oi.op = .load ty x := by rfl) (hx : a.eval x = .pointer (some ⟨b, off, none⟩) := by kernel_rfl) (hc : ((vs.toList.drop off).take k).length = k := by kernel_rfl) (hd : oi.dst = some d := by kernel_rfl)
    (hs : Region.noSelect ops = true := by kernel_rfl) (hf : Region.free .any ops listed i = true := by kernel_rfl) (hr : (Region.ready .any ops listed).contains i = true := by kernel_rfl)
    (hQ : ∀ c a (d : Nat) v w, Q (.panic c) (a.put (some d) v) w → Q (.panic c) a w := by first | exact fun _ _ _ _ _ h => h | exact fun _ _ _ _ _ h => cut_panic h) (hw : Region.wanted oi (yielded ops a.tmps) = true := by kernel_rfl) : WpH P ops Q S (fuel + 1) listed a V :=
  tk i d _ hS h (fun w' h' => exec_loadn ho (hX w' h') hT off hx hc) hi hd hs hf hr (fun c a w => hQ c a _ _ w) hw
end
end Go.Slip

namespace Go.Slip

def be (l : List Nat) : Nat := l.foldl (fun a c => a * 256 + c) 0
def vb (l : List Bool) : Nat := l.foldl (fun a b => 2 * a + b.toNat) 0
def byteBits (c : Nat) : List Bool := [c / 128 % 2 == 1, c / 64 % 2 == 1, c / 32 % 2 == 1, c / 16 % 2 == 1, c / 8 % 2 == 1, c / 4 % 2 == 1, c / 2 % 2 == 1, c / 1 % 2 == 1]
def bitsB : List Nat → List Bool
  | [] => []
  | c :: r => byteBits c ++ bitsB r

theorem vb_from (l : List Bool) : ∀ a : Nat, l.foldl (fun a b => 2 * a + b.toNat) a = a * 2 ^ l.length + vb l := by
  induction l with
  | nil => intro a; simp [vb]
  | cons x r ih =>
    intro a
    unfold vb
    simp only [List.foldl_cons, List.length_cons]
    rw [ih, ih (2 * 0 + x.toNat), Nat.pow_succ, Nat.mul_zero, Nat.zero_add, Nat.add_mul]
    have h1 : 2 * a * 2 ^ r.length = a * (2 ^ r.length * 2) := by rw [Nat.mul_comm 2 a, Nat.mul_assoc, Nat.mul_comm 2]
    omega
theorem vb_nil : vb [] = 0 := rfl
theorem vb_cons (x : Bool) (r : List Bool) : vb (x :: r) = x.toNat * 2 ^ r.length + vb r := by
  show List.foldl _ _ r = _
  rw [vb_from]
  simp
theorem vb_append (x y : List Bool) : vb (x ++ y) = vb x * 2 ^ y.length + vb y := by
  show List.foldl _ _ (x ++ y) = _
  rw [List.foldl_append, vb_from]
  rfl
theorem vb_snoc (x : List Bool) (b : Bool) : vb (x ++ [b]) = 2 * vb x + b.toNat := by
  rw [vb_append, vb_cons, vb_nil]
  simp
  omega
theorem vb_lt : ∀ l : List Bool, vb l < 2 ^ l.length
  | [] => by simp [vb]
  | x :: r => by
    have h := vb_lt r
    rw [vb_cons, List.length_cons, Nat.pow_succ]
    have h2 : x.toNat ≤ 1 := by cases x <;> decide
    have h3 : x.toNat * 2 ^ r.length ≤ 1 * 2 ^ r.length := Nat.mul_le_mul_right _ h2
    omega
theorem vb_byte : ∀ c, c < 256 → vb (byteBits c) = c := by decide +kernel
theorem byteBits_len (c : Nat) : (byteBits c).length = 8 := rfl
theorem bitsB_len : ∀ l : List Nat, (bitsB l).length = 8 * l.length
  | [] => rfl
  | c :: r => by
    show (byteBits c ++ bitsB r).length = _
    rw [List.length_append, byteBits_len, bitsB_len r, List.length_cons]
    omega
theorem be_from (l : List Nat) : ∀ a : Nat, l.foldl (fun a c => a * 256 + c) a = a * 256 ^ l.length + be l := by
  induction l with
  | nil => intro a; simp [be]
  | cons x r ih =>
    intro a
    unfold be
    simp only [List.foldl_cons, List.length_cons]
    rw [ih, ih (0 * 256 + x), Nat.pow_succ, Nat.zero_mul, Nat.zero_add, Nat.add_mul, Nat.mul_assoc, Nat.mul_comm 256]
    omega
theorem be_cons (x : Nat) (r : List Nat) : be (x :: r) = x * 256 ^ r.length + be r := by
  show List.foldl _ _ r = _
  rw [be_from]
  simp
theorem be_snoc (l : List Nat) (c : Nat) : be (l ++ [c]) = be l * 256 + c := by
  show List.foldl _ _ (l ++ [c]) = _
  rw [List.foldl_append]
  rfl
theorem vb_bits : ∀ l : List Nat, (∀ c ∈ l, c < 256) → vb (bitsB l) = be l
  | [], _ => rfl
  | c :: r, h => by
    show vb (byteBits c ++ bitsB r) = _
    rw [vb_append, vb_byte c (h c (List.mem_cons_self ..)), vb_bits r (fun d hd => h d (List.mem_cons_of_mem _ hd)), be_cons, bitsB_len, Nat.pow_mul]
theorem be_lt (l : List Nat) (h : ∀ c ∈ l, c < 256) : be l < 2 ^ (8 * l.length) := by
  rw [← vb_bits l h, ← bitsB_len]
  exact vb_lt _

theorem vb_take (b : List Bool) (k : Nat) : vb (b.take k) = vb b / 2 ^ (b.length - k) := by
  have h := vb_append (b.take k) (b.drop k)
  rw [List.take_append_drop, List.length_drop] at h
  have h2 := vb_lt (b.drop k)
  rw [List.length_drop] at h2
  rw [h, Nat.mul_comm, Nat.mul_add_div (Nat.pow_pos (by omega)), Nat.div_eq_of_lt h2]
  omega
theorem vb_drop (b : List Bool) (k : Nat) : vb (b.drop k) = vb b % 2 ^ (b.length - k) := by
  have h := vb_append (b.take k) (b.drop k)
  rw [List.take_append_drop, List.length_drop] at h
  have h2 := vb_lt (b.drop k)
  rw [List.length_drop] at h2
  rw [h, Nat.mul_comm, Nat.mul_add_mod, Nat.mod_eq_of_lt h2]
theorem vb_top (x : Bool) (r : List Bool) : (vb (x :: r) / 2 ^ r.length == 1) = x := by
  have h := vb_lt r
  rw [vb_cons, Nat.mul_comm, Nat.mul_add_div (Nat.pow_pos (by omega)), Nat.div_eq_of_lt h]
  cases x <;> simp
theorem vb_rest (x : Bool) (r : List Bool) : vb (x :: r) % 2 ^ r.length = vb r := by
  have h := vb_lt r
  rw [vb_cons, Nat.mul_comm, Nat.mul_add_mod, Nat.mod_eq_of_lt h]
end Go.Slip

namespace Go.Slip

theorem digits_same {m z w : Nat} (h : 2 ^ z ∣ m) : m / 2 ^ z * 2 ^ (z % w) = m / 2 ^ (z / w * w) := by
  obtain ⟨q, rfl⟩ := h
  have e : 2 ^ z = 2 ^ (z / w * w) * 2 ^ (z % w) := by
    rw [← Nat.pow_add]
    congr 1
    have := Nat.div_add_mod z w
    rw [Nat.mul_comm] at this
    omega
  rw [Nat.mul_div_cancel_left _ (Nat.pow_pos (by omega))]
  rw [e, Nat.mul_assoc, Nat.mul_div_cancel_left _ (Nat.pow_pos (by omega)), Nat.mul_comm]

theorem place_same (p : Int) (z w : Nat) (hw : w = 1 ∨ w = 4) (h1 : -19999 ≤ p) (h2 : p ≤ 19999) : ((w : Int) * p + z + 80000).tdiv w - (80000 : Int).tdiv w = p + ((z / w : Nat) : Int) := by
  rcases hw with rfl | rfl
  · rw [Int.tdiv_eq_ediv_of_nonneg (by omega), Int.tdiv_eq_ediv_of_nonneg (by omega)]
    omega
  · rw [Int.tdiv_eq_ediv_of_nonneg (by omega), Int.tdiv_eq_ediv_of_nonneg (by omega)]
    omega

end Go.Slip

namespace Go.Slip

structure Gd where
  rad : Int
  digs : Int
  lo : Int
  hi : Int
  grad : Bool

def wid (g : Gd) : Nat := if g.rad = 16 then 4 else 1
def most (g : Gd) : Int := if g.rad = 16 then 4000 else 17000

def farG (g : Gd) (n : Int) : Prop := n < -most g ∨ most g < n
instance (g : Gd) (n : Int) : Decidable (farG g n) := by unfold farG; exact inferInstance

def errG (g : Gd) : Int :=
  if g.rad ≠ 2 ∧ g.rad ≠ 16 then 6 else if g.digs < 1 ∨ 120 < g.digs ∨ farG g g.lo ∨ farG g g.hi ∨ g.hi < g.lo then 3 else 0

structure GoodG (g : Gd) : Prop where
  rad : g.rad = 2 ∨ g.rad = 16
  d1 : 1 ≤ g.digs
  d2 : g.digs ≤ 120
  l1 : -17000 ≤ g.lo
  l2 : g.lo ≤ 17000
  h1 : -17000 ≤ g.hi
  h2 : g.hi ≤ 17000
  le : g.lo ≤ g.hi

theorem goodG_of {g : Gd} (h : errG g = 0) : GoodG g := by
  unfold errG at h
  by_cases h1 : g.rad ≠ 2 ∧ g.rad ≠ 16
  · rw [if_pos h1] at h; simp at h
  · rw [if_neg h1] at h
    by_cases h2 : g.digs < 1 ∨ 120 < g.digs ∨ farG g g.lo ∨ farG g g.hi ∨ g.hi < g.lo
    · rw [if_pos h2] at h; simp at h
    · unfold farG most at h2
      split at h2 <;> constructor <;> omega

theorem wid_pos (g : Gd) : 1 ≤ wid g ∧ wid g ≤ 4 := by unfold wid; split <;> omega

def numP (num : Nat) (n : Int) : Nat := num * 2 ^ n.toNat
def denP (den : Nat) (n : Int) : Nat := den * 2 ^ (-n).toNat
def qP (num den : Nat) (n : Int) : Nat := numP num n / denP den n
def rP (num den : Nat) (n : Int) : Nat := numP num n % denP den n

theorem denP_pos {den : Nat} (h : 0 < den) (n : Int) : 0 < denP den n := Nat.mul_pos h (Nat.pow_pos (by omega))

def FullP (num den : Nat) (e : Int) (w D : Nat) (k : Int) : Prop := 2 ^ (w * (D - 1)) ≤ qP num den (e - w * k)
instance (num den : Nat) (e : Int) (w D : Nat) (k : Int) : Decidable (FullP num den e w D k) := by unfold FullP; exact inferInstance

theorem fullP_iff {num den : Nat} (hd : 0 < den) (e : Int) (w D : Nat) (k : Int) (u v : Nat) (huv : (u : Int) - v = w * k + (w * (D - 1) : Nat) - e) :
    FullP num den e w D k ↔ den * 2 ^ u ≤ num * 2 ^ v := by
  unfold FullP qP
  rw [Nat.le_div_iff_mul_le (denP_pos hd _)]
  unfold numP denP
  have h2 : ∀ n : Nat, 0 < 2 ^ n := fun n => Nat.pow_pos (by omega)
  generalize hj : w * (D - 1) = j at *
  have e1 : ∃ c : Nat, (2 : Nat) ^ j * 2 ^ (-(e - w * k)).toNat * 2 ^ c = 2 ^ u * 2 ^ (c - 0) * 1 ∨ True := ⟨0, .inr trivial⟩
  clear e1
  by_cases hn : 0 ≤ e - w * k
  · obtain ⟨a, ha⟩ : ∃ a : Nat, e - w * k = a := ⟨(e - w * k).toNat, by omega⟩
    rw [ha]
    have t1 : (-(a : Int)).toNat = 0 := by omega
    have t2 : ((a : Int)).toNat = a := by omega
    rw [t1, t2]
    have t3 : u + a = v + j := by omega
    constructor
    · intro h
      have := Nat.mul_le_mul_right (2 ^ v) h
      have e2 : (2 ^ j * (den * 2 ^ 0)) * 2 ^ v = den * 2 ^ u * 2 ^ a := by
        have : 2 ^ j * 2 ^ v = 2 ^ u * 2 ^ a := by rw [← Nat.pow_add, ← Nat.pow_add]; congr 1; omega
        simp only [Nat.pow_zero, Nat.mul_one]
        grind
      rw [e2] at this
      have e3 : num * 2 ^ a * 2 ^ v = num * 2 ^ v * 2 ^ a := by grind
      rw [e3] at this
      exact Nat.le_of_mul_le_mul_right this (h2 a)
    · intro h
      have := Nat.mul_le_mul_right (2 ^ a) h
      have e2 : den * 2 ^ u * 2 ^ a = (2 ^ j * (den * 2 ^ 0)) * 2 ^ v := by
        have : 2 ^ j * 2 ^ v = 2 ^ u * 2 ^ a := by rw [← Nat.pow_add, ← Nat.pow_add]; congr 1; omega
        simp only [Nat.pow_zero, Nat.mul_one]
        grind
      rw [e2] at this
      have e3 : num * 2 ^ v * 2 ^ a = num * 2 ^ a * 2 ^ v := by grind
      rw [e3] at this
      exact Nat.le_of_mul_le_mul_right this (h2 v)
  · obtain ⟨a, ha⟩ : ∃ a : Nat, e - w * k = -(a : Int) := ⟨(-(e - w * k)).toNat, by omega⟩
    rw [ha]
    have t1 : (-(-(a : Int))).toNat = a := by omega
    have t2 : (-(a : Int)).toNat = 0 := by omega
    rw [t1, t2]
    have t3 : u = v + j + a := by omega
    subst t3
    have e2 : den * 2 ^ (v + j + a) = (2 ^ j * (den * 2 ^ a)) * 2 ^ v := by rw [Nat.pow_add, Nat.pow_add]; grind
    rw [e2, Nat.pow_zero, Nat.mul_one]
    constructor
    · intro h; exact Nat.mul_le_mul_right _ h
    · intro h; exact Nat.le_of_mul_le_mul_right h (h2 v)

theorem fullP_anti {num den : Nat} (hd : 0 < den) {e : Int} {w D : Nat} {k k' : Int} (h : FullP num den e w D k) (hk : k' ≤ k) : FullP num den e w D k' := by
  have hw : (w : Int) * k' ≤ w * k := Int.mul_le_mul_of_nonneg_left hk (by omega)
  obtain ⟨v, hv⟩ : ∃ v : Nat, 0 ≤ (w : Int) * k' + (w * (D - 1) : Nat) - e + v := ⟨(-((w : Int) * k' + (w * (D - 1) : Nat) - e)).toNat, by omega⟩
  have h1 := (fullP_iff hd e w D k ((w : Int) * k + (w * (D - 1) : Nat) - e + v).toNat v (by omega)).1 h
  refine (fullP_iff hd e w D k' ((w : Int) * k' + (w * (D - 1) : Nat) - e + v).toNat v (by omega)).2 (Nat.le_trans ?_ h1)
  exact Nat.mul_le_mul_left _ (Nat.pow_le_pow_right (by omega) (by omega))

structure IsK (num den : Nat) (e : Int) (w D : Nat) (K : Int) : Prop where
  yes : FullP num den e w D K
  no : ¬ FullP num den e w D (K + 1)

theorem IsK.le {num den : Nat} (hd : 0 < den) {e : Int} {w D : Nat} {K k : Int} (h : IsK num den e w D K) (hk : FullP num den e w D k) : k ≤ K := by
  rcases Int.lt_or_le K k with h1 | h1
  · exact absurd (fullP_anti hd hk (by omega)) h.no
  · exact h1

theorem ediv_bd (n : Int) (w : Nat) (hw : 0 < w) : (w : Int) * (n / w) ≤ n ∧ n < w * (n / w) + w := by
  have h1 := Int.emod_nonneg n (show (w : Int) ≠ 0 by omega)
  have h2 := Int.emod_lt_of_pos n (show (0 : Int) < w by omega)
  have h3 := Int.mul_ediv_add_emod n w
  omega

theorem fullP_bd {num den : Nat} (hn : 0 < num) (hd : 0 < den) (e : Int) {w D : Nat} (hw : 0 < w) (hD : 1 ≤ D) (x : Int) (hx : x = (blen num : Int) - blen den + e) :
    FullP num den e w D (x / w - D) ∧ ¬ FullP num den e w D (x / w - D + 2) := by
  obtain ⟨b1, b2⟩ := ediv_bd x w hw
  generalize x / (w : Int) = f at *
  have hn1 := blen_pow num hn
  have hn2 : num < 2 ^ blen num := (blen_le num _).1 (Nat.le_refl _)
  have hd1 := blen_pow den hd
  have hd2 : den < 2 ^ blen den := (blen_le den _).1 (Nat.le_refl _)
  have hbn := (blen_pos num).2 hn
  have hbd := (blen_pos den).2 hd
  have eD : (w : Int) * (f - D) + (w * (D - 1) : Nat) = w * f - w := by
    obtain ⟨d, rfl⟩ : ∃ d, D = d + 1 := ⟨D - 1, by omega⟩
    simp only [Nat.add_sub_cancel, Int.natCast_mul, Int.natCast_add]
    grind
  have eD2 : (w : Int) * (f - D + 2) + (w * (D - 1) : Nat) = w * f + w := by
    have : (w : Int) * (f - D + 2) = w * (f - D) + w * 2 := by grind
    omega
  constructor
  · obtain ⟨v, hv⟩ : ∃ v : Nat, 0 ≤ (w : Int) * f - w - e + v := ⟨(-((w : Int) * f - w - e)).toNat, by omega⟩
    refine (fullP_iff hd e w D (f - D) ((w : Int) * f - w - e + v).toNat v (by omega)).2 ?_
    refine Nat.le_trans (Nat.mul_le_mul_right _ (Nat.le_of_lt hd2)) (Nat.le_trans ?_ (Nat.mul_le_mul_right _ hn1))
    rw [← Nat.pow_add, ← Nat.pow_add]
    exact Nat.pow_le_pow_right (by omega) (by omega)
  · obtain ⟨v, hv⟩ : ∃ v : Nat, 0 ≤ (w : Int) * f + w - e + v := ⟨(-((w : Int) * f + w - e)).toNat, by omega⟩
    intro h
    have h1 := (fullP_iff hd e w D (f - D + 2) ((w : Int) * f + w - e + v).toNat v (by omega)).1 h
    have h2 : num * 2 ^ v < 2 ^ blen num * 2 ^ v := Nat.mul_lt_mul_of_pos_right hn2 (Nat.pow_pos (by omega))
    have h3 := Nat.mul_le_mul_right (2 ^ ((w : Int) * f + w - e + v).toNat) hd1
    rw [← Nat.pow_add] at h2 h3
    have h4 : 2 ^ (blen num + v) ≤ 2 ^ (blen den - 1 + ((w : Int) * f + w - e + v).toNat) := Nat.pow_le_pow_right (by omega) (by omega)
    omega

structure Pl where
  neg : Bool
  d : Nat
  pow : Int
  exact : Bool
  over : Bool
  under : Bool

def awayP (way : Int) (neg odd : Bool) (half : Int) : Bool :=
  if way = 1 then decide (0 < half) || (decide (half = 0) && odd) else if way = 2 then decide (0 ≤ half) else if way = 4 then !neg else if way = 5 then neg else false

def powK (g : Gd) (K : Int) : Int := if K < g.lo ∧ g.grad = true then g.lo else K

def upP (neg : Bool) (num den : Nat) (e : Int) (w : Nat) (way k : Int) : Bool :=
  decide (rP num den (e - w * k) ≠ 0) && awayP way neg (decide (qP num den (e - w * k) % 2 = 1)) (cmpN (rP num den (e - w * k) * 2) (denP den (e - w * k)))

def dUp (neg : Bool) (num den : Nat) (e : Int) (w : Nat) (way k : Int) : Nat := qP num den (e - w * k) + if upP neg num den e w way k then 1 else 0

def longP (neg : Bool) (num den : Nat) (e : Int) (w D : Nat) (way k : Int) : Prop := upP neg num den e w way k = true ∧ w * D < blen (dUp neg num den e w way k)
instance (neg : Bool) (num den : Nat) (e : Int) (w D : Nat) (way k : Int) : Decidable (longP neg num den e w D way k) := by unfold longP; exact inferInstance

def digP (neg : Bool) (num den : Nat) (e : Int) (w D : Nat) (way k : Int) : Nat := if longP neg num den e w D way k then 2 ^ (w * (D - 1)) else dUp neg num den e w way k
def powP (neg : Bool) (num den : Nat) (e : Int) (w D : Nat) (way k : Int) : Int := if longP neg num den e w D way k then k + 1 else k

def fitK (neg : Bool) (num den : Nat) (e : Int) (g : Gd) (way K : Int) : Pl :=
  ⟨neg, digP neg num den e (wid g) g.digs.toNat way (powK g K),
   if digP neg num den e (wid g) g.digs.toNat way (powK g K) = 0 then 0 else powP neg num den e (wid g) g.digs.toNat way (powK g K),
   decide (rP num den (e - wid g * powK g K) = 0), decide (g.hi < powP neg num den e (wid g) g.digs.toNat way (powK g K)), decide (K < g.lo)⟩

theorem digP_of {neg : Bool} {num den : Nat} {e : Int} {w D : Nat} {way k : Int} {X N : Nat} {ub : Bool} (h1 : upP neg num den e w way k = ub) (h2 : qP num den (e - w * k) = X) (h3 : N = w * (D - 1)) :
    digP neg num den e w D way k = (if ub = true ∧ w * D < blen (X + if ub then 1 else 0) then 2 ^ N else X + if ub then 1 else 0) ∧ powP neg num den e w D way k = if ub = true ∧ w * D < blen (X + if ub then 1 else 0) then k + 1 else k := by
  subst h1 h2 h3
  unfold digP powP
  by_cases h : longP neg num den e w D way k
  · have h' : upP neg num den e w way k = true ∧ w * D < blen (qP num den (e - w * k) + if upP neg num den e w way k then 1 else 0) := h
    rw [if_pos h, if_pos h, if_pos h', if_pos h']; exact ⟨rfl, rfl⟩
  · have h' : ¬ (upP neg num den e w way k = true ∧ w * D < blen (qP num den (e - w * k) + if upP neg num den e w way k then 1 else 0)) := h
    rw [if_neg h, if_neg h, if_neg h', if_neg h']; exact ⟨rfl, rfl⟩

theorem fitK_of {neg : Bool} {num den : Nat} {e : Int} {g : Gd} {way K : Int} {wd D : Nat} {k1 : Int} {dd Y : Nat} {k2 : Int} (h5 : wid g = wd) (hD : g.digs.toNat = D) (h4 : powK g K = k1)
    (h2 : digP neg num den e wd D way k1 = dd) (h3 : powP neg num den e wd D way k1 = k2) (h8 : rP num den (e - wd * k1) = Y) :
    fitK neg num den e g way K = ⟨neg, dd, if dd = 0 then 0 else k2, decide (Y = 0), decide (g.hi < k2), decide (K < g.lo)⟩ := by
  subst h5 hD h4 h2 h3 h8
  rfl

end Go.Slip

namespace Go.Slip

theorem pow_small_len {n : Nat} (h : n ≤ 480) : (dig B32 (2 ^ n)).length ≤ 16 := by
  have h1 := congrArg List.length (pow2_dig (B := B32) (w := 32) (by decide) (by omega) n)
  rw [List.length_set, List.length_replicate] at h1
  omega

end Go.Slip

namespace Go.Slip

def upK (a : Dv) (w D : Nat) : Int := (topD a - 1) / w - D + 1

theorem isK_one {m : Nat} (hm : 0 < m) (e : Int) {w D : Nat} (hw : 1 ≤ w) (hD : 1 ≤ D) : IsK m 1 e w D ((e + blen m - 1) / w - D + 1) := by
  have key : ∀ k : Int, FullP m 1 e w D k ↔ k ≤ (e + blen m - 1) / w - D + 1 := by
    intro k
    have hb := ediv_bd (e + blen m - 1) w hw
    have hbm := (blen_pos m).2 hm
    obtain ⟨v, hv⟩ : ∃ v : Nat, 0 ≤ (w : Int) * k + (w * (D - 1) : Nat) - e + v := ⟨(-((w : Int) * k + (w * (D - 1) : Nat) - e)).toNat, by omega⟩
    rw [fullP_iff (by omega) e w D k ((w : Int) * k + (w * (D - 1) : Nat) - e + v).toNat v (by omega), Nat.one_mul]
    have h1 : 2 ^ ((w : Int) * k + (w * (D - 1) : Nat) - e + v).toNat ≤ m * 2 ^ v ↔ ((w : Int) * k + (w * (D - 1) : Nat) - e + v).toNat < blen m + v := by
      have h2 := blen_shift hm v
      have h3 := blen_le (m * 2 ^ v) ((w : Int) * k + (w * (D - 1) : Nat) - e + v).toNat
      omega
    rw [h1]
    have e1 : ((w * (D - 1) : Nat) : Int) = w * D - w := by
      obtain ⟨d, rfl⟩ : ∃ d, D = d + 1 := ⟨D - 1, by omega⟩
      simp only [Nat.add_sub_cancel, Int.natCast_mul, Int.natCast_add]; grind
    generalize (e + blen m - 1) / (w : Int) = f at *
    have e2 : (w : Int) * (f - D + 1) = w * f - w * D + w := by grind
    have e3 : (w : Int) * (k - 1) = w * k - w := by grind
    constructor
    · intro h
      rcases Int.lt_or_le (f - D + 1) k with h4 | h4
      · have h5 : (w : Int) * (f - D + 1 + 1) ≤ w * k := Int.mul_le_mul_of_nonneg_left (by omega) (by omega)
        have e4 : (w : Int) * (f - D + 1 + 1) = w * f - w * D + w + w := by grind
        omega
      · exact h4
    · intro h
      have h5 : (w : Int) * k ≤ w * (f - D + 1) := Int.mul_le_mul_of_nonneg_left h (by omega)
      omega
  exact ⟨(key _).2 (Int.le_refl _), fun h => by have := (key _).1 h; omega⟩

def inGridD (a : Dv) (g : Gd) : Bool :=
  if a.m = 0 then true else
  if a.e < wid g * g.lo ∨ wid g * (g.hi + g.digs) < topD a then false else
  if upK a (wid g) g.digs.toNat < g.lo then (if g.grad then decide (wid g * g.lo ≤ a.e) else false) else decide (wid g * upK a (wid g) g.digs.toNat ≤ a.e)

def keepsD (a : Dv) (g : Gd) : Bool :=
  if a.m = 0 then true else
  (fitK a.neg a.m 1 a.e g 3 (upK a (wid g) g.digs.toNat)).exact && !(fitK a.neg a.m 1 a.e g 3 (upK a (wid g) g.digs.toNat)).over && (!(fitK a.neg a.m 1 a.e g 3 (upK a (wid g) g.digs.toNat)).under || g.grad)

theorem upP_zero (neg : Bool) (num den : Nat) (e : Int) (w : Nat) (k : Int) : upP neg num den e w 3 k = false := by
  unfold upP awayP
  simp

theorem powP_zero (neg : Bool) (num den : Nat) (e : Int) (w D : Nat) (k : Int) : powP neg num den e w D 3 k = k := by
  unfold powP
  rw [if_neg]
  unfold longP
  rw [upP_zero]
  simp

theorem digP_zero (neg : Bool) (num den : Nat) (e : Int) (w D : Nat) (k : Int) : digP neg num den e w D 3 k = qP num den (e - w * k) := by
  unfold digP
  rw [if_neg]
  · unfold dUp; rw [upP_zero]; simp
  · unfold longP; rw [upP_zero]; simp

theorem exact_iff {m : Nat} (hm : m % 2 = 1) (n : Int) : rP m 1 n = 0 ↔ 0 ≤ n := by
  unfold rP numP denP
  by_cases h : 0 ≤ n
  · have e1 : (-n).toNat = 0 := by omega
    rw [e1]
    simp [h, Nat.mod_one]
  · have e1 : n.toNat = 0 := by omega
    rw [e1, Nat.pow_zero, Nat.mul_one, Nat.one_mul]
    have := odd_mod (n := (-n).toNat) hm (by omega)
    constructor
    · intro h2; exact absurd h2 this
    · intro h2; exact absurd h2 h

theorem keeps_eq {a : Dv} (ha : Bare a) {g : Gd} (G : GoodG g) : keepsD a g = inGridD a g := by
  unfold keepsD inGridD
  by_cases h0 : a.m = 0
  · rw [if_pos h0, if_pos h0]
  · rw [if_neg h0, if_neg h0]
    have hodd : a.m % 2 = 1 := by
      rcases ha with h | h
      · exact h
      · rw [h] at h0; simp at h0
    have wp := wid_pos g
    have hd := G.d1
    have hle := G.le
    have hb := ediv_bd (topD a - 1) (wid g) (by omega)
    obtain ⟨D, hD⟩ : ∃ D : Nat, g.digs = D := ⟨g.digs.toNat, by omega⟩
    have hDt : g.digs.toNat = D := by omega
    rw [hDt, hD]
    have eU : upK a (wid g) D = (topD a - 1) / (wid g : Int) - D + 1 := rfl
    obtain ⟨K, hK⟩ : ∃ K, upK a (wid g) D = K := ⟨_, rfl⟩
    rw [hK] at eU ⊢
    generalize (topD a - 1) / (wid g : Int) = f at *
    show (decide (rP a.m 1 (a.e - wid g * powK g K) = 0) && !decide (g.hi < powP a.neg a.m 1 a.e (wid g) g.digs.toNat 3 (powK g K)) && (!decide (K < g.lo) || g.grad)) = _
    rw [powP_zero]
    have hx : decide (rP a.m 1 (a.e - wid g * powK g K) = 0) = decide (wid g * powK g K ≤ a.e) := by
      have := exact_iff hodd (a.e - wid g * powK g K)
      by_cases h : (wid g : Int) * powK g K ≤ a.e
      · rw [decide_eq_true h, decide_eq_true (this.2 (by omega))]
      · rw [decide_eq_false h, decide_eq_false (fun h2 => h (by have := this.1 h2; omega))]
    rw [hx]
    have w0 : 0 ≤ (wid g : Int) := by omega
    have eh : (wid g : Int) * (g.hi + D) = wid g * g.hi + wid g * D := Int.mul_add _ _ _
    have eK : (wid g : Int) * K = wid g * f - wid g * D + wid g := by rw [eU]; grind
    have hll : (wid g : Int) * g.lo ≤ wid g * g.hi := Int.mul_le_mul_of_nonneg_left hle w0
    rw [eh]
    have hKh : K ≤ g.hi ↔ topD a ≤ wid g * g.hi + wid g * D := by
      constructor
      · intro h
        have := Int.mul_le_mul_of_nonneg_left h w0
        omega
      · intro h
        rcases Int.lt_or_le g.hi K with h1 | h1
        · have h2 : (wid g : Int) * (g.hi + 1) ≤ wid g * K := Int.mul_le_mul_of_nonneg_left (by omega) w0
          rw [Int.mul_add] at h2
          omega
        · exact h1
    unfold powK
    by_cases hu : K < g.lo
    · have hh := hKh.1 (by omega)
      cases hg : g.grad
      · simp [hu]
      · simp only [hu, true_and, if_true, decide_true, Bool.not_true, Bool.false_or, Bool.and_true]
        rw [decide_eq_false (by omega : ¬ g.hi < g.lo)]
        by_cases h1 : (wid g : Int) * g.lo ≤ a.e
        · rw [if_neg (by omega)]; simp [h1]
        · rw [if_pos (by omega)]; simp [h1]
    · rw [if_neg (by omega), if_neg hu, decide_eq_false hu]
      simp only [Bool.not_false, Bool.true_or, Bool.and_true]
      have h3 : (wid g : Int) * g.lo ≤ wid g * K := Int.mul_le_mul_of_nonneg_left (by omega) w0
      by_cases h1 : (wid g : Int) * K ≤ a.e
      · by_cases h2 : g.hi < K
        · rw [if_pos (.inr (by have := hKh.2; omega)), decide_eq_true h2]; simp
        · rw [if_neg (by have := hKh.1 (by omega); omega), decide_eq_false h2]; simp
      · rw [decide_eq_false h1]
        split <;> simp

end Go.Slip

namespace Go.Slip

def stepK (a : Dv) (g : Gd) : Int := max g.lo (upK a (wid g) g.digs.toNat)

end Go.Slip

namespace Go.Slip

theorem step_bd {a : Dv} {g : Gd} (G : GoodG g) (hin : inGridD a g = true) (h0 : a.m ≠ 0) :
    wid g * stepK a g ≤ a.e ∧ a.e ≤ wid g * stepK a g + 484 ∧ g.lo ≤ stepK a g ∧ stepK a g ≤ g.hi := by
  have wp := wid_pos g
  have hd := G.d1
  have hd2 := G.d2
  have hle := G.le
  have w0 : (0 : Int) ≤ wid g := by omega
  obtain ⟨D, hD⟩ : ∃ D : Nat, g.digs = D := ⟨g.digs.toNat, by omega⟩
  have hDt : g.digs.toNat = D := by omega
  have hwD : wid g * D ≤ 4 * 120 := Nat.mul_le_mul wp.2 (by omega)
  have ewD : ((wid g * D : Nat) : Int) = wid g * D := Int.natCast_mul _ _
  unfold stepK
  unfold inGridD at hin
  rw [if_neg h0, hDt, hD] at hin
  rw [hDt]
  have hb := ediv_bd (topD a - 1) (wid g) (by omega)
  have eU : upK a (wid g) D = (topD a - 1) / (wid g : Int) - D + 1 := rfl
  have etop : topD a = a.e + blen a.m := rfl
  have hbm := (blen_pos a.m).2 (by omega)
  generalize topD a = T at *
  generalize upK a (wid g) D = K at *
  generalize (T - 1) / (wid g : Int) = f at *
  have eK : (wid g : Int) * K = wid g * f - wid g * D + wid g := by rw [eU]; grind
  have ehi : (wid g : Int) * (g.hi + D) = wid g * g.hi + wid g * D := Int.mul_add _ _ _
  by_cases h1 : a.e < wid g * g.lo ∨ wid g * (g.hi + D) < T
  · rw [if_pos h1] at hin; simp at hin
  · rw [if_neg h1] at hin
    by_cases hu : K < g.lo
    · rw [if_pos hu] at hin
      have hm : max g.lo K = g.lo := by omega
      rw [hm]
      have h2 : (wid g : Int) * (K + 1) ≤ wid g * g.lo := Int.mul_le_mul_of_nonneg_left (by omega) w0
      rw [Int.mul_add] at h2
      exact ⟨by omega, by omega, by omega, by omega⟩
    · rw [if_neg hu] at hin
      have hm : max g.lo K = K := by omega
      have h2 := of_decide_eq_true hin
      rw [hm]
      have h3 : K ≤ g.hi := by
        rcases Int.lt_or_le g.hi K with h | h
        · have h4 : (wid g : Int) * (g.hi + 1) ≤ wid g * K := Int.mul_le_mul_of_nonneg_left (by omega) w0
          rw [Int.mul_add] at h4
          omega
        · exact h
      exact ⟨by omega, by omega, by omega, h3⟩

end Go.Slip

namespace Go.Slip

def le2 (a : Nat) (x : Int) (b : Nat) (y : Int) : Prop := a * 2 ^ (x - min x y).toNat ≤ b * 2 ^ (y - min x y).toNat

theorem le2_iff {a b : Nat} {x y : Int} (s : Int) (h1 : s ≤ x) (h2 : s ≤ y) : le2 a x b y ↔ a * 2 ^ (x - s).toNat ≤ b * 2 ^ (y - s).toNat := by
  unfold le2
  rw [show (x - s).toNat = (x - min x y).toNat + (min x y - s).toNat by omega, show (y - s).toNat = (y - min x y).toNat + (min x y - s).toNat by omega, Nat.pow_add, Nat.pow_add, ← Nat.mul_assoc, ← Nat.mul_assoc]
  have hp : 0 < 2 ^ (min x y - s).toNat := Nat.pow_pos (by omega)
  exact ⟨fun h => Nat.mul_le_mul_right _ h, fun h => Nat.le_of_mul_le_mul_right h hp⟩

theorem le2_trans {a b c : Nat} {x y z : Int} (h : le2 a x b y) (k : le2 b y c z) : le2 a x c z := by
  obtain ⟨s, h1, h2, h3⟩ : ∃ s : Int, s ≤ x ∧ s ≤ y ∧ s ≤ z := ⟨min x (min y z), by omega, by omega, by omega⟩
  rw [le2_iff s h1 h2] at h
  rw [le2_iff s h2 h3] at k
  rw [le2_iff s h1 h3]
  exact Nat.le_trans h k

theorem le2_pow {a : Nat} {x : Int} (n : Nat) : le2 (a * 2 ^ n) x a (x + n) ∧ le2 a (x + n) (a * 2 ^ n) x := by
  rw [le2_iff x (Int.le_refl _) (by omega), le2_iff x (by omega) (Int.le_refl _)]
  rw [show (x - x).toNat = 0 by omega, show (x + (n : Int) - x).toNat = n by omega]
  simp

theorem qP_iff {num den : Nat} (hd : 0 < den) (e k : Int) (m : Nat) : m ≤ qP num den (e - k) ↔ le2 (m * den) k num e := by
  unfold qP
  rw [Nat.le_div_iff_mul_le (denP_pos hd _)]
  unfold numP denP le2
  rcases Int.le_total k e with h | h
  · rw [show (-(e - k)).toNat = 0 by omega, show (k - min k e).toNat = 0 by omega, show (e - min k e).toNat = (e - k).toNat by omega]
    simp only [Nat.pow_zero, Nat.mul_one]
  · rw [show (e - k).toNat = 0 by omega, show (k - min k e).toNat = (-(e - k)).toNat by omega, show (e - min k e).toNat = 0 by omega]
    simp only [Nat.pow_zero, Nat.mul_one, Nat.mul_assoc]

theorem full_iff2 {num den : Nat} (hd : 0 < den) (e : Int) (w D : Nat) (k : Int) : FullP num den e w D k ↔ le2 (2 ^ (w * (D - 1)) * den) (w * k) num e := by
  unfold FullP; exact qP_iff hd e _ _

end Go.Slip

namespace Go.Slip

theorem q_lt {num den : Nat} (hd : 0 < den) {e : Int} {w D : Nat} (hD : 1 ≤ D) {k : Int} (h : ¬ FullP num den e w D (k + 1)) : qP num den (e - w * k) < 2 ^ (w * D) := by
  rcases Nat.lt_or_ge (qP num den (e - w * k)) (2 ^ (w * D)) with h1 | h1
  · exact h1
  · exfalso
    refine h ((full_iff2 hd e w D (k + 1)).2 ?_)
    have h2 := (qP_iff hd e ((w : Int) * k) _).1 h1
    have e1 : w * D = w * (D - 1) + w := by
      obtain ⟨c, rfl⟩ : ∃ c, D = c + 1 := ⟨D - 1, by omega⟩
      simp only [Nat.add_sub_cancel]; grind
    have e2 : 2 ^ (w * D) * den = 2 ^ (w * (D - 1)) * den * 2 ^ w := by rw [e1, Nat.pow_add]; grind
    rw [e2] at h2
    have h3 := (le2_pow (a := 2 ^ (w * (D - 1)) * den) (x := (w : Int) * k) w).2
    rw [show (w : Int) * (k + 1) = w * k + w by rw [Int.mul_add]; simp]
    exact le2_trans h3 h2

theorem goodG_wide {g : Gd} (h : errG g = 0) : -17000 ≤ wid g * g.lo ∧ wid g * g.hi ≤ 17000 ∧ (wid g : Int) * g.digs ≤ 480 := by
  have G := goodG_of h
  have d1 := G.d1
  have d2 := G.d2
  unfold errG at h
  by_cases h1 : g.rad ≠ 2 ∧ g.rad ≠ 16
  · rw [if_pos h1] at h; simp at h
  · rw [if_neg h1] at h
    by_cases h2 : g.digs < 1 ∨ 120 < g.digs ∨ farG g g.lo ∨ farG g g.hi ∨ g.hi < g.lo
    · rw [if_pos h2] at h; simp at h
    · unfold farG most at h2
      unfold wid
      by_cases h3 : g.rad = 16
      · simp only [if_pos h3] at *; omega
      · simp only [if_neg h3] at *; omega

theorem inGrid_e {a : Dv} {g : Gd} (hg : errG g = 0) (hB : Bare a) (hin : inGridD a g = true) : -17000 ≤ a.e ∧ a.e ≤ 17480 := by
  have G := goodG_of hg
  obtain ⟨w1, w2, w3⟩ := goodG_wide hg
  by_cases h0 : a.m = 0
  · rw [hB.zero h0]; simp
  · unfold inGridD at hin
    rw [if_neg h0] at hin
    by_cases h1 : a.e < wid g * g.lo ∨ wid g * (g.hi + g.digs) < topD a
    · rw [if_pos h1] at hin; simp at hin
    · have ht : topD a = a.e + blen a.m := rfl
      rw [Int.mul_add] at h1
      omega

end Go.Slip

namespace Go.Slip

structure Fm where
  size : Nat
  E : Nat
  F : Nat
  g : Gd
  fam : Nat
  ext : Bool

def fmt (n : Int) : Fm :=
  if n = 1 then ⟨4, 8, 23, ⟨2, 24, -149, 104, true⟩, 1, false⟩
  else if n = 2 then ⟨8, 11, 52, ⟨2, 53, -1074, 971, true⟩, 1, false⟩
  else if n = 3 then ⟨10, 15, 64, ⟨2, 64, -16445, 16320, true⟩, 1, true⟩
  else if n = 4 then ⟨4, 7, 24, ⟨16, 6, -70, 57, false⟩, 2, false⟩
  else if n = 5 then ⟨8, 7, 56, ⟨16, 14, -78, 49, false⟩, 2, false⟩
  else if n = 6 then ⟨4, 8, 23, ⟨2, 24, -151, 103, false⟩, 3, false⟩
  else if n = 7 then ⟨8, 8, 55, ⟨2, 56, -183, 71, false⟩, 3, false⟩
  else if n = 8 then ⟨8, 11, 52, ⟨2, 53, -1076, 970, false⟩, 3, false⟩
  else ⟨0, 0, 0, ⟨0, 0, 0, 0, false⟩, 0, false⟩

def IsFm (n : Int) : Prop := 1 ≤ n ∧ n ≤ 8
instance (n : Int) : Decidable (IsFm n) := by unfold IsFm; exact inferInstance

def Fm.hid (f : Fm) : Bool := !(f.fam == 2) && !f.ext
def Fm.inf (f : Fm) : Bool := f.fam == 1
def Fm.res (f : Fm) : Bool := f.fam == 3
def Fm.ord (f : Fm) : Nat := if f.ext then 2 else if f.fam = 3 then 1 else 0

structure GoodF (f : Fm) : Prop where
  bits : 1 + f.E + f.F = 8 * f.size
  sz : f.size = 4 ∨ f.size = 8 ∨ f.size = 10
  e1 : 7 ≤ f.E
  e2 : f.E ≤ 15
  f1 : 23 ≤ f.F
  f2 : f.F ≤ 64
  g : errG f.g = 0
  fam : f.fam = 1 ∨ f.fam = 2 ∨ f.fam = 3
  ext : f.ext = true → f.fam = 1 ∧ f.F = 64 ∧ f.g.digs = 64
  w : wid f.g = if f.fam = 2 then 4 else 1
  rad : f.g.rad = if f.fam = 2 then 16 else 2
  grad : f.g.grad = decide (f.fam = 1)
  lo : -16445 ≤ f.g.lo ∧ f.g.lo ≤ -70
  hi : f.g.hi ≤ 16320
  hi1 : f.fam = 1 → f.g.hi = f.g.lo + (2 ^ f.E : Nat) - 3
  hi2 : f.fam = 2 → f.g.hi = f.g.lo + (2 ^ f.E : Nat) - 1
  hi3 : f.fam = 3 → f.g.hi = f.g.lo + (2 ^ f.E : Nat) - 2
  d2 : f.fam = 2 → 4 * f.g.digs = f.F
  d1 : f.fam ≠ 2 → f.ext = false → f.g.digs = f.F + 1

theorem fm_cases {n : Int} (h : IsFm n) : n = 1 ∨ n = 2 ∨ n = 3 ∨ n = 4 ∨ n = 5 ∨ n = 6 ∨ n = 7 ∨ n = 8 := by unfold IsFm at h; omega
theorem good_fm {n : Int} (h : IsFm n) : GoodF (fmt n) := by
  rcases fm_cases h with rfl | rfl | rfl | rfl | rfl | rfl | rfl | rfl <;> exact ⟨by decide, by decide, by decide, by decide, by decide, by decide, by decide, by decide, by decide, by decide, by decide, by decide, by decide, by decide, by decide, by decide, by decide, by decide, by decide⟩

def plc (o n i : Nat) : Nat := if o = 2 then n - 1 - i else if o = 1 then i + 1 - 2 * (i % 2) else i
def ordL (o : Nat) (xs : List Nat) : List Nat := (List.range xs.length).map fun i => dg xs (plc o xs.length i)
theorem ordL_len (o : Nat) (xs : List Nat) : (ordL o xs).length = xs.length := by simp [ordL]
theorem dg_ordL {o : Nat} {xs : List Nat} {i : Nat} (h : i < xs.length) : dg (ordL o xs) i = dg xs (plc o xs.length i) := by
  unfold ordL
  rw [dg, List.getElem?_map, List.getElem?_range h]
  rfl
theorem ext_dg {xs ys : List Nat} (hl : xs.length = ys.length) (h : ∀ i, i < xs.length → dg xs i = dg ys i) : xs = ys := by
  apply List.ext_getElem hl
  intro i h1 h2
  have := h i h1
  unfold dg at this
  rw [List.getElem?_eq_getElem h1, List.getElem?_eq_getElem h2] at this
  simpa using this
theorem plc_lt {o n i : Nat} (ho : o = 1 → n % 2 = 0) (h : i < n) : plc o n i < n := by
  unfold plc
  split
  · omega
  · split
    · rename_i k
      have := ho k
      omega
    · exact h
theorem plc_plc {o n i : Nat} (h : i < n) : plc o n (plc o n i) = i := by
  unfold plc
  split
  · omega
  · split
    · omega
    · rfl
theorem ordL_bytes {o : Nat} {xs : List Nat} (ho : o = 1 → xs.length % 2 = 0) (h : ∀ x ∈ xs, x < 256) : ∀ x ∈ ordL o xs, x < 256 := by
  intro x hx
  unfold ordL at hx
  rw [List.mem_map] at hx
  obtain ⟨i, hi, rfl⟩ := hx
  rw [List.mem_range] at hi
  have k := plc_lt ho hi
  unfold dg
  rw [List.getElem?_eq_getElem k]
  exact h _ (List.getElem_mem k)
theorem ordL_ordL {o : Nat} {xs : List Nat} (ho : o = 1 → xs.length % 2 = 0) : ordL o (ordL o xs) = xs := by
  apply ext_dg (by rw [ordL_len, ordL_len])
  intro i hi
  rw [ordL_len, ordL_len] at hi
  rw [dg_ordL (by rw [ordL_len]; exact hi), dg_ordL (by rw [ordL_len]; exact plc_lt ho hi), ordL_len, plc_plc hi]
theorem ordL_zero (xs : List Nat) : ordL 0 xs = xs := ext_dg (ordL_len _ _) fun i hi => by rw [ordL_len] at hi; rw [dg_ordL hi]; rfl
theorem ordL_two (xs : List Nat) : ordL 2 xs = xs.reverse := ext_dg (by rw [ordL_len, List.length_reverse]) fun i hi => by rw [ordL_len] at hi; rw [dg_ordL hi, dg_reverse hi]; rfl

/-! ### What a pattern's number is -/
def Fm.neg (f : Fm) (N : Nat) : Bool := N / 2 ^ f.F / 2 ^ f.E == 1
def Fm.exp (f : Fm) (N : Nat) : Nat := N / 2 ^ f.F % 2 ^ f.E
def Fm.frac (f : Fm) (N : Nat) : Nat := N % 2 ^ f.F

structure Dc where
  cls : Nat
  m : Nat
  p : Int
def Fm.dec (f : Fm) (neg : Bool) (e frac : Nat) : Dc :=
  if f.fam = 2 then ⟨2, frac, f.g.lo + e⟩
  else if f.fam = 1 ∧ e = 2 ^ f.E - 1 then (if (f.ext = false ∧ frac = 0) ∨ (f.ext = true ∧ frac = 2 ^ 63) then ⟨3, 0, 0⟩ else ⟨4, 0, 0⟩)
  else if f.fam = 3 ∧ e = 0 then (if neg then ⟨5, 0, 0⟩ else ⟨1, 0, 0⟩)
  else if e = 0 then ⟨2, frac, f.g.lo⟩
  else if f.ext = false then ⟨2, frac + 2 ^ f.F, f.g.lo + e - 1⟩
  else if frac < 2 ^ 63 then ⟨4, 0, 0⟩
  else ⟨2, frac, f.g.lo + e - 1⟩
def Dc.c (d : Dc) : Nat := if d.cls = 2 ∧ d.m = 0 then 1 else d.cls

theorem dec_cls (f : Fm) (neg : Bool) (e frac : Nat) : (f.dec neg e frac).cls = 1 ∨ (f.dec neg e frac).cls = 2 ∨ (f.dec neg e frac).cls = 3 ∨ (f.dec neg e frac).cls = 4 ∨ (f.dec neg e frac).cls = 5 := by
  unfold Fm.dec
  repeat' split
  all_goals simp
theorem dec_m {f : Fm} (neg : Bool) {e frac : Nat} (h : frac < 2 ^ f.F) : (f.dec neg e frac).m < 2 ^ (f.F + 1) := by
  have h1 : 2 ^ (f.F + 1) = 2 * 2 ^ f.F := by rw [Nat.pow_succ]; omega
  have h2 : 0 < 2 ^ f.F := Nat.pow_pos (by omega)
  unfold Fm.dec
  repeat' split
  all_goals simp only
  all_goals omega
theorem dec_p {f : Fm} (G : GoodF f) (neg : Bool) {e frac : Nat} (h : e < 2 ^ f.E) : -16445 ≤ (f.dec neg e frac).p ∧ (f.dec neg e frac).p ≤ 16323 := by
  have h1 := G.lo
  have h2 := G.hi
  have h3 := G.hi1
  have h4 := G.hi2
  have h5 := G.hi3
  have h6 := G.fam
  unfold Fm.dec
  generalize 2 ^ f.E = T at *
  repeat' split
  all_goals simp only
  all_goals omega

structure Vl where
  cls : Nat
  neg : Bool
  d : Nat
  pow : Int
structure Vr where
  cls : Nat
  neg : Bool
  x : Dv
def Fm.vl (f : Fm) (neg : Bool) (d : Dc) : Vl := ⟨d.c, if d.c ≤ 3 then neg else false, if d.c = 2 then d.m / 2 ^ (tz d.m / wid f.g * wid f.g) else 0, if d.c = 2 then d.p + (tz d.m / wid f.g : Nat) else 0⟩
def Fm.vr (f : Fm) (neg : Bool) (d : Dc) : Vr := ⟨d.c, if d.c ≤ 3 then neg else false, if d.c = 2 then bare ⟨neg, d.m, wid f.g * d.p⟩ else ⟨false, 0, 0⟩⟩
def Fm.decN (f : Fm) (N : Nat) : Dc := f.dec (f.neg N) (f.exp N) (f.frac N)
def Fm.valN (f : Fm) (N : Nat) : Vl := f.vl (f.neg N) (f.decN N)
def Fm.refN (f : Fm) (N : Nat) : Vr := f.vr (f.neg N) (f.decN N)

def Fm.powR (f : Fm) (x : Dv) : Int := (x.e + 80000).tdiv (wid f.g) - (80000 : Int).tdiv (wid f.g)
def Fm.toV (f : Fm) (v : Vr) : Vl := ⟨v.cls, v.neg, if v.cls = 2 then dFloor ⟨false, v.x.m, v.x.e - wid f.g * f.powR v.x⟩ else 0, if v.cls = 2 then f.powR v.x else 0⟩

theorem toV_same (f : Fm) (neg : Bool) (d : Dc) (h1 : -19999 ≤ d.p) (h2 : d.p ≤ 19999) : f.toV (f.vr neg d) = f.vl neg d := by
  by_cases h : d.c = 2
  · have hm : d.m ≠ 0 := by
      intro h0
      unfold Dc.c at h
      split at h
      · omega
      · rename_i k
        exact k ⟨h, h0⟩
    have hw : wid f.g = 1 ∨ wid f.g = 4 := by unfold wid; split <;> simp
    have hx : bare ⟨neg, d.m, wid f.g * d.p⟩ = ⟨neg, d.m / 2 ^ tz d.m, wid f.g * d.p + tz d.m⟩ := by unfold bare; rw [if_neg hm]
    have hk : f.powR (bare ⟨neg, d.m, wid f.g * d.p⟩) = d.p + (tz d.m / wid f.g : Nat) := by
      unfold Fm.powR
      rw [hx]
      exact place_same d.p (tz d.m) (wid f.g) hw h1 h2
    unfold Fm.toV Fm.vr Fm.vl
    simp only [if_pos h, hk]
    rw [hx]
    simp only [Vl.mk.injEq, true_and, and_true]
    have e : (wid f.g : Int) * d.p + tz d.m - wid f.g * (d.p + (tz d.m / wid f.g : Nat)) = ((tz d.m % wid f.g : Nat) : Int) := by
      rw [Int.mul_add]
      have := Nat.div_add_mod (tz d.m) (wid f.g)
      have k : (wid f.g : Int) * ((tz d.m / wid f.g : Nat) : Int) = ((wid f.g * (tz d.m / wid f.g) : Nat) : Int) := by rw [Int.natCast_mul]
      rw [k]
      omega
    unfold dFloor
    simp only
    rw [e, if_pos (by omega), Int.toNat_natCast]
    exact digits_same (w := wid f.g) ⟨d.m / 2 ^ tz d.m, ((tz_spec d.m (by omega)).1).symm⟩
  · unfold Fm.toV Fm.vr Fm.vl
    simp only [if_neg h]

end Go.Slip

namespace Go.Slip

theorem bits_neg {f : Fm} {x : Bool} {r : List Bool} (h : r.length = f.E + f.F) : f.neg (vb (x :: r)) = x := by
  unfold Fm.neg
  rw [Nat.div_div_eq_div_mul, ← Nat.pow_add, Nat.add_comm f.F, ← h]
  exact vb_top x r
theorem bits_top {f : Fm} {x : Bool} {r : List Bool} (h : r.length = f.E + f.F) : vb (x :: r) / 2 ^ f.F = vb (x :: r.take f.E) := by
  have := vb_take (x :: r) (1 + f.E)
  rw [List.length_cons, h, show f.E + f.F + 1 - (1 + f.E) = f.F by omega, Nat.add_comm 1, List.take_succ_cons] at this
  exact this.symm
theorem bits_exp {f : Fm} {x : Bool} {r : List Bool} (h : r.length = f.E + f.F) : f.exp (vb (x :: r)) = vb (r.take f.E) := by
  unfold Fm.exp
  rw [bits_top h]
  have h2 : (r.take f.E).length = f.E := by rw [List.length_take]; omega
  have := vb_rest x (r.take f.E)
  rw [h2] at this
  exact this
theorem bits_frac {f : Fm} {x : Bool} {r : List Bool} (h : r.length = f.E + f.F) : f.frac (vb (x :: r)) = vb (r.drop f.E) := by
  unfold Fm.frac
  have := vb_drop (x :: r) (f.E + 1)
  rw [List.length_cons, h, show f.E + f.F + 1 - (f.E + 1) = f.F by omega, List.drop_succ_cons] at this
  exact this.symm

def bitsN : Nat → Nat → List Bool
  | _, 0 => []
  | a, n + 1 => bitsN (a / 2) n ++ [a % 2 == 1]
theorem bitsN_len : ∀ (n a : Nat), (bitsN a n).length = n
  | 0, _ => rfl
  | n + 1, a => by rw [bitsN, List.length_append, bitsN_len n]; rfl
theorem vb_bitsN : ∀ (n a : Nat), vb (bitsN a n) = a % 2 ^ n
  | 0, a => by simp [bitsN, vb, Nat.mod_one]
  | n + 1, a => by
    rw [bitsN, vb_snoc, vb_bitsN n]
    have h1 : a % 2 ^ (n + 1) = a % 2 + 2 * (a / 2 % 2 ^ n) := by
      rw [Nat.pow_succ, Nat.mul_comm (2 ^ n) 2, Nat.mod_mul]
    have h2 : (a % 2 == 1).toNat = a % 2 := by
      rcases Nat.mod_two_eq_zero_or_one a with h | h <;> rw [h] <;> rfl
    omega

def Fm.pat (f : Fm) (neg : Bool) (e frac : Nat) : Nat := (neg.toNat * 2 ^ f.E + e) * 2 ^ f.F + frac
def bytesN : Nat → Nat → List Nat
  | _, 0 => []
  | a, n + 1 => bytesN (a / 256) n ++ [a % 256]
theorem bytesN_len : ∀ (n a : Nat), (bytesN a n).length = n
  | 0, _ => rfl
  | n + 1, a => by rw [bytesN, List.length_append, bytesN_len n]; rfl
theorem bytesN_lt : ∀ (n a : Nat), ∀ x ∈ bytesN a n, x < 256
  | 0, _, x, h => by simp [bytesN] at h
  | n + 1, a, x, h => by
    rw [bytesN, List.mem_append] at h
    rcases h with h | h
    · exact bytesN_lt n _ x h
    · rw [List.mem_singleton] at h
      omega
theorem be_bytesN : ∀ (n a : Nat), be (bytesN a n) = a % 2 ^ (8 * n)
  | 0, a => by simp [bytesN, be, Nat.mod_one]
  | n + 1, a => by
    rw [bytesN, be_snoc, be_bytesN n]
    rw [show 8 * (n + 1) = 8 * n + 8 by omega, Nat.pow_add, Nat.mul_comm (2 ^ (8 * n)), Nat.mod_mul]
    rw [show (2 : Nat) ^ 8 = 256 from rfl]
    omega
theorem dg_snoc_lt (l : List Nat) (x i : Nat) (h : i < l.length) : dg (l ++ [x]) i = dg l i := by
  unfold dg
  rw [List.getElem?_append_left h]
theorem dg_bytesN : ∀ (n a i : Nat), i < n → dg (bytesN a n) i = a / 2 ^ (8 * (n - 1 - i)) % 256
  | 0, _, _, h => by omega
  | n + 1, a, i, h => by
    rw [bytesN]
    by_cases h2 : i < n
    · rw [dg_snoc_lt _ _ _ (by rw [bytesN_len]; exact h2), dg_bytesN n _ i h2, Nat.div_div_eq_div_mul]
      congr 2
      rw [show (256 : Nat) = 2 ^ 8 from rfl, ← Nat.pow_add]
      congr 1
      omega
    · obtain rfl : i = n := by omega
      unfold dg
      rw [List.getElem?_append_right (by rw [bytesN_len]; exact Nat.le_refl _), bytesN_len]
      simp

def Fm.str (f : Fm) (neg : Bool) (e frac : Nat) : List Nat := ordL f.ord (bytesN (f.pat neg e frac) f.size)
def Fm.bits (f : Fm) (neg : Bool) (e frac : Nat) : List Bool := neg :: (bitsN e f.E ++ bitsN frac f.F)
theorem bits_len (f : Fm) (neg : Bool) (e frac : Nat) : (f.bits neg e frac).length = 1 + f.E + f.F := by
  unfold Fm.bits
  rw [List.length_cons, List.length_append, bitsN_len, bitsN_len]
  omega
theorem vb_fbits {f : Fm} {neg : Bool} {e frac : Nat} (he : e < 2 ^ f.E) (hf : frac < 2 ^ f.F) : vb (f.bits neg e frac) = f.pat neg e frac := by
  unfold Fm.bits Fm.pat
  rw [vb_cons, vb_append, vb_bitsN, vb_bitsN, bitsN_len, List.length_append, bitsN_len, bitsN_len, Nat.mod_eq_of_lt he, Nat.mod_eq_of_lt hf, Nat.pow_add, Nat.add_mul, Nat.mul_assoc]
  omega
theorem str_len (f : Fm) (neg : Bool) (e frac : Nat) : (f.str neg e frac).length = f.size := by unfold Fm.str; rw [ordL_len, bytesN_len]
theorem pat_lt {f : Fm} (G : GoodF f) {neg : Bool} {e frac : Nat} (he : e < 2 ^ f.E) (hf : frac < 2 ^ f.F) : f.pat neg e frac < 2 ^ (8 * f.size) := by
  rw [← G.bits, ← vb_fbits he hf, ← bits_len f neg e frac]
  exact vb_lt _
theorem be_str {f : Fm} (G : GoodF f) {neg : Bool} {e frac : Nat} (he : e < 2 ^ f.E) (hf : frac < 2 ^ f.F) : be (ordL f.ord (f.str neg e frac)) = f.pat neg e frac := by
  have ho : f.ord = 1 → f.size % 2 = 0 := fun _ => by have := G.sz; omega
  unfold Fm.str
  rw [ordL_ordL (by rw [bytesN_len]; exact ho), be_bytesN, Nat.mod_eq_of_lt (pat_lt G he hf)]
theorem pat_parts {f : Fm} {neg : Bool} {e frac : Nat} (he : e < 2 ^ f.E) (hf : frac < 2 ^ f.F) : f.neg (f.pat neg e frac) = neg ∧ f.exp (f.pat neg e frac) = e ∧ f.frac (f.pat neg e frac) = frac := by
  rw [← vb_fbits he hf]
  unfold Fm.bits
  have hl : (bitsN e f.E ++ bitsN frac f.F).length = f.E + f.F := by rw [List.length_append, bitsN_len, bitsN_len]
  refine ⟨bits_neg hl, ?_, ?_⟩
  · rw [bits_exp hl, List.take_left' (bitsN_len _ _), vb_bitsN, Nat.mod_eq_of_lt he]
  · rw [bits_frac hl, List.drop_left' (bitsN_len _ _), vb_bitsN, Nat.mod_eq_of_lt hf]

end Go.Slip

namespace Go.Slip
open Go.RowKit

section walk
variable {P : Program} {ops : Array Oper} {rest : List Oper} {o : Oper} {a : Act} {K : Act → World → Prop} {Q : Exit → Act → World → Prop} {w : World}

end walk

theorem Own.kept {w w' : World} {base : Nat} {k : IntKind} {e : TypeId} {p q : Option Addr} {c : Nat} {xs : List Nat} (h : Own w base k e p c xs) (hg : w.grownBy w' (q.map (·.block))) (hne : q.isSome = true → p.isSome = true → blk q ≠ blk p) : Own w' base k e p c xs := by
  refine h.grown hg fun hp => ?_
  cases q with
  | none => simp
  | some a =>
    have := hne rfl hp
    simp [blk] at this ⊢
    exact fun e => this e.symm

end Go.Slip
namespace Go.Proofs.YtcipdimogodndaaDoor
open Go.RowKit Go.Slip

end Go.Proofs.YtcipdimogodndaaDoor

namespace Go.Slip
open Go.RowKit

theorem Rd.pre {w : World} {k : IntKind} {p : Option Addr} {xs ys : List Nat} (h : Rd w k p (xs ++ ys)) : Rd w k p xs := by
  have hl : (xs ++ ys).length = xs.length + ys.length := List.length_append
  refine ⟨fun h0 => h.solid (by omega), fun j hj => ?_⟩
  rw [h.cells j (by omega)]
  unfold dg
  rw [List.getElem?_append_left hj]

theorem elem_of {P : Program} {t e : TypeId} (h : P.underlying t = some (.slice e)) : P.elem t = e := by
  unfold Program.elem
  rw [h]

theorem run_size1 {P : Program} {t e : TypeId} {k : IntKind} {bytes : Nat} (hty : SlTy P t e k bytes) (w : World) : (sizeOf (P.elem t)).run P w = .ok 1 w := by
  obtain ⟨i, hi, -, hs, -⟩ := hty.hi
  rw [elem_of hty.ht]
  simp [sizeOf, typeInfo, hi, hs]

theorem ht_elem {P : Program} {t e : TypeId} {k : IntKind} {bytes : Nat} (hty : SlTy P t e k bytes) : P.underlying t = some (.slice (P.elem t)) := by
  rw [elem_of hty.ht]; exact hty.ht

section
variable {P : Program} {ops : Array Oper} {Q : Exit → Act → World → Prop} {a : Act} {w : World} {rest : List Oper} {o : Oper}

theorem exec_ix {t : TypeId} {x y : Operand} {dst : Option Tmp} {t2 : TypeId} {pos : String} {af : Array Edge} {g : Option (Nat × Bool)} {e : TypeId} {k : IntKind} {bytes : Nat} (hty : SlTy P t e k bytes) {p : Option Addr} {n c m : Nat}
    (hp : Solid p n) (hx : a.eval x = .slice p n c) (hy : a.eval y = .int .i64 ((m : Nat) : Int)) (hm : m < n) : (execOp a.eval ⟨dst, .indexAddr t x y, t2, pos, af, g⟩).run P w = .ok (.value (.pointer (some (at_ p m)))) w := by
  unfold execOp
  simp only [hx, hy, Sem.run_bind, run_indexAt_solid w t p n c .i64 m (ht_elem hty) hp, if_pos (show (0 : Int) ≤ (m : Int) ∧ (m : Int) < (n : Int) by omega), run_size1 hty, Result.andThen_ok, Sem.run_pure, Int.toNat_natCast, Nat.mul_one]

theorem exec_ldr {ty : TypeId} {x : Operand} {dst : Option Tmp} {t2 : TypeId} {pos : String} {af : Array Edge} {g : Option (Nat × Bool)} {k : IntKind} {p : Option Addr} {xs : List Nat} (hr : Rd w k p xs) (hT : SxOne P ty) {m : Nat} {v : Int}
    (hx : a.eval x = .pointer (some (at_ p m))) (hm : m < xs.length) (hv : ((dg xs m : Nat) : Int) = v) : (execOp a.eval ⟨dst, .load ty x, t2, pos, af, g⟩).run P w = .ok (.value (.int k v)) w := by
  refine exec_ld hx ?_
  have hl : (load (at_ p m)).run P w = .ok (.int k v) w := by
    have := hr.cells m hm
    rw [hv] at this
    simp [go_sem, this]
  simp only [Instr.loadAt, Instr.sureAddr, Sem.run_bind, Sem.run_pure, Result.andThen_ok, loadVar, run_isAgg_one hT]
  simpa using hl

end

end Go.Slip

namespace Go.Slip
open Go.RowKit

def bytesOf (s : ByteArray) : List Nat := s.data.toList.map UInt8.toNat

theorem bytesOf_length (s : ByteArray) : (bytesOf s).length = s.size := by unfold bytesOf; rw [List.length_map, Array.length_toList]; rfl
theorem bytesOf_lt (s : ByteArray) : ∀ x ∈ bytesOf s, x < 256 := by
  intro x hx
  obtain ⟨u, _, rfl⟩ := List.mem_map.1 hx
  exact u.toNat_lt

theorem below_bytesWorld {w : World} {B : Nat} (hB : B ≤ w.heap.size) (e : TypeId) (s : ByteArray) : Below B w (Lib.bytesWorld w e s) := by
  refine ⟨?_, ?_, ?_, by rw [Lib.bytesWorld_size]; omega, fun i hi => Lib.bytesWorld_at_old w e s i (by omega)⟩
  all_goals (unfold Lib.bytesWorld World.freeze; split <;> rfl)

theorem rd_bytesWorld (w : World) (e : TypeId) (s : ByteArray) : Rd (Lib.bytesWorld w e s) .u8 (some ⟨w.heap.size, 0, none⟩) (bytesOf s) := by
  refine ⟨fun _ => ⟨rfl, rfl⟩, fun j hj => ?_⟩
  have hj2 : j < s.size := by rw [← bytesOf_length]; exact hj
  have h := Lib.bytesWorld_cell w e s j hj2
  simp only [at_, Option.getD_some, Nat.zero_add]
  rw [h, dg_of_lt hj]
  simp [bytesOf, List.getD, hj2]

section walk
variable {P : Program} {ops : Array Oper} {rest : List Oper} {o : Oper} {a : Act} {K : Act → World → Prop} {Q : Exit → Act → World → Prop} {w : World}

end walk
end Go.Slip

namespace Go.Slip
open Go.RowKit

structure RdV (w : World) (p : Option Addr) (vs : List Value) : Prop where
  solid : Solid p vs.length
  cells : ∀ j, j < vs.length → w.cell? (at_ p j) = vs[j]?

theorem RdV.nil (w : World) (p : Option Addr) : RdV w p [] := ⟨fun h => by simp at h, fun j hj => by simp at hj⟩
theorem RdV.lt {w : World} {p : Option Addr} {vs : List Value} (h : RdV w p vs) (h0 : 0 < vs.length) : blk p < w.heap.size :=
  World.block_lt_of_cell? w (at_ p 0) (u := vs[0]) (by rw [h.cells 0 h0, List.getElem?_eq_getElem h0])
theorem RdV.same {w w' : World} {p : Option Addr} {vs : List Value} (h : RdV w p vs) (hb : 0 < vs.length → w'.heap[blk p]? = w.heap[blk p]?) : RdV w' p vs :=
  ⟨h.solid, fun j hj => by rw [World.cell?_of_block (w := w) (a := at_ p j) (hb (by omega))]; exact h.cells j hj⟩
theorem RdV.below {w w' : World} {B : Nat} {p : Option Addr} {vs : List Value} (h : RdV w p vs) (hb : Below B w w') (hp : 0 < vs.length → blk p < B) : RdV w' p vs :=
  h.same fun h0 => hb.block _ (hp h0)
theorem RdV.past {w w' : World} {p : Option Addr} {vs : List Value} (h : RdV w p vs) (hb : Below w.heap.size w w') : RdV w' p vs :=
  h.below hb fun h0 => h.lt h0
theorem RdV.drop {w : World} {p : Option Addr} {vs : List Value} (h : RdV w p vs) (n : Nat) : RdV w (p.map (·.add n)) (vs.drop n) := by
  refine ⟨fun h0 => ?_, fun j hj => ?_⟩
  · have h1 := h.solid (by simp at h0; omega)
    refine ⟨by simpa using h1.1, ?_⟩
    rw [getD_add p n h1.1]
    unfold Addr.add
    split
    · exact h1.2
    · rfl
  · simp only [List.length_drop] at hj
    have h1 := h.solid (by omega)
    rw [at_map p n j h1.1, h.cells (n + j) (by omega), List.getElem?_drop]
theorem RdV.take {w : World} {p : Option Addr} {vs : List Value} (h : RdV w p vs) (n : Nat) : RdV w p (vs.take n) := by
  refine ⟨h.solid.mono (by simp; omega), fun j hj => ?_⟩
  simp only [List.length_take] at hj
  rw [h.cells j (by omega), List.getElem?_take, if_pos (by omega)]
theorem Rd.v {w : World} {k : IntKind} {p : Option Addr} {xs : List Nat} (h : Rd w k p xs) : RdV w p (xs.map fun x : Nat => Value.int k (x : Int)) := by
  refine ⟨by rw [List.length_map]; exact h.solid, fun j hj => ?_⟩
  rw [List.length_map] at hj
  rw [h.cells j hj, List.getElem?_map]
  simp [hj, dg_of_lt]
def OwnV (w : World) (base : Nat) (e : TypeId) (p : Option Addr) (c : Nat) (vs : List Value) : Prop := w.ownsRow base e 1 (.slice p vs.length c) vs.length vs
theorem Own.v {w : World} {base : Nat} {k : IntKind} {e : TypeId} {p : Option Addr} {c : Nat} {xs : List Nat} (h : Own w base k e p c xs) : OwnV w base e p c (xs.map fun x : Nat => Value.int k (x : Int)) := by
  unfold OwnV
  rw [List.length_map]
  exact h
theorem own_of_v {w : World} {base : Nat} {k : IntKind} {e : TypeId} {p : Option Addr} {c : Nat} {xs : List Nat} (h : OwnV w base e p c (xs.map fun x : Nat => Value.int k (x : Int))) : Own w base k e p c xs := by
  unfold OwnV at h
  rw [List.length_map] at h
  exact h
theorem OwnV.nil (w : World) (base : Nat) (e : TypeId) : OwnV w base e none 0 [] := World.ownsRow_nil w base e 1
theorem OwnV.form {w : World} {base : Nat} {e : TypeId} {p : Option Addr} {c : Nat} {vs : List Value} (h : OwnV w base e p c vs) :
    (p = none ∧ c = 0 ∧ vs = []) ∨ ∃ g, p = some ⟨g, 0, none⟩ ∧ base ≤ g ∧ g < w.heap.size ∧ vs.length ≤ c ∧ c ≤ maxLen := by
  rcases h.2 with ⟨h1, h2⟩ | ⟨g, cap, cur, hv, hb, hg, hn, hc, _, _⟩
  · left
    simp only [Value.slice.injEq] at h1
    exact ⟨h1.1, h1.2.2, List.eq_nil_of_length_eq_zero h2⟩
  · right
    simp only [Value.slice.injEq] at hv
    obtain ⟨rfl, _, rfl⟩ := hv
    exact ⟨g, rfl, hb, (Array.getElem?_eq_some_iff.1 hg).1, hn, hc⟩
theorem OwnV.mono {w : World} {base b' : Nat} {e : TypeId} {p : Option Addr} {c : Nat} {vs : List Value} (h : OwnV w base e p c vs) (hb : b' ≤ base) : OwnV w b' e p c vs := by
  refine ⟨h.1, ?_⟩
  rcases h.2 with h1 | ⟨g, cap, cur, hv, hbg, r⟩
  · exact .inl h1
  · exact .inr ⟨g, cap, cur, hv, by omega, r⟩
theorem OwnV.le_cap {w : World} {base : Nat} {e : TypeId} {p : Option Addr} {c : Nat} {vs : List Value} (h : OwnV w base e p c vs) : vs.length ≤ c := by
  rcases h.form with ⟨_, rfl, rfl⟩ | ⟨g, _, _, _, h, _⟩
  · simp
  · exact h
theorem OwnV.rd {w : World} {base : Nat} {e : TypeId} {p : Option Addr} {c : Nat} {vs : List Value} (h : OwnV w base e p c vs) : RdV w p vs := by
  rcases h.form with ⟨rfl, _, rfl⟩ | ⟨g, rfl, _⟩
  · exact RdV.nil w none
  · refine ⟨fun _ => ⟨rfl, rfl⟩, fun j hj => ?_⟩
    have h1 := World.ownsRow.cellAt (w := w) (base := base) (e := e) (size := 1) (g := g) (n := vs.length) (cap := c) h j (by omega)
    simp only [at_, Option.getD_some, Nat.zero_add]
    exact h1
theorem OwnV.blk_lt {w : World} {base : Nat} {e : TypeId} {p : Option Addr} {c : Nat} {vs : List Value} (h : OwnV w base e p c vs) (hp : p.isSome = true) : base ≤ blk p ∧ blk p < w.heap.size := by
  rcases h.form with ⟨rfl, _, rfl⟩ | ⟨g, rfl, h1, h2, _⟩
  · simp at hp
  · exact ⟨h1, h2⟩
theorem OwnV.same {w w' : World} {base : Nat} {e : TypeId} {p : Option Addr} {c : Nat} {vs : List Value} (h : OwnV w base e p c vs) (hb : p.isSome = true → w'.heap[blk p]? = w.heap[blk p]?) : OwnV w' base e p c vs := by
  refine ⟨h.1, ?_⟩
  rcases h.2 with h1 | ⟨g, cap, cur, hv, hbg, hg, r⟩
  · exact .inl h1
  · simp only [Value.slice.injEq] at hv
    obtain ⟨rfl, h2, rfl⟩ := hv
    exact .inr ⟨g, c, cur, rfl, hbg, by rw [← hg]; exact hb rfl, r⟩
theorem OwnV.below {w w' : World} {base B : Nat} {e : TypeId} {p : Option Addr} {c : Nat} {vs : List Value} (h : OwnV w base e p c vs) (hb : Below B w w') (hp : p.isSome = true → blk p < B) : OwnV w' base e p c vs :=
  h.same fun h0 => hb.block _ (hp h0)
theorem OwnV.past {w w' : World} {base : Nat} {e : TypeId} {p : Option Addr} {c : Nat} {vs : List Value} (h : OwnV w base e p c vs) (hb : Below w.heap.size w w') : OwnV w' base e p c vs :=
  h.below hb fun h0 => (h.blk_lt h0).2
theorem storedv {w : World} {base : Nat} {e : TypeId} {p : Option Addr} {c : Nat} {vs : List Value} (h : OwnV w base e p c vs) (j : Nat) (hj : j < vs.length) (v : Value) :
    OwnV (w.setCell (at_ p j) v) base e p c (vs.set j v) ∧ w.grownBy (w.setCell (at_ p j) v) (some (blk p)) ∧ base ≤ blk p := by
  rcases h.form with ⟨rfl, _, rfl⟩ | ⟨g, rfl, hb, _⟩
  · simp at hj
  · have h1 := World.ownsRow.stored (w := w) (base := base) (e := e) (size := 1) (g := g) (n := vs.length) (cap := c) h j v
    simp only [at_, Option.getD_some, Nat.zero_add]
    refine ⟨?_, h1.2, hb⟩
    unfold OwnV
    rw [List.length_set]
    exact h1.1
theorem frozenv {w : World} {base : Nat} {e : TypeId} {p : Option Addr} {c : Nat} {vs : List Value} (h : OwnV w base e p c vs) (j : Nat) (hj : j < vs.length) : w.frozen? (at_ p j) = false := by
  rcases h.form with ⟨rfl, _, rfl⟩ | ⟨g, rfl, hb, _⟩
  · simp at hj
  · simpa [at_] using World.ownsRow.frozenAt (w := w) (base := base) (e := e) (size := 1) (g := g) (n := vs.length) (cap := c) h j

structure SlTyV (P : Program) (t e : TypeId) (z : Value) (bytes : Nat) : Prop where
  ht : P.underlying t = some (.slice e)
  hi : ∃ i, P.info? e = some i ∧ i.zero = some z ∧ i.size = 1 ∧ i.bytes = bytes
  hz : z.cells = #[z]
  h1 : z.oneCell' = true
  le : bytes ≤ 16

section walk
variable {P : Program} {ops : Array Oper} {rest : List Oper} {o : Oper} {a : Act} {Q : Exit → Act → World → Prop} {w : World} {K : Act → World → Prop}

theorem opw_put (d : Option Tmp) (hd : o.dst = d) (x y : Operand) (t : TypeId) (ho : o.op = .store t x y) {ts : TypeId} {z : Value} {bytes : Nat} (hty : SlTyV P ts t z bytes)
    (base : Nat) (p : Option Addr) (c : Nat) (vs : List Value) (hown : OwnV w base t p c vs) (j : Nat) (hj : j < vs.length) (v : Value) (hv : v.cells = #[v]) (h5 : v.oneCell' = true)
    (hx : a.eval x = .pointer (some (at_ p j))) (hy : a.eval y = v) (hw : Region.wanted o (yielded ops a.tmps) = true)
    (h : ∀ w', OwnV w' base t p c (vs.set j v) → w.grownBy w' (some (blk p)) → Below base w w' → K (a.put d undef) w') : OpW P ops Q o K a w := by
  subst hd
  obtain ⟨i, hi, hz, hs, hb⟩ := hty.hi
  have h1 := storedv hown j hj v
  have h2 := frozenv hown j hj
  have h3 := hown.rd.cells j hj
  rw [List.getElem?_eq_getElem hj] at h3
  refine ⟨?_⟩
  rw [if_pos hw]
  unfold Oper.wp execOp
  simp only [ho, hx, hy, Instr.storeAt, Instr.sureAddr]
  have e1 : (storeVar t (at_ p j) v).run P w = .ok () (w.setCell (at_ p j) v) := by
    have ha : (at_ p j).add 0 = at_ p j := by simp [Addr.add]
    simp [storeVar, sizeOf, typeInfo, hi, hs, hv, storeCells, ha]
    rw [run_store P w _ v _ h5, h3]
    simp [h2]
  simp [e1, Oper.upon]
  have hlt := hown.rd.lt (by omega)
  exact (h _ h1.1 h1.2.1 (below_of_grown h1.2.1 (Nat.le_of_lt (Nat.lt_of_le_of_lt h1.2.2 hlt)) (fun k hk => by cases hk; exact h1.2.2)))

theorem opw_mk (d : Option Tmp) (hd : o.dst = d) (x y : Operand) (t : TypeId) (ho : o.op = .makeSlice t x y) {e : TypeId} {z : Value} {bytes : Nat} (hty : SlTyV P t e z bytes) (kl kc : IntKind) (n : Nat)
    (hx : a.eval x = .int kl (n : Int)) (hy : a.eval y = .int kc (n : Int)) (hb : n ≤ 4000000000) (hw : Region.wanted o (yielded ops a.tmps) = true)
    (h : ∀ p' c' w', OwnV w' w.heap.size e p' c' (List.replicate n z) → Below w.heap.size w w' → K (a.put d (.slice p' n c')) w') : OpW P ops Q o K a w := by
  subst hd
  obtain ⟨i, hi, hz, hs, hbt⟩ := hty.hi
  obtain ⟨w', hr, h1, h2⟩ := run_make_full (P := P) w w.heap.size t e i z 1 hty.ht hi hz hs kl kc n (by rw [hbt]; have := Nat.mul_le_mul hty.le hb; omega) (by simp only [maxLen]; omega) (Nat.le_refl _)
  refine ⟨?_⟩
  rw [if_pos hw]
  unfold Oper.wp execOp
  simp only [ho, hx, hy]
  simp only [Sem.run_bind, hr, Result.andThen_ok, Sem.run_pure]
  refine (h _ _ w' ?_ (below_of_grown h2 (Nat.le_refl _) (fun k hk => by cases hk)))
  unfold OwnV
  rw [List.length_replicate]
  have : (madeCells (Value.cells z) (n * 1)).toList = List.replicate n z := by
    rw [Nat.mul_one, hty.hz]; exact toList_madeCells_one _ _
  rw [← this]
  exact h1

end walk
end Go.Slip

namespace Go.Slip
open Go.RowKit

structure Wr (w : World) (base : Nat) (k : IntKind) (p : Option Addr) (xs : List Nat) : Prop where
  rd : Rd w k p xs
  fr : ∀ j, j < xs.length → w.frozen? (at_ p j) = false
  from_ : 0 < xs.length → base ≤ blk p

theorem Own.wr {w : World} {base : Nat} {k : IntKind} {e : TypeId} {p : Option Addr} {c : Nat} {xs : List Nat} (h : Own w base k e p c xs) : Wr w base k p xs :=
  ⟨h.rd, fun j hj => frozen_own h j hj, fun h0 => (h.blk_lt (h.rd.solid h0).1).1⟩
theorem Wr.mono {w : World} {base b' : Nat} {k : IntKind} {p : Option Addr} {xs : List Nat} (h : Wr w base k p xs) (hb : b' ≤ base) : Wr w b' k p xs := ⟨h.rd, h.fr, fun h0 => Nat.le_trans hb (h.from_ h0)⟩
theorem Wr.same {w w' : World} {base : Nat} {k : IntKind} {p : Option Addr} {xs : List Nat} (h : Wr w base k p xs) (hb : 0 < xs.length → w'.heap[blk p]? = w.heap[blk p]?) : Wr w' base k p xs :=
  ⟨h.rd.same hb, fun j hj => by rw [World.frozen?_of_block (w := w) (a := at_ p j) (hb (by omega))]; exact h.fr j hj, h.from_⟩
theorem Wr.past {w w' : World} {base : Nat} {k : IntKind} {p : Option Addr} {xs : List Nat} (h : Wr w base k p xs) (hb : Below w.heap.size w w') : Wr w' base k p xs :=
  h.same fun h0 => hb.block _ (h.rd.lt h0)
theorem Wr.drew {w : World} {base : Nat} {k : IntKind} {p : Option Addr} {xs : List Nat} (h : Wr w base k p xs) : Wr w.drew base k p xs := h.same fun _ => rfl
theorem at_inj {p : Option Addr} {i j : Nat} (h : i ≠ j) : at_ p i ≠ at_ p j := by
  unfold at_
  intro e
  simp only [Addr.mk.injEq, true_and, and_true] at e
  omega
theorem Wr.set {w : World} {base : Nat} {k : IntKind} {p : Option Addr} {xs : List Nat} (h : Wr w base k p xs) (j : Nat) (hj : j < xs.length) (n : Nat) :
    Wr (w.setCell (at_ p j) (.int k (n : Int))) base k p (xs.set j n) ∧ w.grownBy (w.setCell (at_ p j) (.int k (n : Int))) (some (blk p)) ∧ base ≤ blk p := by
  refine ⟨⟨⟨by rw [List.length_set]; exact h.rd.solid, fun i hi => ?_⟩, fun i hi => ?_, fun _ => h.from_ (by omega)⟩, ?_, h.from_ (by omega)⟩
  · rw [List.length_set] at hi
    by_cases e : j = i
    · subst e
      rw [World.cell?_setCell_same (h := h.rd.cells j hj)]
      unfold dg
      rw [List.getElem?_set_self hj]
      rfl
    · rw [World.cell?_setCell_other (h := at_inj e), h.rd.cells i hi]
      unfold dg
      rw [List.getElem?_set_ne e]
  · rw [List.length_set] at hi
    rw [World.frozen?_setCell]
    exact h.fr i hi
  · refine ⟨rfl, rfl, rfl, by simp [World.setCell], fun b _ hne => ?_⟩
    show (w.heap.modify _ _)[b]? = _
    rw [Array.getElem?_modify, if_neg (fun e => hne (by rw [← e]; rfl))]

theorem wr_bytesWorld (w : World) (e : TypeId) (s : ByteArray) : Wr (Lib.bytesWorld w e s) w.heap.size .u8 (some ⟨w.heap.size, 0, none⟩) (bytesOf s) := by
  refine ⟨rd_bytesWorld w e s, fun j hj => ?_, fun _ => Nat.le_refl _⟩
  have hj2 : j < s.size := by rw [← bytesOf_length]; exact hj
  unfold World.frozen? at_
  simp only [Option.getD_some, Nat.zero_add]
  rw [Lib.bytesWorld_at_new]
  have : s.size ≤ (Lib.bytesCells w e s).size := by
    unfold Lib.bytesCells
    rw [Array.size_append, Array.size_map]
    exact Nat.le_add_right _ _
  simp only [Bool.and_eq_false_iff, decide_eq_false_iff_not]
  left
  omega

section walk
variable {P : Program} {ops : Array Oper} {rest : List Oper} {o : Oper} {a : Act} {K : Act → World → Prop} {Q : Exit → Act → World → Prop} {w : World}

theorem opw_bytes (d : Option Tmp) (hd : o.dst = d) (x : Operand) (src dst : TypeId) (ho : o.op = .convert src dst x) {e : TypeId} (hs : P.underlying src = some .string) (hdt : P.underlying dst = some (.slice e)) (he : P.underlying e = some (.int .u8))
    (s : ByteArray) (hx : a.eval x = .string s) (hw : Region.wanted o (yielded ops a.tmps) = true)
    (h : ∀ p' c' w', Wr w' w.heap.size .u8 p' (bytesOf s) → Below w.heap.size w w' → K (a.put d (.slice p' s.size c')) w') : OpW P ops Q o K a w := by
  subst hd
  refine ⟨?_⟩
  rw [if_pos hw]
  unfold Oper.wp execOp
  simp only [ho, hx]
  have hr := Lib.run_convert_string_bytes (P := P) w src dst e s hs hdt he
  simp [hr, Oper.upon]
  exact h _ _ _ (wr_bytesWorld w e s) (below_bytesWorld (Nat.le_refl _) e s)

end walk
end Go.Slip

namespace Go.Slip
open Go.RowKit

section
variable {P : Program} {ops : Array Oper} {Q : Exit → Act → World → Prop} {a : Act} {w : World} {rest : List Oper} {o : Oper}

theorem sputn {x y : Operand} {t ts : TypeId} {k : IntKind} {bytes : Nat} (hty : SlTyV P ts t (.int k 0) bytes)
    (base : Nat) (p : Option Addr) (c : Nat) (xs : List Nat) (hown : Own w base k t p c xs) (j : Nat) (hj : j < xs.length) (n : Nat)
    (h : ∀ w', Own w' base k t p c (xs.set j n) → Below base w w' → WpL P ops Q rest (a.put none undef) w')
    (hx : a.eval x = .pointer (some (at_ p j)) := by kernel_rfl) (hy : a.eval y = .int k (n : Int) := by kernel_rfl)
    (ho : o.op = .store t x y := by rfl) (hd : o.dst = none := by kernel_rfl) (hw : Region.wanted o (yielded ops a.tmps) = true := by kernel_rfl) : WpL P ops Q (o :: rest) a w :=
  wpList_of (opw_put none hd x y t ho hty base p c _ hown.v j (by rw [List.length_map]; exact hj) (.int k (n : Int)) rfl rfl hx hy hw fun w' h1 _ h2 => h w' (own_of_v (by rw [List.map_set]; exact h1)) h2)

theorem sby (d : Nat) {x : Operand} {src dst : TypeId} {e : TypeId} (hs : P.underlying src = some .string) (hdt : P.underlying dst = some (.slice e)) (he : P.underlying e = some (.int .u8)) (s : ByteArray)
    (h : ∀ p' c' w', Wr w' w.heap.size .u8 p' (bytesOf s) → Below w.heap.size w w' → WpL P ops Q rest (a.put (some d) (.slice p' s.size c')) w')
    (hx : a.eval x = .string s := by kernel_rfl)
    (ho : o.op = .convert src dst x := by rfl) (hd : o.dst = some d := by kernel_rfl) (hw : Region.wanted o (yielded ops a.tmps) = true := by kernel_rfl) : WpL P ops Q (o :: rest) a w :=
  wpList_of (opw_bytes (some d) hd x src dst ho hs hdt he s hx hw h)
end

section
variable {P : Program} {a : Act} {w : World} {dst : Option Tmp} {t2 : TypeId} {pos : String} {af : Array Edge} {g : Option (Nat × Bool)} {x y : Operand}

theorem exec_str {src dt e : TypeId} (hs : P.underlying src = some (.slice e)) (he : P.underlying e = some (.int .u8)) (hd : P.underlying dt = some .string) {p : Option Addr} {n c : Nat} {xs : List Nat} (hr : Rd w .u8 p xs) (hn : n = xs.length)
    (hx : a.eval x = .slice p n c) : (execOp a.eval ⟨dst, .convert src dt x, t2, pos, af, g⟩).run P w = .ok (.value (.string (strOf xs))) w := by
  unfold execOp
  simp only [hx]
  simp [run_convert_str (P := P) w src dt e hs he hd p n c xs hr hn]

theorem run_size1v {P : Program} {t e : TypeId} {z : Value} {bytes : Nat} (hty : SlTyV P t e z bytes) (w : World) : (sizeOf (P.elem t)).run P w = .ok 1 w := by
  obtain ⟨i, hi, -, hs, -⟩ := hty.hi
  rw [elem_of hty.ht]
  simp [sizeOf, typeInfo, hi, hs]
theorem ht_elemv {P : Program} {t e : TypeId} {z : Value} {bytes : Nat} (hty : SlTyV P t e z bytes) : P.underlying t = some (.slice (P.elem t)) := by
  rw [elem_of hty.ht]; exact hty.ht

theorem exec_ixv {t : TypeId} {e : TypeId} {z : Value} {bytes : Nat} (hty : SlTyV P t e z bytes) {p : Option Addr} {n c m : Nat}
    (hp : Solid p n) (hx : a.eval x = .slice p n c) (hy : a.eval y = .int .i64 ((m : Nat) : Int)) (hm : m < n) : (execOp a.eval ⟨dst, .indexAddr t x y, t2, pos, af, g⟩).run P w = .ok (.value (.pointer (some (at_ p m)))) w := by
  unfold execOp
  simp only [hx, hy, Sem.run_bind, run_indexAt_solid w t p n c .i64 m (ht_elemv hty) hp, if_pos (show (0 : Int) ≤ (m : Int) ∧ (m : Int) < (n : Int) by omega), run_size1v hty, Result.andThen_ok, Sem.run_pure, Int.toNat_natCast, Nat.mul_one]

variable {k : IntKind} {X Y : Int} {xT yT : TypeId}
theorem exec_and (m : Int) (hx : a.eval x = .int k X) (hy : a.eval y = .int k Y) (hm : bits .and k X Y = m) : (execOp a.eval ⟨dst, .binOp .and xT x y yT, t2, pos, af, g⟩).run P w = .ok (.value (.int k m)) w := by
  unfold execOp
  simp only [hx, hy]
  subst hm
  simp [binOp, eqGuard, intBits_and]
theorem exec_or (m : Int) (hx : a.eval x = .int k X) (hy : a.eval y = .int k Y) (hm : bits .or k X Y = m) : (execOp a.eval ⟨dst, .binOp .or xT x y yT, t2, pos, af, g⟩).run P w = .ok (.value (.int k m)) w := by
  unfold execOp
  simp only [hx, hy]
  subst hm
  simp [binOp, eqGuard, intBits_or]
end

theorem Bx.e9 {w : World} {b : Nat} {v0 v1 v2 v3 v4 v5 v6 v7 v8 : Value} (h : Bx w b #[v0, v1, v2, v3, v4, v5, v6, v7, v8]) : w.cell? ⟨b, 0, none⟩ = some v0 ∧ w.cell? ⟨b, 1, none⟩ = some v1 ∧ w.cell? ⟨b, 2, none⟩ = some v2 ∧ w.cell? ⟨b, 3, none⟩ = some v3 ∧ w.cell? ⟨b, 4, none⟩ = some v4 ∧ w.cell? ⟨b, 5, none⟩ = some v5 ∧ w.cell? ⟨b, 6, none⟩ = some v6 ∧ w.cell? ⟨b, 7, none⟩ = some v7 ∧ w.cell? ⟨b, 8, none⟩ = some v8 := ⟨h.c 0 rfl, h.c 1 rfl, h.c 2 rfl, h.c 3 rfl, h.c 4 rfl, h.c 5 rfl, h.c 6 rfl, h.c 7 rfl, h.c 8 rfl⟩
theorem Bx.e10 {w : World} {b : Nat} {v0 v1 v2 v3 v4 v5 v6 v7 v8 v9 : Value} (h : Bx w b #[v0, v1, v2, v3, v4, v5, v6, v7, v8, v9]) : w.cell? ⟨b, 0, none⟩ = some v0 ∧ w.cell? ⟨b, 1, none⟩ = some v1 ∧ w.cell? ⟨b, 2, none⟩ = some v2 ∧ w.cell? ⟨b, 3, none⟩ = some v3 ∧ w.cell? ⟨b, 4, none⟩ = some v4 ∧ w.cell? ⟨b, 5, none⟩ = some v5 ∧ w.cell? ⟨b, 6, none⟩ = some v6 ∧ w.cell? ⟨b, 7, none⟩ = some v7 ∧ w.cell? ⟨b, 8, none⟩ = some v8 ∧ w.cell? ⟨b, 9, none⟩ = some v9 := ⟨h.c 0 rfl, h.c 1 rfl, h.c 2 rfl, h.c 3 rfl, h.c 4 rfl, h.c 5 rfl, h.c 6 rfl, h.c 7 rfl, h.c 8 rfl, h.c 9 rfl⟩
theorem Bx.e13 {w : World} {b : Nat} {v0 v1 v2 v3 v4 v5 v6 v7 v8 v9 v10 v11 v12 : Value} (h : Bx w b #[v0, v1, v2, v3, v4, v5, v6, v7, v8, v9, v10, v11, v12]) : w.cell? ⟨b, 0, none⟩ = some v0 ∧ w.cell? ⟨b, 1, none⟩ = some v1 ∧ w.cell? ⟨b, 2, none⟩ = some v2 ∧ w.cell? ⟨b, 3, none⟩ = some v3 ∧ w.cell? ⟨b, 4, none⟩ = some v4 ∧ w.cell? ⟨b, 5, none⟩ = some v5 ∧ w.cell? ⟨b, 6, none⟩ = some v6 ∧ w.cell? ⟨b, 7, none⟩ = some v7 ∧ w.cell? ⟨b, 8, none⟩ = some v8 ∧ w.cell? ⟨b, 9, none⟩ = some v9 ∧ w.cell? ⟨b, 10, none⟩ = some v10 ∧ w.cell? ⟨b, 11, none⟩ = some v11 ∧ w.cell? ⟨b, 12, none⟩ = some v12 := ⟨h.c 0 rfl, h.c 1 rfl, h.c 2 rfl, h.c 3 rfl, h.c 4 rfl, h.c 5 rfl, h.c 6 rfl, h.c 7 rfl, h.c 8 rfl, h.c 9 rfl, h.c 10 rfl, h.c 11 rfl, h.c 12 rfl⟩
theorem Bx.e14 {w : World} {b : Nat} {v0 v1 v2 v3 v4 v5 v6 v7 v8 v9 v10 v11 v12 v13 : Value} (h : Bx w b #[v0, v1, v2, v3, v4, v5, v6, v7, v8, v9, v10, v11, v12, v13]) : w.cell? ⟨b, 0, none⟩ = some v0 ∧ w.cell? ⟨b, 1, none⟩ = some v1 ∧ w.cell? ⟨b, 2, none⟩ = some v2 ∧ w.cell? ⟨b, 3, none⟩ = some v3 ∧ w.cell? ⟨b, 4, none⟩ = some v4 ∧ w.cell? ⟨b, 5, none⟩ = some v5 ∧ w.cell? ⟨b, 6, none⟩ = some v6 ∧ w.cell? ⟨b, 7, none⟩ = some v7 ∧ w.cell? ⟨b, 8, none⟩ = some v8 ∧ w.cell? ⟨b, 9, none⟩ = some v9 ∧ w.cell? ⟨b, 10, none⟩ = some v10 ∧ w.cell? ⟨b, 11, none⟩ = some v11 ∧ w.cell? ⟨b, 12, none⟩ = some v12 ∧ w.cell? ⟨b, 13, none⟩ = some v13 := ⟨h.c 0 rfl, h.c 1 rfl, h.c 2 rfl, h.c 3 rfl, h.c 4 rfl, h.c 5 rfl, h.c 6 rfl, h.c 7 rfl, h.c 8 rfl, h.c 9 rfl, h.c 10 rfl, h.c 11 rfl, h.c 12 rfl, h.c 13 rfl⟩

theorem i64_and_low {x E : Nat} (hx : x < 2 ^ 63) (hE : E ≤ 60) : bits .and .i64 (x : Int) ((2 ^ E - 1 : Nat) : Int) = ((x % 2 ^ E : Nat) : Int) := by
  have p1 : 2 ^ E ≤ 2 ^ 60 := Nat.pow_le_pow_right (by omega) hE
  have h2 : (BitVec.ofInt 64 (x : Int)).toNat = x := by rw [BitVec.ofInt_natCast, BitVec.toNat_ofNat, Nat.mod_eq_of_lt (by omega)]
  have h1 : (BitVec.ofInt 64 ((2 ^ E - 1 : Nat) : Int)).toNat = 2 ^ E - 1 := by rw [BitVec.ofInt_natCast, BitVec.toNat_ofNat, Nat.mod_eq_of_lt (by omega)]
  have key : (BitVec.ofInt 64 (x : Int) &&& BitVec.ofInt 64 ((2 ^ E - 1 : Nat) : Int)).toNat = x % 2 ^ E := by
    rw [BitVec.toNat_and, h2, h1, Nat.and_two_pow_sub_one_eq_mod]
  show IntKind.i64.wrap ((BitVec.ofInt 64 (x : Int) &&& BitVec.ofInt 64 ((2 ^ E - 1 : Nat) : Int)).toNat : Nat) = _
  rw [key]
  have : x % 2 ^ E < 2 ^ E := Nat.mod_lt _ (Nat.pow_pos (by omega))
  exact IntWalk.i64_in _ (by omega)
theorem i64_or_top {x E : Nat} (hx : x < 2 ^ E) (hE : E ≤ 60) : bits .or .i64 (x : Int) ((2 ^ E : Nat) : Int) = ((2 ^ E + x : Nat) : Int) := by
  have p1 : 2 ^ E ≤ 2 ^ 60 := Nat.pow_le_pow_right (by omega) hE
  have h2 : (BitVec.ofInt 64 (x : Int)).toNat = x := by rw [BitVec.ofInt_natCast, BitVec.toNat_ofNat, Nat.mod_eq_of_lt (by omega)]
  have h1 : (BitVec.ofInt 64 ((2 ^ E : Nat) : Int)).toNat = 2 ^ E := by rw [BitVec.ofInt_natCast, BitVec.toNat_ofNat, Nat.mod_eq_of_lt (by omega)]
  have key : (BitVec.ofInt 64 (x : Int) ||| BitVec.ofInt 64 ((2 ^ E : Nat) : Int)).toNat = 2 ^ E + x := by
    rw [BitVec.toNat_or, h2, h1, Nat.or_comm]
    have := Nat.two_pow_add_eq_or_of_lt hx 1
    rw [Nat.mul_one] at this
    exact this.symm
  show IntKind.i64.wrap ((BitVec.ofInt 64 (x : Int) ||| BitVec.ofInt 64 ((2 ^ E : Nat) : Int)).toNat : Nat) = _
  rw [key]
  exact IntWalk.i64_in _ (by omega)
theorem shl_one {E : Nat} (hE : E ≤ 60) : IntKind.i64.wrap (1 * 2 ^ (min ((E : Nat) : Int).toNat IntKind.i64.bits)) = ((2 ^ E : Nat) : Int) := by
  have p1 : 2 ^ E ≤ 2 ^ 60 := Nat.pow_le_pow_right (by omega) hE
  rw [Int.toNat_natCast, show IntKind.i64.bits = 64 from rfl, Nat.min_eq_left (by omega), Int.one_mul, show ((2 : Int) ^ E) = ((2 ^ E : Nat) : Int) by norm_cast]
  generalize 2 ^ E = T at *
  exact IntWalk.i64_in _ (by omega)
theorem shr_nat {x E : Nat} (hE : E ≤ 60) : (x : Int).fdiv (2 ^ (min ((E : Nat) : Int).toNat IntKind.i64.bits)) = ((x / 2 ^ E : Nat) : Int) := by
  rw [Int.toNat_natCast, show IntKind.i64.bits = 64 from rfl, Nat.min_eq_left (by omega), show ((2 : Int) ^ E) = ((2 ^ E : Nat) : Int) by norm_cast, Int.fdiv_eq_ediv_of_nonneg _ (Int.natCast_nonneg _)]
  rfl
end Go.Slip

namespace Go.Proofs.YtcipdimogodndaaDoor
open Go.RowKit Go.Slip

set_option maxHeartbeats 1000000 in
set_option maxRecDepth 100000 in
theorem small_any (p : Option Addr) (n c : Nat) (a d : Nat) (w : World) (hp : Rd w .u32 p (dig B32 a)) (hn : n = (dig B32 a).length) (hl : (dig B32 a).length ≤ 1000000000) (hd0 : 0 < d) (hd1 : d < 4294967296) :
    Calls Tryd.prog 139 #[.slice p n c, .int .u32 d] w fun e w' => ∃ p' c', e = .returned (.tuple #[.slice p' (dig B32 (a / d)).length c', .int .u32 (a % d : Nat)]) ∧
      Own w' w.heap.size .u32 91 p' c' (dig B32 (a / d)) ∧ Below w.heap.size w w' := by
  subst hn
  have HA := Lib.hid (val_dig B32_two a)
  have HXL := Lib.hid (dig_lt B32_two a)
  generalize dig B32 a = xs at hp hl HA HXL ⊢
  have hsx := hp.solid
  go_enter Tryd.func139, Tryd.ntmps139
  go_wp2_with (refine wpl_make rfl _ _ _ rfl tyNat .i64 .i64 xs.length _ _ rfl rfl ?_ ?_ ?_ ?_; omega; omega; omega; intro p1 c1 w1 ho1 hb1 hz1)
  go_loopw [7, 8] (fun rv iv wr => ∃ (k r : Nat) (L : List Nat), iv = .int .i64 ((k : Int) - 1) ∧ rv = .int .u64 r ∧ k ≤ xs.length ∧ r < d ∧ Hid (L.length = xs.length) ∧ Own wr w.heap.size .u32 91 p1 c1 L ∧ Below w.heap.size w wr ∧ Hid (SmallRel B32 L xs d k r))
    (fun _ iv _ => (intOf iv + 1).toNat)
  case atStart => exact ⟨xs.length, 0, _, rfl, rfl, Nat.le_refl _, hd0, List.length_replicate, ho1, hb1, (show SmallRel B32 _ xs d xs.length 0 from ⟨fun x hx => by rw [(List.mem_replicate.1 hx).2]; exact B32_pos, hd0, by simp⟩)⟩
  case round =>
    obtain ⟨k, r, L, rfl, rfl, hk, hrd, hL, hoL, hbL, HR⟩ := hrel
    have hpL := hp.past hbL
    have hsL := hoL.solid
    rw [hL.out] at hsL
    by_cases h0 : 0 < k
    · obtain ⟨k, rfl⟩ : ∃ j, k = j + 1 := ⟨k - 1, by omega⟩
      have hc1 := hpL.cells k (by omega)
      have hxd := getD_lt (B := 4294967296) (by omega) xs HXL.out k
      have hor := or32 r (dg xs k) (by omega) hxd
      obtain ⟨HS, HQ⟩ := HR.out.step (by omega) (by rw [hL.out]; omega) (by unfold B32; exact hxd)
      have HS := Lib.hid HS
      have ej : ((k + 1 : Nat) : Int) - 1 = k := by omega
      rw [ej]
      unfold B32 at HQ
      obtain ⟨t, ht⟩ : ∃ t, t = r * 4294967296 + dg xs k := ⟨_, rfl⟩
      have et : (r : Int) * 4294967296 + (dg xs k : Nat) = (t : Nat) := by omega
      have htb : t < 18446744073709551616 := by omega
      rw [et] at hor
      rw [← ht] at HQ
      have HT := Lib.hid ht
      have hq0 : (0 : Int) ≤ (t : Int) / (d : Int) := Int.ediv_nonneg (by omega) (by omega)
      have hq1 : (t : Int) / (d : Int) < 4294967296 := by have : ((t / d : Nat) : Int) = (t : Int) / (d : Int) := rfl; omega
      have hd2 : (1 : Int) ≤ (d : Int) := by omega
      have k0 : (0 : Int) ≤ (k : Int) := by omega
      have k1 : (k : Int) < (xs.length : Int) := by omega
      clear ht et hc1
      have hc1 := hpL.cells k (by omega)
      go_wp2_with fail
      clear hc1 hor ej
      have e1 : IntKind.u64.wrap (d : Int) = (d : Int) := IntWalk.u64_in _ (by omega)
      have e2 : ¬ d = 0 := by omega
      have e3 : IntKind.u64.wrap ((t : Int) / (d : Int)) = (t : Int) / (d : Int) := IntWalk.u64_in _ (by omega)
      have e4 : IntKind.u32.wrap ((t : Int) / (d : Int)) = (t : Int) / (d : Int) := IntWalk.u32_in _ (by omega)
      have e5 : (t : Int).tmod (d : Int) = (t : Int) % (d : Int) := Int.tmod_eq_emod_of_nonneg (by omega)
      have hcL := hoL.rd.cells k (by rw [hL.out]; omega)
      have hfL := frozen_own hoL k (by rw [hL.out]; omega)
      go_region
      obtain ⟨ho3, hg3, hb3⟩ := stored_own hoL k (by rw [hL.out]; omega) (t / d)
      clear e1 e2 e3 e4 e5 hcL hfL
      have hb3 := hbL.trans (below_of_grown hg3 hbL.size (fun j hj => by cases hj; exact hb3))
      have ho3 := ho3.drew
      have hb3 := hb3.drew
      have eq : ((t / d : Nat) : Int) = (t : Int) / (d : Int) := rfl
      rw [eq] at ho3 hb3 hg3
      generalize (wr.setCell (at_ p1 k) (.int .u32 ((t : Int) / (d : Int)))).drew = w3 at ho3 hb3 ⊢
      clear eq hg3
      go_wp2
      go_roundw
      case rel =>
        have e6 : r * B32 + dg xs k = t := by rw [HT.out]; rfl
        rw [e6] at HS
        exact ⟨k, t % d, _, rfl, rfl, by omega, Nat.mod_lt _ hd0, (by show (List.set _ _ _).length = _; rw [List.length_set]; exact hL.out), ho3, hb3, HS⟩
      case measure => first | (simp [intOf]; done) | (simp [intOf]; omega)
    · obtain rfl : k = 0 := by omega
      obtain ⟨hv, hm⟩ := HR.out.done HA.out
      have HM := Lib.hid hm
      have HV := Lib.hid hv
      clear hv hm
      go_wp2_with (go_at_call 125; refine (norm_any _ _ _ L _ hoL.rd hL.out.symm hoL.le_cap HR.out.1 (by rw [hL.out]; omega)).mono ?_; rintro e w3 ⟨rfl, rfl⟩)
      go_ret2
      have ht := take_dig_len B32_two L HR.out.1
      have ho2 := hoL.take (dig B32 (val B32 L)).length
      rw [ht, HV.out] at ho2
      refine ⟨p1, c1, ?_, ho2, hbL⟩
      rw [HV.out, ← HM.out]
      rfl

end Go.Proofs.YtcipdimogodndaaDoor

namespace Go.Slip
def WRel (L xs : List Nat) (i : Nat) : Prop := L.length = xs.length ∧ i % 2 = 0 ∧ i ≤ xs.length ∧ ∀ t, t < xs.length → dg L t = if t < i then dg xs (plc 1 xs.length t) else dg xs t
theorem WRel.start (xs : List Nat) : WRel xs xs 0 := ⟨rfl, rfl, by omega, fun t _ => by simp⟩
theorem WRel.step {L xs : List Nat} {i : Nat} (h : WRel L xs i) (hi : i + 1 < xs.length) : WRel ((L.set i (dg L (i + 1))).set (i + 1) (dg L i)) xs (i + 2) := by
  obtain ⟨h1, h2, h3, h4⟩ := h
  refine ⟨by simp [h1], by omega, by omega, fun t ht => ?_⟩
  have e1 := h4 (i + 1) hi
  have e2 := h4 i (by omega)
  rw [if_neg (by omega)] at e1 e2
  by_cases a : t = i + 1
  · subst a
    rw [dg_set_same (by simp; omega), if_pos (by omega), e2]
    unfold plc
    rw [if_neg (by omega), if_pos rfl]
    congr 1
    omega
  · rw [dg_set_ne (by omega)]
    by_cases b : t = i
    · subst b
      rw [dg_set_same (by omega), if_pos (by omega), e1]
      unfold plc
      rw [if_neg (by omega), if_pos rfl]
      congr 1
      omega
    · rw [dg_set_ne (by omega), h4 t ht]
      by_cases c : t < i
      · rw [if_pos c, if_pos (by omega)]
      · rw [if_neg c, if_neg (by omega)]
theorem WRel.done {L xs : List Nat} {i : Nat} (h : WRel L xs i) (hi : ¬ i + 1 < xs.length) (h2 : xs.length % 2 = 0) : L = ordL 1 xs := by
  obtain ⟨k1, k2, k3, k4⟩ := h
  refine ext_dg (by rw [ordL_len, k1]) fun t ht => ?_
  rw [k1] at ht
  rw [dg_ordL ht, k4 t ht, if_pos (by omega)]
end Go.Slip
namespace Go.Proofs.YtcipdimogodndaaDoor
open Go.RowKit Go.Slip

def ordF (f : Fm) : Nat := if f.ext then 113 else if f.fam = 3 then 115 else 112

set_option maxHeartbeats 1000000 in
set_option maxRecDepth 100000 in
theorem reverseW_any (base : Nat) (p : Option Addr) (n c : Nat) (xs : List Nat) (w : World) (ho : Wr w base .u8 p xs) (hn : n = xs.length) (hl : xs.length ≤ 4000000000) (h0 : 0 < xs.length) :
    Calls Tryd.prog 113 #[.slice p n c] w fun e w' => e = .returned (.tuple #[]) ∧ Wr w' base .u8 p xs.reverse ∧ Below base w w' := by
  subst hn
  have HR0 := Lib.hid (RevRel.start xs h0)
  have hsx := ho.rd.solid
  go_enter Tryd.func113, Tryd.ntmps113
  go_wp2
  go_loopw [2, 3] (fun iv jv wr => ∃ (i j : Nat) (L : List Nat), iv = .int .i64 i ∧ jv = .int .i64 j ∧ i ≤ xs.length ∧ j < xs.length ∧ Wr wr base .u8 p L ∧ Below base w wr ∧ Hid (RevRel L xs i j))
    (fun iv _ _ => xs.length - (intOf iv).toNat)
  case atStart => exact ⟨0, xs.length - 1, xs, rfl, by go_num, Nat.zero_le _, by omega, ho, Below.refl _ _, HR0⟩
  case round =>
    obtain ⟨i, j, L, rfl, rfl, hi, hj, hoL, hbL, HR⟩ := hrel
    by_cases hij : i < j
    · have hLl := Lib.hid HR.out.1
      have ci := hoL.rd.cells i (by rw [hLl.out]; omega)
      have cj := hoL.rd.cells j (by rw [hLl.out]; omega)
      have fi := hoL.fr i (by rw [hLl.out]; omega)
      have s1 := hoL.set i (by rw [hLl.out]; omega) (dg L j)
      have fj := s1.1.fr j (by rw [List.length_set, hLl.out]; omega)
      have cj2 := s1.1.rd.cells j (by rw [List.length_set, hLl.out]; omega)
      rw [dg_set_ne (by omega)] at cj2
      have s2 := s1.1.set j (by rw [List.length_set, hLl.out]; omega) (dg L i)
      have HS := Lib.hid (HR.out.step hij)
      have i1 : (i : Int) < (xs.length : Int) := by omega
      have j1 : (j : Int) < (xs.length : Int) := by omega
      have i0 : (0 : Int) ≤ (i : Int) := by omega
      have j0 : (0 : Int) ≤ (j : Int) := by omega
      have hb3 : Below base w ((wr.setCell (at_ p i) (.int .u8 (dg L j : Nat))).setCell (at_ p j) (.int .u8 (dg L i : Nat))) :=
        (hbL.setCell (by exact s1.2.2) _).setCell (by exact s1.2.2) _
      have S2 := Lib.hid s2
      have HB := Lib.hid hb3
      clear s1 s2 hb3
      go_wp2_with fail
      go_region
      have ho3 := S2.out.1.drew
      have hb3 := HB.out.drew
      clear ci cj fi fj cj2 S2 HB
      generalize ((wr.setCell (at_ p i) (.int .u8 (dg L j : Nat))).setCell (at_ p j) (.int .u8 (dg L i : Nat))).drew = w3 at ho3 hb3 ⊢
      go_wp2
      go_roundw
      case rel => exact ⟨i + 1, j - 1, _, by go_num, by go_num, by omega, by omega, ho3, hb3, HS⟩
      case measure => first | (simp [intOf]; done) | (simp [intOf]; omega)
    · have HD := Lib.hid (HR.out.done hij)
      go_wp2
      go_end0
      exact ⟨rfl, HD.out ▸ hoL, hbL⟩

set_option maxHeartbeats 1000000 in
set_option maxRecDepth 100000 in
theorem words_any (base : Nat) (p : Option Addr) (n c : Nat) (xs : List Nat) (w : World) (ho : Wr w base .u8 p xs) (hn : n = xs.length) (hl : xs.length ≤ 4000000000) (h2 : xs.length % 2 = 0) :
    Calls Tryd.prog 115 #[.slice p n c] w fun e w' => e = .returned (.tuple #[]) ∧ Wr w' base .u8 p (ordL 1 xs) ∧ Below base w w' := by
  subst hn
  have HR0 := Lib.hid (WRel.start xs)
  have HE := Lib.hid h2
  clear h2
  have hsx := ho.rd.solid
  go_enter Tryd.func115, Tryd.ntmps115
  go_wp2
  go_loopw [2] (fun iv wr => ∃ (i : Nat) (L : List Nat), iv = .int .i64 i ∧ i ≤ xs.length ∧ Wr wr base .u8 p L ∧ Below base w wr ∧ Hid (WRel L xs i))
    (fun iv _ => xs.length - (intOf iv).toNat)
  case atStart => exact ⟨0, xs, rfl, Nat.zero_le _, ho, Below.refl _ _, HR0⟩
  case round =>
    obtain ⟨i, L, rfl, hi, hoL, hbL, HR⟩ := hrel
    by_cases hij : i + 1 < xs.length
    · have hLl := Lib.hid HR.out.1
      have ci := hoL.rd.cells i (by rw [hLl.out]; omega)
      have cj := hoL.rd.cells (i + 1) (by rw [hLl.out]; omega)
      have fi := hoL.fr i (by rw [hLl.out]; omega)
      have s1 := hoL.set i (by rw [hLl.out]; omega) (dg L (i + 1))
      have fj := s1.1.fr (i + 1) (by rw [List.length_set, hLl.out]; omega)
      have cj2 := s1.1.rd.cells (i + 1) (by rw [List.length_set, hLl.out]; omega)
      rw [dg_set_ne (by omega)] at cj2
      have s2 := s1.1.set (i + 1) (by rw [List.length_set, hLl.out]; omega) (dg L i)
      have HS := Lib.hid (HR.out.step hij)
      have i1 : (i : Int) < (xs.length : Int) := by omega
      have j1 : ((i + 1 : Nat) : Int) < (xs.length : Int) := by omega
      have i0 : (0 : Int) ≤ (i : Int) := by omega
      have j0 : (0 : Int) ≤ ((i + 1 : Nat) : Int) := by omega
      have e1 : IntKind.i64.wrap ((i : Int) + 1) = ((i + 1 : Nat) : Int) := (IntWalk.i64_in _ (by omega)).trans (by omega)
      have e2 : IntKind.i64.wrap ((i : Int) + 2) = ((i + 2 : Nat) : Int) := (IntWalk.i64_in _ (by omega)).trans (by omega)
      have hb3 : Below base w ((wr.setCell (at_ p i) (.int .u8 (dg L (i + 1) : Nat))).setCell (at_ p (i + 1)) (.int .u8 (dg L i : Nat))) :=
        (hbL.setCell (by exact s1.2.2) _).setCell (by exact s1.2.2) _
      have S2 := Lib.hid s2
      have HB := Lib.hid hb3
      clear s1 s2 hb3
      generalize hj : i + 1 = j at *
      go_wp2_with fail
      go_region
      have ho3 := S2.out.1.drew
      have hb3 := HB.out.drew
      clear ci cj fi fj cj2 S2 HB
      generalize ((wr.setCell (at_ p i) (.int .u8 (dg L j : Nat))).setCell (at_ p j) (.int .u8 (dg L i : Nat))).drew = w3 at ho3 hb3 ⊢
      go_wp2
      go_roundw
      case rel => exact ⟨i + 2, _, by go_num, by omega, ho3, hb3, HS⟩
      case measure => first | (simp [intOf]; done) | (simp [intOf]; omega)
    · have HD := Lib.hid (HR.out.done hij HE.out)
      go_wp2
      go_end0
      exact ⟨rfl, HD.out ▸ hoL, hbL⟩

theorem asis_any (p : Option Addr) (n c : Nat) (w : World) :
    Calls Tryd.prog 112 #[.slice p n c] w fun e w' => e = .returned (.tuple #[]) ∧ Below w.heap.size w w' := by
  refine calls_of_wp Tryd.func112 rfl ?_
  refine sx_frame (a' := ⟨((.slice p n c) :: undef :: []).toArray, []⟩) (by kernel_rfl) ?_
  refine wp_skip ?_
  refine yend (.tuple #[]) (res0 Tryd.results112 ) ?_
  exact ⟨rfl, (Below.refl _ _)⟩

theorem exec_ord3 (k : Nat) (hk : k = 113 ∨ k = 115 ∨ k = 112) {a : Act} {w : World} {x y : Operand} {v : Value} {dst : Option Tmp} {t2 tt : TypeId} {pos : String} {af : Array Edge} {g : Option (Nat × Bool)} (hx : a.eval x = .func (.func k) #[] #[]) (hy : a.eval y = v) :
    (execOp a.eval ⟨dst, .call { callee := .value x, args := #[y], argTypes := #[tt] }, t2, pos, af, g⟩).run Tryd.prog w = .ok (.enter k #[v]) w := by
  unfold execOp
  simp only [resolve, hx, hy, List.map_toArray, List.map_cons, List.map_nil]
  rcases hk with hk | hk | hk
  · subst hk
    kernel_rfl
  · subst hk
    kernel_rfl
  · subst hk
    kernel_rfl
theorem ordF_is (f : Fm) : ordF f = 113 ∨ ordF f = 115 ∨ ordF f = 112 := by
  unfold ordF
  split
  · simp
  · split <;> simp

theorem ord_any (f : Fm) (base : Nat) (p : Option Addr) (n c : Nat) (xs : List Nat) (w : World) (G : GoodF f) (ho : Wr w base .u8 p xs) (hn : n = xs.length) (hs : xs.length = f.size) (hb : base ≤ w.heap.size) :
    Calls Tryd.prog (ordF f) #[.slice p n c] w fun e w' => e = .returned (.tuple #[]) ∧ Wr w' base .u8 p (ordL f.ord xs) ∧ Below base w w' := by
  have hz := G.sz
  unfold ordF Fm.ord
  cases f.ext with
  | true =>
    rw [if_pos rfl, if_pos rfl, ordL_two]
    exact reverseW_any base p n c xs w ho hn (by omega) (by omega)
  | false =>
    rw [if_neg (show ¬ (false = true) by simp), if_neg (show ¬ (false = true) by simp)]
    by_cases h : f.fam = 3
    · rw [if_pos h, if_pos h]
      exact words_any base p n c xs w ho hn (by omega) (by omega)
    · rw [if_neg h, if_neg h, ordL_zero]
      exact (asis_any p n c w).mono fun e w' ⟨h1, h2⟩ => ⟨h1, ho.past h2, h2.mono hb⟩

theorem binary_any (d l g : Int) (gr : Bool) (w : World) : Calls Tryd.prog 111 #[.int .i64 d, .int .i64 l, .int .i64 g, .bool gr] w
    fun e w' => e = .returned (.agg #[.int .i64 2, .int .i64 d, .int .i64 l, .int .i64 g, .bool gr]) ∧ Below w.heap.size w w' := by
  have hT29 : SxAgg Tryd.prog 29 5 := sxAgg_of (by kernel_rfl) (by kernel_rfl)
  refine calls_of_wp Tryd.func111 rfl ?_
  refine sx_frame (a' := ⟨((.int .i64 d) :: (.int .i64 l) :: (.int .i64 g) :: (.bool gr) :: us 10 []).toArray, []⟩) (by kernel_rfl) ?_
  refine ye ?_
  refine yw 0 rfl 8 #[.int .i64 0, .int .i64 0, .int .i64 0, .int .i64 0, .bool false] 29 (fun V1 hbV1 hzV1 b8 => ?_)
  refine yzt 0 ?_
  refine ye ?_
  have boV2 := b8
  refine ysw 5 rfl b8 hT29 #[.int .i64 2, .int .i64 d, .int .i64 l, .int .i64 g, .bool gr] ?_
  clear b8
  intro V2 hOV2 b8
  have hzV2 := hOV2.size
  refine yzt 0 ?_
  refine wp_ret ?_
  repeat (first | with_reducible refine sx_thenret ?_ | with_reducible refine sx_blockret ?_)
  refine yret (.agg #[.int .i64 2, .int .i64 d, .int .i64 l, .int .i64 g, .bool gr]) (res1 Tryd.results111 (rvr b8 hT29)) ?_
  exact ⟨rfl, (hbV1.trans (hOV2.below (by omega)))⟩
theorem hexes_any (d l g : Int) (w : World) : Calls Tryd.prog 114 #[.int .i64 d, .int .i64 l, .int .i64 g] w
    fun e w' => e = .returned (.agg #[.int .i64 16, .int .i64 d, .int .i64 l, .int .i64 g, .bool false]) ∧ Below w.heap.size w w' := by
  have hT29 : SxAgg Tryd.prog 29 5 := sxAgg_of (by kernel_rfl) (by kernel_rfl)
  refine calls_of_wp Tryd.func114 rfl ?_
  refine sx_frame (a' := ⟨((.int .i64 d) :: (.int .i64 l) :: (.int .i64 g) :: us 8 []).toArray, []⟩) (by kernel_rfl) ?_
  refine ye ?_
  refine yw 0 rfl 6 #[.int .i64 0, .int .i64 0, .int .i64 0, .int .i64 0, .bool false] 29 (fun V1 hbV1 hzV1 b6 => ?_)
  refine yzt 0 ?_
  refine ye ?_
  have boV2 := b6
  refine ysw 4 rfl b6 hT29 #[.int .i64 16, .int .i64 d, .int .i64 l, .int .i64 g, .bool false] ?_
  clear b6
  intro V2 hOV2 b6
  have hzV2 := hOV2.size
  refine yzt 0 ?_
  refine wp_ret ?_
  repeat (first | with_reducible refine sx_thenret ?_ | with_reducible refine sx_blockret ?_)
  refine yret (.agg #[.int .i64 16, .int .i64 d, .int .i64 l, .int .i64 g, .bool false]) (res1 Tryd.results114 (rvr b6 hT29)) ?_
  exact ⟨rfl, (hbV1.trans (hOV2.below (by omega)))⟩

def noForm : Value := .agg #[.int .i64 0, .int .i64 0, .int .i64 0, .int .i64 0, .int .i64 0, .int .i64 0, .int .i64 0, .bool false, .bool false, .bool false, .bool false, .nilFunc]

set_option maxRecDepth 100000 in
theorem forms_any (n : Int) (hn : IsFm n) (w : World) : Calls Tryd.prog 69 #[.int .i64 n] w
    fun e w' => e = .returned (.tuple #[.agg #[.int .i64 (((fmt n).size : Nat) : Int), .int .i64 (((fmt n).E : Nat) : Int), .int .i64 (((fmt n).F : Nat) : Int), .int .i64 (fmt n).g.rad, .int .i64 (fmt n).g.digs, .int .i64 (fmt n).g.lo, .int .i64 (fmt n).g.hi, .bool (fmt n).g.grad, .bool (fmt n).hid, .bool (fmt n).inf, .bool (fmt n).res, .func (.func (ordF (fmt n))) #[] #[]], .int .i64 0]) ∧ Below w.heap.size w w' := by
  rcases fm_cases hn with rfl | rfl | rfl | rfl | rfl | rfl | rfl | rfl
  · skip
    have hT116 : SxAgg Tryd.prog 116 12 := sxAgg_of (by kernel_rfl) (by kernel_rfl)
    refine calls_of_wp Tryd.func69 rfl ?_
    refine sx_frame (a' := ⟨((.int .i64 1) :: us 37 []).toArray, []⟩) (by kernel_rfl) ?_
    refine ye ?_
    refine yw 0 rfl 2 #[.int .i64 0, .int .i64 0, .int .i64 0, .int .i64 0, .int .i64 0, .int .i64 0, .int .i64 0, .bool false, .bool false, .bool false, .bool false, .nilFunc] 116 (fun V1 hbV1 hzV1 b2 => ?_)
    refine yzt 1 ?_
    refine wp_seq ?_
    refine yq ?_
    refine wp_block ?_
    refine yq ?_
    refine yT ?_
    refine ye ?_
    refine yc 0 rfl 7 (binary_any 24 (-149) 104 true V1) (fun Gx hGx => ?_)
    rintro eV2 V2 ⟨rfl, hbV2⟩
    have hzV2 := hbV2.size
    refine ⟨_, rfl, hGx _ _ ?_⟩
    clear hGx Gx
    replace b2 := (b2.past hbV2)
    have boV3 := b2
    refine ysw 1 rfl b2 hT116 #[.int .i64 4, .int .i64 8, .int .i64 23, .int .i64 2, .int .i64 24, .int .i64 (-149), .int .i64 104, .bool true, .bool true, .bool true, .bool false, .func (.func 112) #[] #[]] ?_
    clear b2
    intro V3 hOV3 b2
    have hzV3 := hOV3.size
    refine yzt 1 ?_
    refine wp_ret ?_
    repeat (first | with_reducible refine sx_thenret ?_ | with_reducible refine sx_blockret ?_)
    refine yret (.tuple #[.agg #[.int .i64 4, .int .i64 8, .int .i64 23, .int .i64 2, .int .i64 24, .int .i64 (-149), .int .i64 104, .bool true, .bool true, .bool true, .bool false, .func (.func 112) #[] #[]], .int .i64 0]) (res2 Tryd.results69 (rvr b2 hT116) rvt) ?_
    exact ⟨by kernel_rfl, ((bthru hbV1 hbV2).trans (hOV3.below (by omega)))⟩
  · skip
    have hT116 : SxAgg Tryd.prog 116 12 := sxAgg_of (by kernel_rfl) (by kernel_rfl)
    refine calls_of_wp Tryd.func69 rfl ?_
    refine sx_frame (a' := ⟨((.int .i64 2) :: us 37 []).toArray, []⟩) (by kernel_rfl) ?_
    refine ye ?_
    refine yw 0 rfl 2 #[.int .i64 0, .int .i64 0, .int .i64 0, .int .i64 0, .int .i64 0, .int .i64 0, .int .i64 0, .bool false, .bool false, .bool false, .bool false, .nilFunc] 116 (fun V1 hbV1 hzV1 b2 => ?_)
    refine yzt 1 ?_
    refine wp_seq ?_
    refine yq ?_
    refine wp_block ?_
    refine yq ?_
    refine yF ?_
    refine yq ?_
    refine yT ?_
    refine ye ?_
    refine yc 0 rfl 11 (binary_any 53 (-1074) 971 true V1) (fun Gx hGx => ?_)
    rintro eV2 V2 ⟨rfl, hbV2⟩
    have hzV2 := hbV2.size
    refine ⟨_, rfl, hGx _ _ ?_⟩
    clear hGx Gx
    replace b2 := (b2.past hbV2)
    have boV3 := b2
    refine ysw 1 rfl b2 hT116 #[.int .i64 8, .int .i64 11, .int .i64 52, .int .i64 2, .int .i64 53, .int .i64 (-1074), .int .i64 971, .bool true, .bool true, .bool true, .bool false, .func (.func 112) #[] #[]] ?_
    clear b2
    intro V3 hOV3 b2
    have hzV3 := hOV3.size
    refine yzt 1 ?_
    refine wp_ret ?_
    repeat (first | with_reducible refine sx_thenret ?_ | with_reducible refine sx_blockret ?_)
    refine yret (.tuple #[.agg #[.int .i64 8, .int .i64 11, .int .i64 52, .int .i64 2, .int .i64 53, .int .i64 (-1074), .int .i64 971, .bool true, .bool true, .bool true, .bool false, .func (.func 112) #[] #[]], .int .i64 0]) (res2 Tryd.results69 (rvr b2 hT116) rvt) ?_
    exact ⟨by kernel_rfl, ((bthru hbV1 hbV2).trans (hOV3.below (by omega)))⟩
  · skip
    have hT116 : SxAgg Tryd.prog 116 12 := sxAgg_of (by kernel_rfl) (by kernel_rfl)
    refine calls_of_wp Tryd.func69 rfl ?_
    refine sx_frame (a' := ⟨((.int .i64 3) :: us 37 []).toArray, []⟩) (by kernel_rfl) ?_
    refine ye ?_
    refine yw 0 rfl 2 #[.int .i64 0, .int .i64 0, .int .i64 0, .int .i64 0, .int .i64 0, .int .i64 0, .int .i64 0, .bool false, .bool false, .bool false, .bool false, .nilFunc] 116 (fun V1 hbV1 hzV1 b2 => ?_)
    refine yzt 1 ?_
    refine wp_seq ?_
    refine yq ?_
    refine wp_block ?_
    refine yq ?_
    refine yF ?_
    refine yq ?_
    refine yF ?_
    refine yq ?_
    refine yT ?_
    refine ye ?_
    refine yc 0 rfl 15 (binary_any 64 (-16445) 16320 true V1) (fun Gx hGx => ?_)
    rintro eV2 V2 ⟨rfl, hbV2⟩
    have hzV2 := hbV2.size
    refine ⟨_, rfl, hGx _ _ ?_⟩
    clear hGx Gx
    replace b2 := (b2.past hbV2)
    have boV3 := b2
    refine ysw 1 rfl b2 hT116 #[.int .i64 10, .int .i64 15, .int .i64 64, .int .i64 2, .int .i64 64, .int .i64 (-16445), .int .i64 16320, .bool true, .bool false, .bool true, .bool false, .func (.func 113) #[] #[]] ?_
    clear b2
    intro V3 hOV3 b2
    have hzV3 := hOV3.size
    refine yzt 1 ?_
    refine wp_ret ?_
    repeat (first | with_reducible refine sx_thenret ?_ | with_reducible refine sx_blockret ?_)
    refine yret (.tuple #[.agg #[.int .i64 10, .int .i64 15, .int .i64 64, .int .i64 2, .int .i64 64, .int .i64 (-16445), .int .i64 16320, .bool true, .bool false, .bool true, .bool false, .func (.func 113) #[] #[]], .int .i64 0]) (res2 Tryd.results69 (rvr b2 hT116) rvt) ?_
    exact ⟨by kernel_rfl, ((bthru hbV1 hbV2).trans (hOV3.below (by omega)))⟩
  · skip
    have hT116 : SxAgg Tryd.prog 116 12 := sxAgg_of (by kernel_rfl) (by kernel_rfl)
    refine calls_of_wp Tryd.func69 rfl ?_
    refine sx_frame (a' := ⟨((.int .i64 4) :: us 37 []).toArray, []⟩) (by kernel_rfl) ?_
    refine ye ?_
    refine yw 0 rfl 2 #[.int .i64 0, .int .i64 0, .int .i64 0, .int .i64 0, .int .i64 0, .int .i64 0, .int .i64 0, .bool false, .bool false, .bool false, .bool false, .nilFunc] 116 (fun V1 hbV1 hzV1 b2 => ?_)
    refine yzt 1 ?_
    refine wp_seq ?_
    refine yq ?_
    refine wp_block ?_
    refine yq ?_
    refine yF ?_
    refine yq ?_
    refine yF ?_
    refine yq ?_
    refine yF ?_
    refine yq ?_
    refine yT ?_
    refine ye ?_
    refine yc 0 rfl 19 (hexes_any 6 (-70) 57 V1) (fun Gx hGx => ?_)
    rintro eV2 V2 ⟨rfl, hbV2⟩
    have hzV2 := hbV2.size
    refine ⟨_, rfl, hGx _ _ ?_⟩
    clear hGx Gx
    replace b2 := (b2.past hbV2)
    have boV3 := b2
    refine ysw 1 rfl b2 hT116 #[.int .i64 4, .int .i64 7, .int .i64 24, .int .i64 16, .int .i64 6, .int .i64 (-70), .int .i64 57, .bool false, .bool false, .bool false, .bool false, .func (.func 112) #[] #[]] ?_
    clear b2
    intro V3 hOV3 b2
    have hzV3 := hOV3.size
    refine yzt 1 ?_
    refine wp_ret ?_
    repeat (first | with_reducible refine sx_thenret ?_ | with_reducible refine sx_blockret ?_)
    refine yret (.tuple #[.agg #[.int .i64 4, .int .i64 7, .int .i64 24, .int .i64 16, .int .i64 6, .int .i64 (-70), .int .i64 57, .bool false, .bool false, .bool false, .bool false, .func (.func 112) #[] #[]], .int .i64 0]) (res2 Tryd.results69 (rvr b2 hT116) rvt) ?_
    exact ⟨by kernel_rfl, ((bthru hbV1 hbV2).trans (hOV3.below (by omega)))⟩
  · skip
    have hT116 : SxAgg Tryd.prog 116 12 := sxAgg_of (by kernel_rfl) (by kernel_rfl)
    refine calls_of_wp Tryd.func69 rfl ?_
    refine sx_frame (a' := ⟨((.int .i64 5) :: us 37 []).toArray, []⟩) (by kernel_rfl) ?_
    refine ye ?_
    refine yw 0 rfl 2 #[.int .i64 0, .int .i64 0, .int .i64 0, .int .i64 0, .int .i64 0, .int .i64 0, .int .i64 0, .bool false, .bool false, .bool false, .bool false, .nilFunc] 116 (fun V1 hbV1 hzV1 b2 => ?_)
    refine yzt 1 ?_
    refine wp_seq ?_
    refine yq ?_
    refine wp_block ?_
    refine yq ?_
    refine yF ?_
    refine yq ?_
    refine yF ?_
    refine yq ?_
    refine yF ?_
    refine yq ?_
    refine yF ?_
    refine yq ?_
    refine yT ?_
    refine ye ?_
    refine yc 0 rfl 23 (hexes_any 14 (-78) 49 V1) (fun Gx hGx => ?_)
    rintro eV2 V2 ⟨rfl, hbV2⟩
    have hzV2 := hbV2.size
    refine ⟨_, rfl, hGx _ _ ?_⟩
    clear hGx Gx
    replace b2 := (b2.past hbV2)
    have boV3 := b2
    refine ysw 1 rfl b2 hT116 #[.int .i64 8, .int .i64 7, .int .i64 56, .int .i64 16, .int .i64 14, .int .i64 (-78), .int .i64 49, .bool false, .bool false, .bool false, .bool false, .func (.func 112) #[] #[]] ?_
    clear b2
    intro V3 hOV3 b2
    have hzV3 := hOV3.size
    refine yzt 1 ?_
    refine wp_ret ?_
    repeat (first | with_reducible refine sx_thenret ?_ | with_reducible refine sx_blockret ?_)
    refine yret (.tuple #[.agg #[.int .i64 8, .int .i64 7, .int .i64 56, .int .i64 16, .int .i64 14, .int .i64 (-78), .int .i64 49, .bool false, .bool false, .bool false, .bool false, .func (.func 112) #[] #[]], .int .i64 0]) (res2 Tryd.results69 (rvr b2 hT116) rvt) ?_
    exact ⟨by kernel_rfl, ((bthru hbV1 hbV2).trans (hOV3.below (by omega)))⟩
  · skip
    have hT116 : SxAgg Tryd.prog 116 12 := sxAgg_of (by kernel_rfl) (by kernel_rfl)
    refine calls_of_wp Tryd.func69 rfl ?_
    refine sx_frame (a' := ⟨((.int .i64 6) :: us 37 []).toArray, []⟩) (by kernel_rfl) ?_
    refine ye ?_
    refine yw 0 rfl 2 #[.int .i64 0, .int .i64 0, .int .i64 0, .int .i64 0, .int .i64 0, .int .i64 0, .int .i64 0, .bool false, .bool false, .bool false, .bool false, .nilFunc] 116 (fun V1 hbV1 hzV1 b2 => ?_)
    refine yzt 1 ?_
    refine wp_seq ?_
    refine yq ?_
    refine wp_block ?_
    refine yq ?_
    refine yF ?_
    refine yq ?_
    refine yF ?_
    refine yq ?_
    refine yF ?_
    refine yq ?_
    refine yF ?_
    refine yq ?_
    refine yF ?_
    refine yq ?_
    refine yT ?_
    refine ye ?_
    refine yc 0 rfl 27 (binary_any 24 (-151) 103 false V1) (fun Gx hGx => ?_)
    rintro eV2 V2 ⟨rfl, hbV2⟩
    have hzV2 := hbV2.size
    refine ⟨_, rfl, hGx _ _ ?_⟩
    clear hGx Gx
    replace b2 := (b2.past hbV2)
    have boV3 := b2
    refine ysw 1 rfl b2 hT116 #[.int .i64 4, .int .i64 8, .int .i64 23, .int .i64 2, .int .i64 24, .int .i64 (-151), .int .i64 103, .bool false, .bool true, .bool false, .bool true, .func (.func 115) #[] #[]] ?_
    clear b2
    intro V3 hOV3 b2
    have hzV3 := hOV3.size
    refine yzt 1 ?_
    refine wp_ret ?_
    repeat (first | with_reducible refine sx_thenret ?_ | with_reducible refine sx_blockret ?_)
    refine yret (.tuple #[.agg #[.int .i64 4, .int .i64 8, .int .i64 23, .int .i64 2, .int .i64 24, .int .i64 (-151), .int .i64 103, .bool false, .bool true, .bool false, .bool true, .func (.func 115) #[] #[]], .int .i64 0]) (res2 Tryd.results69 (rvr b2 hT116) rvt) ?_
    exact ⟨by kernel_rfl, ((bthru hbV1 hbV2).trans (hOV3.below (by omega)))⟩
  · skip
    have hT116 : SxAgg Tryd.prog 116 12 := sxAgg_of (by kernel_rfl) (by kernel_rfl)
    refine calls_of_wp Tryd.func69 rfl ?_
    refine sx_frame (a' := ⟨((.int .i64 7) :: us 37 []).toArray, []⟩) (by kernel_rfl) ?_
    refine ye ?_
    refine yw 0 rfl 2 #[.int .i64 0, .int .i64 0, .int .i64 0, .int .i64 0, .int .i64 0, .int .i64 0, .int .i64 0, .bool false, .bool false, .bool false, .bool false, .nilFunc] 116 (fun V1 hbV1 hzV1 b2 => ?_)
    refine yzt 1 ?_
    refine wp_seq ?_
    refine yq ?_
    refine wp_block ?_
    refine yq ?_
    refine yF ?_
    refine yq ?_
    refine yF ?_
    refine yq ?_
    refine yF ?_
    refine yq ?_
    refine yF ?_
    refine yq ?_
    refine yF ?_
    refine yq ?_
    refine yF ?_
    refine yq ?_
    refine yT ?_
    refine ye ?_
    refine yc 0 rfl 31 (binary_any 56 (-183) 71 false V1) (fun Gx hGx => ?_)
    rintro eV2 V2 ⟨rfl, hbV2⟩
    have hzV2 := hbV2.size
    refine ⟨_, rfl, hGx _ _ ?_⟩
    clear hGx Gx
    replace b2 := (b2.past hbV2)
    have boV3 := b2
    refine ysw 1 rfl b2 hT116 #[.int .i64 8, .int .i64 8, .int .i64 55, .int .i64 2, .int .i64 56, .int .i64 (-183), .int .i64 71, .bool false, .bool true, .bool false, .bool true, .func (.func 115) #[] #[]] ?_
    clear b2
    intro V3 hOV3 b2
    have hzV3 := hOV3.size
    refine yzt 1 ?_
    refine wp_ret ?_
    repeat (first | with_reducible refine sx_thenret ?_ | with_reducible refine sx_blockret ?_)
    refine yret (.tuple #[.agg #[.int .i64 8, .int .i64 8, .int .i64 55, .int .i64 2, .int .i64 56, .int .i64 (-183), .int .i64 71, .bool false, .bool true, .bool false, .bool true, .func (.func 115) #[] #[]], .int .i64 0]) (res2 Tryd.results69 (rvr b2 hT116) rvt) ?_
    exact ⟨by kernel_rfl, ((bthru hbV1 hbV2).trans (hOV3.below (by omega)))⟩
  · skip
    have hT116 : SxAgg Tryd.prog 116 12 := sxAgg_of (by kernel_rfl) (by kernel_rfl)
    refine calls_of_wp Tryd.func69 rfl ?_
    refine sx_frame (a' := ⟨((.int .i64 8) :: us 37 []).toArray, []⟩) (by kernel_rfl) ?_
    refine ye ?_
    refine yw 0 rfl 2 #[.int .i64 0, .int .i64 0, .int .i64 0, .int .i64 0, .int .i64 0, .int .i64 0, .int .i64 0, .bool false, .bool false, .bool false, .bool false, .nilFunc] 116 (fun V1 hbV1 hzV1 b2 => ?_)
    refine yzt 1 ?_
    refine wp_seq ?_
    refine yq ?_
    refine wp_block ?_
    refine yq ?_
    refine yF ?_
    refine yq ?_
    refine yF ?_
    refine yq ?_
    refine yF ?_
    refine yq ?_
    refine yF ?_
    refine yq ?_
    refine yF ?_
    refine yq ?_
    refine yF ?_
    refine yq ?_
    refine yF ?_
    refine yq ?_
    refine yT ?_
    refine ye ?_
    refine yc 0 rfl 35 (binary_any 53 (-1076) 970 false V1) (fun Gx hGx => ?_)
    rintro eV2 V2 ⟨rfl, hbV2⟩
    have hzV2 := hbV2.size
    refine ⟨_, rfl, hGx _ _ ?_⟩
    clear hGx Gx
    replace b2 := (b2.past hbV2)
    have boV3 := b2
    refine ysw 1 rfl b2 hT116 #[.int .i64 8, .int .i64 11, .int .i64 52, .int .i64 2, .int .i64 53, .int .i64 (-1076), .int .i64 970, .bool false, .bool true, .bool false, .bool true, .func (.func 115) #[] #[]] ?_
    clear b2
    intro V3 hOV3 b2
    have hzV3 := hOV3.size
    refine yzt 1 ?_
    refine wp_ret ?_
    repeat (first | with_reducible refine sx_thenret ?_ | with_reducible refine sx_blockret ?_)
    refine yret (.tuple #[.agg #[.int .i64 8, .int .i64 11, .int .i64 52, .int .i64 2, .int .i64 53, .int .i64 (-1076), .int .i64 970, .bool false, .bool true, .bool false, .bool true, .func (.func 115) #[] #[]], .int .i64 0]) (res2 Tryd.results69 (rvr b2 hT116) rvt) ?_
    exact ⟨by kernel_rfl, ((bthru hbV1 hbV2).trans (hOV3.below (by omega)))⟩
set_option maxRecDepth 100000 in
theorem forms_not (n : Int) (hn : ¬ IsFm n) (w : World) : Calls Tryd.prog 69 #[.int .i64 n] w
    fun e w' => e = .returned (.tuple #[noForm, .int .i64 6]) ∧ Below w.heap.size w w' := by
  unfold IsFm at hn
  have hT116 : SxAgg Tryd.prog 116 12 := sxAgg_of (by kernel_rfl) (by kernel_rfl)
  refine calls_of_wp Tryd.func69 rfl ?_
  refine sx_frame (a' := ⟨((.int .i64 n) :: us 37 []).toArray, []⟩) (by kernel_rfl) ?_
  refine ye ?_
  refine yw 0 rfl 2 #[.int .i64 0, .int .i64 0, .int .i64 0, .int .i64 0, .int .i64 0, .int .i64 0, .int .i64 0, .bool false, .bool false, .bool false, .bool false, .nilFunc] 116 (fun V1 hbV1 hzV1 b2 => ?_)
  refine yzt 1 ?_
  refine wp_seq ?_
  refine yq ?_
  refine wp_block ?_
  refine ye ?_
  refine yb 0 rfl 6 (n == 1) (false) (beq_eq_false_iff_ne.2 (by omega)) ?_
  refine yzt 1 ?_
  refine yF ?_
  refine ye ?_
  refine yb 0 rfl 10 (n == 2) (false) (beq_eq_false_iff_ne.2 (by omega)) ?_
  refine yzt 1 ?_
  refine yF ?_
  refine ye ?_
  refine yb 0 rfl 14 (n == 3) (false) (beq_eq_false_iff_ne.2 (by omega)) ?_
  refine yzt 1 ?_
  refine yF ?_
  refine ye ?_
  refine yb 0 rfl 18 (n == 4) (false) (beq_eq_false_iff_ne.2 (by omega)) ?_
  refine yzt 1 ?_
  refine yF ?_
  refine ye ?_
  refine yb 0 rfl 22 (n == 5) (false) (beq_eq_false_iff_ne.2 (by omega)) ?_
  refine yzt 1 ?_
  refine yF ?_
  refine ye ?_
  refine yb 0 rfl 26 (n == 6) (false) (beq_eq_false_iff_ne.2 (by omega)) ?_
  refine yzt 1 ?_
  refine yF ?_
  refine ye ?_
  refine yb 0 rfl 30 (n == 7) (false) (beq_eq_false_iff_ne.2 (by omega)) ?_
  refine yzt 1 ?_
  refine yF ?_
  refine ye ?_
  refine yb 0 rfl 34 (n == 8) (false) (beq_eq_false_iff_ne.2 (by omega)) ?_
  refine yzt 1 ?_
  refine yF ?_
  refine wp_skip ?_
  refine sx_inblock ?_
  refine sx_then ?_
  refine ye ?_
  have boV2 := b2
  refine ysw 1 rfl b2 hT116 #[.int .i64 0, .int .i64 0, .int .i64 0, .int .i64 0, .int .i64 0, .int .i64 0, .int .i64 0, .bool false, .bool false, .bool false, .bool false, .nilFunc] ?_
  clear b2
  intro V2 hOV2 b2
  have hzV2 := hOV2.size
  refine yzt 1 ?_
  refine wp_ret ?_
  repeat (first | with_reducible refine sx_thenret ?_ | with_reducible refine sx_blockret ?_)
  refine yret (.tuple #[.agg #[.int .i64 0, .int .i64 0, .int .i64 0, .int .i64 0, .int .i64 0, .int .i64 0, .int .i64 0, .bool false, .bool false, .bool false, .bool false, .nilFunc], .int .i64 6]) (res2 Tryd.results69 (rvr b2 hT116) rvt) ?_
  exact ⟨by kernel_rfl, (hbV1.trans (hOV2.below (by omega)))⟩

end Go.Proofs.YtcipdimogodndaaDoor

namespace Go.Proofs.YtcipdimogodndaaDoor
open Go.RowKit Go.Slip

def OfRel32 (O : List Nat) (u N : Nat) : Prop := O ++ dig B32 u = dig B32 N

theorem OfRel32.len {O : List Nat} {u N : Nat} (h : OfRel32 O u N) : O.length ≤ (dig B32 N).length := by
  have := congrArg List.length h
  simp at this; omega

theorem OfRel32.step {O : List Nat} {u N : Nat} (h : OfRel32 O u N) (h0 : 0 < u) : OfRel32 (O ++ [u % 4294967296]) (u / 4294967296) N := by
  unfold OfRel32 at *
  rw [dig_pos B32_two h0] at h
  rw [← h]
  simp [B32]

set_option maxHeartbeats 1000000 in
theorem of_any (N : Nat) (w : World) (hN : N < 9223372036854775808) : Calls Tryd.prog 96 #[.int .i64 N] w (Gives w .u32 91 (dig B32 N)) := by
  have hl : (dig B32 N).length ≤ 2 := (dig_len_le B32_two N 2).2 (by unfold B32; omega)
  go_enter Tryd.func96, Tryd.ntmps96
  go_wp2
  go_loopw [3, 4] (fun av uv wr => ∃ (u : Nat) (t : Option Addr) (e : Nat) (O : List Nat), uv = .int .u64 u ∧ av = .slice t O.length e ∧ u ≤ N ∧ Own wr w.heap.size .u32 91 t e O ∧ Below w.heap.size w wr ∧ Hid (OfRel32 O u N))
    (fun _ uv _ => (intOf uv).toNat)
  case atStart => exact ⟨N, none, 0, [], by go_num, rfl, Nat.le_refl _, Own.nil _ _ _ _, Below.refl _ _, (show OfRel32 [] N N from rfl)⟩
  case round =>
    obtain ⟨u, t, e, O, rfl, rfl, hu, hoO, hb, HR⟩ := hrel
    have hOl : O.length ≤ 2 := Nat.le_trans HR.out.len hl
    by_cases h0 : 0 < u
    · have HS := Lib.hid (HR.out.step h0)
      go_wp2_with (first
        | (refine wpl_build1 rfl _ _ rfl tyNat _ ?_ rfl ?_; omega; intro p2 w2 ho2 hb2 hz2 hp2)
        | (at_builtin; refine wpl_append rfl _ _ _ rfl tyNat _ _ _ _ _ (hoO.past hb2) rfl _ _ _ _ ho2.rd rfl rfl rfl ?_ ?_ ?_; (simp; omega); (have := hb2.size; have := hb.size; omega); intro p3 c3 w3 ho3 hg3 hb3 hn3))
      have e4 : ((u : Int) % 4294967296).toNat = u % 4294967296 := by omega
      rw [e4] at ho3
      have hb4 := hb.trans ((hb2.mono hb.size).trans hb3)
      go_roundw
      case rel => exact ⟨u / 4294967296, p3, c3, _, by go_num, by simp, by omega, ho3, hb4, HS⟩
      case measure => simp [intOf]; omega
    · obtain rfl : u = 0 := by omega
      go_wp2
      go_ret
      have := HR.out
      unfold OfRel32 at this
      rw [dig_zero, List.append_nil] at this
      rw [← this]
      exact ⟨t, e, rfl, hoO, hb⟩

end Go.Proofs.YtcipdimogodndaaDoor

namespace Go.Slip

/-! ### roots -/
def IsRoot (m R : Nat) : Prop := R * R ≤ m ∧ m < (R + 1) * (R + 1)

theorem IsRoot.half {m R : Nat} (h : IsRoot (m * 4) R) : IsRoot m (R / 2) := by
  obtain ⟨h1, h2⟩ := h
  have h3 : R = 2 * (R / 2) + R % 2 := by omega
  have h4 : R % 2 < 2 := Nat.mod_lt _ (by omega)
  generalize R / 2 = u at *
  generalize R % 2 = v at *
  subst h3
  constructor
  · have : (2 * u) * (2 * u) ≤ (2 * u + v) * (2 * u + v) := Nat.mul_le_mul (by omega) (by omega)
    have e : (2 * u) * (2 * u) = 4 * (u * u) := by grind
    omega
  · have : (2 * u + v + 1) * (2 * u + v + 1) ≤ (2 * (u + 1)) * (2 * (u + 1)) := Nat.mul_le_mul (by omega) (by omega)
    have e : (2 * (u + 1)) * (2 * (u + 1)) = 4 * ((u + 1) * (u + 1)) := by grind
    omega

theorem IsRoot.mono {m m' R R' : Nat} (h : IsRoot m R) (k : IsRoot m' R') (hm : m ≤ m') : R ≤ R' := by
  rcases Nat.lt_or_ge R' R with c | c
  · have := Nat.mul_le_mul c c
    have h1 := h.1; have h2 := k.2
    simp only [Nat.succ_eq_add_one] at this
    omega
  · exact c

end Go.Slip

namespace Go.Proofs.YtcipdimogodndaaDoor
open Go.RowKit Go.Slip

theorem Box3.put {w : World} {b : Nat} {v0 v1 v2 : Value} (h : Box3 w b v0 v1 v2) (u0 u1 u2 : Value) : Box3 (((w.setCell ⟨b, 0, none⟩ u0).setCell ⟨b, 1, none⟩ u1).setCell ⟨b, 2, none⟩ u2) b u0 u1 u2 := by
  have h1 : Box3 (w.setCell ⟨b, 0, none⟩ u0) b u0 v1 v2 :=
    ⟨World.cell?_setCell_same _ _ _ h.c0, (World.cell?_setCell_other _ _ _ _ (by simp)).trans h.c1, (World.cell?_setCell_other _ _ _ _ (by simp)).trans h.c2, by simpa using h.f0, by simpa using h.f1, by simpa using h.f2, by simpa using h.lt⟩
  have h2 : Box3 ((w.setCell ⟨b, 0, none⟩ u0).setCell ⟨b, 1, none⟩ u1) b u0 u1 v2 :=
    ⟨(World.cell?_setCell_other _ _ _ _ (by simp)).trans h1.c0, World.cell?_setCell_same _ _ _ h1.c1, (World.cell?_setCell_other _ _ _ _ (by simp)).trans h1.c2, by simpa using h.f0, by simpa using h.f1, by simpa using h.f2, by simpa using h.lt⟩
  exact ⟨(World.cell?_setCell_other _ _ _ _ (by simp)).trans h2.c0, (World.cell?_setCell_other _ _ _ _ (by simp)).trans h2.c1, World.cell?_setCell_same _ _ _ h2.c2, by simpa using h.f0, by simpa using h.f1, by simpa using h.f2, by simpa using h.lt⟩

end Go.Proofs.YtcipdimogodndaaDoor

namespace Go.Proofs.YtcipdimogodndaaDoor
open Go.RowKit Go.Slip

theorem _root_.Go.Slip.Bx.bb3 {w : World} {b : Nat} {v0 v1 v2 : Value} (h : Bx w b #[v0, v1, v2]) : Box3 w b v0 v1 v2 :=
  ⟨h.e3.1, h.e3.2.1, h.e3.2.2, h.f 0, h.f 1, h.f 2, h.lt⟩

set_option maxHeartbeats 1000000 in
theorem whole_any (p : Option Addr) (n c : Nat) (e : Int) (m : Nat) (w : World) (hp : Rd w .u32 p (dig B32 m)) (hn : n = (dig B32 m).length) (hc : n ≤ c) (hl : (dig B32 m).length ≤ 10000000)
    (he : -1000000000 ≤ e ∧ e ≤ 1000000000) (hT : TabW w) :
    Calls Tryd.prog 117 #[.slice p n c, .int .i64 e] w (GivesD w w.heap.size (bare ⟨false, m, e⟩)) := by
  subst hn
  go_enter Tryd.func117, Tryd.ntmps117
  go_wp2_with fail
  refine calls_lay1 (fun W1 hb1 hz1 R => ?_)
  replace hp := hp.past hb1
  replace hT := hT.past hb1
  have hs1 := hb1
  ((with_reducible refine (bareRaw_any false p _ c e m _ hp rfl hc hl he hT).mono ?_))
  generalize bare ⟨false, m, e⟩ = r at *
  rintro e2 w2 ⟨p2, c2, rfl, ho2, hb2⟩
  replace R := R.past hb2
  obtain ⟨R_0, R_1, R_2⟩ := R.e3
  have R_f0 := R.f 0
  have R_f1 := R.f 1
  have R_f2 := R.f 2
  go_wp2_with fail
  clear R_0 R_1 R_2 R_f0 R_f1 R_f2
  obtain ⟨R_0, R_1, R_2⟩ := R.e3
  refine bodyPost_ret (v := .agg #[.bool r.neg, .slice p2 (dig B32 r.m).length c2, .int .i64 r.e]) (by simp [results, Tryd.results117, go_sem, R_0, R_1, R_2]) rfl ?_
  have hz := hs1.size
  exact givesD_close (hs1.trans (hb2.mono hs1.size)) ho2 hz (Nat.le_refl _) (fun h => by have := (ho2.blk_lt h).1; omega)

set_option maxHeartbeats 1000000 in
theorem opp_any (g : Bool) (p : Option Addr) (n c : Nat) (e : Int) (m : Nat) (w : World) (hn : n = (dig B32 m).length) :
    Calls Tryd.prog 83 #[.agg #[.bool g, .slice p n c, .int .i64 e]] w fun en w' => en = .returned (.agg #[.bool (dMinus ⟨g, m, e⟩).neg, .slice p (dig B32 m).length c, .int .i64 e]) ∧ Below w.heap.size w w' := by
  subst hn
  have hz := dig_len_zero B32_two m
  have A := (bx_new w #[.bool g, .slice p (dig B32 m).length c, .int .i64 e] 97).bb3
  cases g
  · by_cases h0 : 0 < (dig B32 m).length
    · have t1 : decide ((0 : Int) < ((dig B32 m).length : Int)) = true := decide_eq_true (by omega)
      have hd : (dMinus ⟨false, m, e⟩).neg = true := by unfold dMinus; simp; (try omega)
      rw [hd]
      clear hd hz
      obtain ⟨A_0, A_1, A_2, A_f0, A_f1, A_f2, A_lt⟩ := A
      go_enter Tryd.func83, Tryd.ntmps83
      go_wp2_with fail
      refine bodyPost_ret (v := .agg #[.bool true, .slice p (dig B32 m).length c, .int .i64 e]) (by simp [results, Tryd.results83, go_sem]) rfl ?_
      exact ⟨rfl, below_lay2 _ _ _⟩
    · have t1 : decide ((0 : Int) < ((dig B32 m).length : Int)) = false := decide_eq_false (by omega)
      have hd : (dMinus ⟨false, m, e⟩).neg = false := by unfold dMinus; simp; (try omega)
      rw [hd]
      clear hd hz
      obtain ⟨A_0, A_1, A_2, A_f0, A_f1, A_f2, A_lt⟩ := A
      go_enter Tryd.func83, Tryd.ntmps83
      go_wp2_with fail
      refine bodyPost_ret (v := .agg #[.bool false, .slice p (dig B32 m).length c, .int .i64 e]) (by simp [results, Tryd.results83, go_sem]) rfl ?_
      exact ⟨rfl, below_lay2 _ _ _⟩
  · have t1 := True.intro
    have hd : (dMinus ⟨true, m, e⟩).neg = false := by unfold dMinus; simp; (try omega)
    rw [hd]
    clear hd hz
    obtain ⟨A_0, A_1, A_2, A_f0, A_f1, A_f2, A_lt⟩ := A
    go_enter Tryd.func83, Tryd.ntmps83
    go_wp2_with fail
    refine bodyPost_ret (v := .agg #[.bool false, .slice p (dig B32 m).length c, .int .i64 e]) (by simp [results, Tryd.results83, go_sem]) rfl ?_
    exact ⟨rfl, below_lay2 _ _ _⟩

end Go.Proofs.YtcipdimogodndaaDoor

namespace Go.Proofs.YtcipdimogodndaaDoor
open Go.RowKit Go.Slip

structure Rw where
  g : Bool
  p : Option Addr
  c : Nat
  m : Nat
  e : Int

def Rw.v (a : Rw) : Dv := ⟨a.g, a.m, a.e⟩

structure InW (w : World) (base : Nat) (a : Rw) : Prop where
  ow : Own w base .u32 91 a.p a.c (dig B32 a.m)
  len : (dig B32 a.m).length ≤ 1000000
  lo : -1000000 ≤ a.e
  hi : a.e ≤ 1000000

theorem InW.past {w w' : World} {base : Nat} {a : Rw} (h : InW w base a) (hb : Below w.heap.size w w') : InW w' base a := ⟨h.ow.past hb, h.len, h.lo, h.hi⟩
theorem InW.drew {w : World} {base : Nat} {a : Rw} (h : InW w base a) : InW w.drew base a := ⟨h.ow.drew, h.len, h.lo, h.hi⟩
theorem InW.mono {w : World} {base base' : Nat} {a : Rw} (h : InW w base a) (hb : base' ≤ base) : InW w base' a := ⟨h.ow.mono hb, h.len, h.lo, h.hi⟩
theorem InW.only {w w' : World} {base k : Nat} {a : Rw} (h : InW w base a) (hb : Only k w w') (hne : a.p.isSome = true → blk a.p ≠ k) : InW w' base a := ⟨h.ow.only hb hne, h.len, h.lo, h.hi⟩

structure El (w : World) (g o : Nat) (a : Rw) : Prop where
  c0 : w.cell? ⟨g, o, none⟩ = some (.bool a.g)
  c1 : w.cell? ⟨g, o + 1, none⟩ = some (.slice a.p (dig B32 a.m).length a.c)
  c2 : w.cell? ⟨g, o + 2, none⟩ = some (.int .i64 a.e)
  lt : g < w.heap.size

theorem El.e3 {w : World} {g o : Nat} {a : Rw} (h : El w g o a) : w.cell? ⟨g, o, none⟩ = some (.bool a.g) ∧ w.cell? ⟨g, o + 1, none⟩ = some (.slice a.p (dig B32 a.m).length a.c) ∧ w.cell? ⟨g, o + 2, none⟩ = some (.int .i64 a.e) := ⟨h.c0, h.c1, h.c2⟩
theorem El.below {w w' : World} {B g o : Nat} {a : Rw} (h : El w g o a) (hb : Below B w w') (hB : g < B) : El w' g o a :=
  ⟨by rw [Below.cell hb hB]; exact h.c0, by rw [Below.cell hb hB]; exact h.c1, by rw [Below.cell hb hB]; exact h.c2, Nat.lt_of_lt_of_le h.lt hb.size⟩
theorem El.past {w w' : World} {g o : Nat} {a : Rw} (h : El w g o a) (hb : Below w.heap.size w w') : El w' g o a := h.below hb h.lt
theorem El.drew {w : World} {g o : Nat} {a : Rw} (h : El w g o a) : El w.drew g o a := ⟨h.c0, h.c1, h.c2, h.lt⟩
theorem El.laid {w : World} {g o : Nat} {a : Rw} (h : El w g o a) (ob : Obj) : El (w.alloc ob) g o a := h.past (below_lay1 _ _)
theorem El.set {w : World} {g o k i : Nat} {a : Rw} {v : Value} (h : El w g o a) (hne : g < k) : El (w.setCell ⟨k, i, none⟩ v) g o a :=
  h.below ((Below.refl k w).setCell (p := ⟨k, i, none⟩) (Nat.le_refl _) v) hne

def Tb (w : World) (b : Nat) (t : TypeId) : Prop := ∃ vs fz, w.heap[b]? = some (.cells vs t fz)
theorem Tb.lt {w : World} {b : Nat} {t : TypeId} (h : Tb w b t) : b < w.heap.size := by
  obtain ⟨_, _, h⟩ := h
  exact (Array.getElem?_eq_some_iff.1 h).1
theorem Tb.past {w w' : World} {b : Nat} {t : TypeId} (h : Tb w b t) (hb : Below w.heap.size w w') : Tb w' b t := by
  have hl := h.lt
  obtain ⟨vs, fz, h⟩ := h
  exact ⟨vs, fz, (hb.block _ hl).trans h⟩
theorem Tb.drew {w : World} {b : Nat} {t : TypeId} (h : Tb w b t) : Tb w.drew b t := h
theorem Tb.only {w w' : World} {b k : Nat} {t : TypeId} (h : Tb w b t) (hb : Only k w w') (hne : b ≠ k) : Tb w' b t := by
  obtain ⟨vs, fz, h⟩ := h
  exact ⟨vs, fz, (hb.block _ hne).trans h⟩
theorem _root_.Go.Slip.Own.ne_tb {w : World} {base b : Nat} {k : IntKind} {e t : TypeId} {p : Option Addr} {c : Nat} {xs : List Nat} (h : Own w base k e p c xs) (hb : Tb w b t) (hne : e ≠ t) (hp : p.isSome = true) : blk p ≠ b := by
  obtain ⟨vs, fz, hb⟩ := hb
  rcases h.2 with ⟨h1, _⟩ | ⟨g, cap, cur, hv, _, hg, _⟩
  · simp only [Value.slice.injEq] at h1
    rw [h1.1] at hp; simp at hp
  · simp only [Value.slice.injEq] at hv
    obtain ⟨rfl, _, rfl⟩ := hv
    intro h2
    have h3 : g = b := h2
    rw [h3, hb] at hg
    simp only [Option.some.injEq, Obj.cells.injEq] at hg
    exact hne hg.2.1.symm
end Go.Proofs.YtcipdimogodndaaDoor

namespace Go.Proofs.YtcipdimogodndaaDoor
open Go.RowKit Go.Slip

theorem own_window {w : World} {base : Nat} {k : IntKind} {e : TypeId} {p : Option Addr} {c : Nat} {X : List Nat} (h : Own w base k e p c X) (j : Nat) (hj : j < X.length) :
    (∀ i, at_ (p.map (·.add j)) i = at_ p (j + i)) ∧ Solid (p.map (·.add j)) (X.length - j) := by
  have h1 := h.rd.solid (by omega)
  refine ⟨fun i => at_map p j i h1.1, ?_⟩
  have := (h.rd.drop j).solid
  rwa [List.length_drop] at this

def LessGives (w : World) (base : Nat) (e : TypeId) (p : Option Addr) (c : Nat) (X ys : List Nat) (j t : Nat) (en : Ending) (w' : World) : Prop :=
  ∃ L br, br ≤ 1 ∧ en = .returned (.bool (decide (0 < br))) ∧ Own w' base .u32 e p c L ∧ w.grownBy w' (some (blk p)) ∧ Below base w w' ∧
    WinOut L X j (ys.length + 1) ∧ val B32 L + B32 ^ j * (t * val B32 ys) = val B32 X + br * B32 ^ (j + (ys.length + 1))

set_option maxHeartbeats 1000000 in
set_option maxRecDepth 100000 in
theorem less_any (p pw q : Option Addr) (c cw n m d : Nat) (X ys : List Nat) (j t base : Nat) (w : World) (hX : Own w base .u32 91 p c X) (hq : Rd w .u32 q ys) (hpw : pw = p.map (·.add j)) (hm : m = ys.length) (hn : n = ys.length + 1)
    (hj : j + ys.length < X.length) (hxl : ∀ x ∈ X, x < B32) (hyl : ∀ x ∈ ys, x < B32) (ht : t < 4294967296) (hap : Apart p q ys) (hps : p.isSome = true) (hl : X.length ≤ 1000000000) :
    Calls Tryd.prog 141 #[.slice pw n cw, .slice q m d, .int .u32 t] w (LessGives w base 91 p c X ys j t) := by
  subst hm hn
  obtain ⟨hat, hsw⟩ := own_window hX j (by omega)
  have hsw := hsw.mono (show ys.length + 1 ≤ X.length - j by omega)
  rw [← hpw] at hat hsw
  clear hpw
  have hsy := hq.solid
  have HXL := Lib.hid hxl
  have HYL := Lib.hid hyl
  have HAT := Lib.hid hat
  have H0 := Lib.hid (LessW.start hxl ys j t)
  have HPS := Lib.hid hps
  clear hxl hyl hat hps
  go_enter Tryd.func141, Tryd.ntmps141
  go_wp2
  go_loopw [7, 8, 14] (fun cv bv iv wr => ∃ (i cr br : Nat) (L : List Nat), iv = .int .i64 i ∧ cv = .int .u64 cr ∧ bv = .int .u32 br ∧ i ≤ ys.length ∧ cr < 4294967296 ∧ br ≤ 1 ∧ Hid (L.length = X.length) ∧ Own wr base .u32 91 p c L ∧ w.grownBy wr (some (blk p)) ∧ Below base w wr ∧ Hid (LessW L X ys j t i cr br))
    (fun _ _ iv _ => ys.length - (intOf iv).toNat)
  case atStart => exact ⟨0, 0, 0, X, rfl, rfl, rfl, Nat.zero_le _, by omega, by omega, rfl, hX, World.grownBy.refl _ _, Below.refl _ _, H0⟩
  case round =>
    obtain ⟨i, cr, br, L, rfl, rfl, rfl, hi, hcr, hbr, hL, hoL, hgL, hbL, HR⟩ := hrel
    have hqL := hq.written hgL hap HPS.out
    have hLd := getD_lt (B := 4294967296) (by omega) L HR.out.1.1 (j + i)
    have hXd := getD_lt (B := 4294967296) (by omega) X HXL.out (j + i)
    have hc1 := hoL.rd.cells (j + i) (by rw [hL.out]; omega)
    rw [← HAT.out i] at hc1
    by_cases hlt : i < ys.length
    · have hc2 := hqL.cells i hlt
      have hyd := getD_lt (B := 4294967296) (by omega) ys HYL.out i
      obtain ⟨hpr, hpr0⟩ := prod_le hyd ht
      obtain ⟨P, hP⟩ : ∃ P, P = dg ys i * t + cr := ⟨_, rfl⟩
      have HS := Lib.hid (HR.out.step (by omega) hXd hbr P hP)
      have et : (dg ys i : Int) * (t : Nat) + (cr : Nat) = (P : Nat) := by rw [hP]; simp
      have hP0 : P < 18446744073709551616 := by omega
      obtain ⟨pl, hpl⟩ : ∃ pl, pl = P % 4294967296 := ⟨_, rfl⟩
      obtain ⟨ph, hph⟩ : ∃ ph, ph = P / 4294967296 := ⟨_, rfl⟩
      have em : (P : Int) % 4294967296 = (pl : Nat) := by omega
      have ed : (P : Int) / 4294967296 = (ph : Nat) := by omega
      have hpl0 : pl < 4294967296 := by omega
      have hph0 : ph < 4294967296 := by omega
      rw [← hpl, ← hph] at HS
      have HC := subB_le (dg L (j + i)) pl br
      clear hP hpl hph
      go_wp2_with (first
        | (go_at_call 126; refine (sub32_any _ _ br _ hLd hpl0 hbr).mono ?_; rintro e w2 ⟨rfl, rfl⟩)
        | (refine wpl_store rfl _ _ _ rfl 91 tyNat _ _ _ _ hoL (j + i) (by rw [hL.out]; omega) _ ?_ (by rw [← HAT.out i]; rfl) rfl ?_; omega; intro w3 ho3 hg3 hb3))
      rw [Int.toNat_natCast] at ho3
      go_roundw
      case rel => exact ⟨i + 1, ph, subB (dg L (j + i)) pl br, _, by go_num, rfl, rfl, hlt, hph0, HC, (by show (List.set _ _ _).length = _; rw [List.length_set]; exact hL.out), ho3, hgL.trans hg3, hbL.trans hb3, HS⟩
      case measure => simp [intOf]; omega
    · obtain rfl : i = ys.length := by omega
      obtain ⟨HW, HV⟩ := HR.out.last (by omega) hXd hbr hcr
      have HW := Lib.hid HW
      have HV := Lib.hid HV
      have HC := subB_le (dg L (j + ys.length)) cr br
      have ec : (cr : Int) % 4294967296 = (cr : Nat) := by omega
      go_wp2_with (first
        | (go_at_call 126; refine (sub32_any _ _ br _ hLd hcr hbr).mono ?_; rintro e w2 ⟨rfl, rfl⟩)
        | (refine wpl_store rfl _ _ _ rfl 91 tyNat _ _ _ _ hoL (j + ys.length) (by rw [hL.out]; omega) _ ?_ (by rw [← HAT.out ys.length]; rfl) rfl ?_; omega; intro w3 ho3 hg3 hb3))
      rw [Int.toNat_natCast] at ho3
      go_ret
      exact ⟨_, subB (dg L (j + ys.length)) cr br, HC, ret_bool (by simp), ho3, hgL.trans hg3, hbL.trans hb3, HW.out, HV.out⟩

def MoreGives (w : World) (base : Nat) (e : TypeId) (p : Option Addr) (c : Nat) (X ys : List Nat) (j : Nat) (en : Ending) (w' : World) : Prop :=
  ∃ L co, en = .returned (.tuple #[]) ∧ Own w' base .u32 e p c L ∧ w.grownBy w' (some (blk p)) ∧ Below base w w' ∧
    WinOut L X j (ys.length + 1) ∧ val B32 L + co * B32 ^ (j + (ys.length + 1)) = val B32 X + B32 ^ j * val B32 ys

set_option maxHeartbeats 1000000 in
set_option maxRecDepth 100000 in
theorem more_any (p pw q : Option Addr) (c cw n m d : Nat) (X ys : List Nat) (j base : Nat) (w : World) (hX : Own w base .u32 91 p c X) (hq : Rd w .u32 q ys) (hpw : pw = p.map (·.add j)) (hm : m = ys.length) (hn : n = ys.length + 1)
    (hj : j + ys.length < X.length) (hxl : ∀ x ∈ X, x < B32) (hyl : ∀ x ∈ ys, x < B32) (hap : Apart p q ys) (hps : p.isSome = true) (hl : X.length ≤ 1000000000) :
    Calls Tryd.prog 142 #[.slice pw n cw, .slice q m d] w (MoreGives w base 91 p c X ys j) := by
  subst hm hn
  obtain ⟨hat, hsw⟩ := own_window hX j (by omega)
  have hsw := hsw.mono (show ys.length + 1 ≤ X.length - j by omega)
  rw [← hpw] at hat hsw
  clear hpw
  have hsy := hq.solid
  have HXL := Lib.hid hxl
  have HYL := Lib.hid hyl
  have HAT := Lib.hid hat
  have H0 := Lib.hid (MoreW.start hxl ys j)
  have HPS := Lib.hid hps
  clear hxl hyl hat hps
  go_enter Tryd.func142, Tryd.ntmps142
  go_wp2
  go_loopw [4, 9] (fun cv iv wr => ∃ (i cr : Nat) (L : List Nat), iv = .int .i64 i ∧ cv = .int .u32 cr ∧ i ≤ ys.length ∧ cr ≤ 1 ∧ Hid (L.length = X.length) ∧ Own wr base .u32 91 p c L ∧ w.grownBy wr (some (blk p)) ∧ Below base w wr ∧ Hid (MoreW L X ys j i cr))
    (fun _ iv _ => ys.length - (intOf iv).toNat)
  case atStart => exact ⟨0, 0, X, rfl, rfl, Nat.zero_le _, by omega, rfl, hX, World.grownBy.refl _ _, Below.refl _ _, H0⟩
  case round =>
    obtain ⟨i, cr, L, rfl, rfl, hi, hcr, hL, hoL, hgL, hbL, HR⟩ := hrel
    have hqL := hq.written hgL hap HPS.out
    have hLd := getD_lt (B := 4294967296) (by omega) L HR.out.1.1 (j + i)
    have hc1 := hoL.rd.cells (j + i) (by rw [hL.out]; omega)
    rw [← HAT.out i] at hc1
    by_cases hlt : i < ys.length
    · have hc2 := hqL.cells i hlt
      have hyd := getD_lt (B := 4294967296) (by omega) ys HYL.out i
      have HS := Lib.hid (HR.out.step (by omega) _ rfl)
      have HC : (dg L (j + i) + dg ys i + cr) / 4294967296 ≤ 1 := by omega
      go_wp2_with (first
        | (go_at_call 120; refine (add32_any _ _ cr _ hLd hyd hcr).mono ?_; rintro e w2 ⟨rfl, rfl⟩)
        | (refine wpl_store rfl _ _ _ rfl 91 tyNat _ _ _ _ hoL (j + i) (by rw [hL.out]; omega) _ ?_ (by rw [← HAT.out i]; rfl) rfl ?_; omega; intro w3 ho3 hg3 hb3))
      have e3 : (((dg L (j + i) : Int) + dg ys i + cr) % 4294967296).toNat = (dg L (j + i) + dg ys i + cr) % 4294967296 := by omega
      rw [e3] at ho3
      go_roundw
      case rel => exact ⟨i + 1, (dg L (j + i) + dg ys i + cr) / 4294967296, _, by go_num, by go_num, hlt, HC, (by show (List.set _ _ _).length = _; rw [List.length_set]; exact hL.out), ho3, hgL.trans hg3, hbL.trans hb3, HS⟩
      case measure => simp [intOf]; omega
    · obtain rfl : i = ys.length := by omega
      obtain ⟨HW, HV⟩ := HR.out.last (by omega)
      have HW := Lib.hid HW
      have HV := Lib.hid HV
      go_wp2_with (refine wpl_store rfl _ _ _ rfl 91 tyNat _ _ _ _ hoL (j + ys.length) (by rw [hL.out]; omega) _ ?_ (by rw [← HAT.out ys.length]; rfl) rfl ?_; omega; intro w3 ho3 hg3 hb3)
      have e3 : (((dg L (j + ys.length) : Int) + cr) % 4294967296).toNat = (dg L (j + ys.length) + cr) % 4294967296 := by omega
      rw [e3] at ho3
      go_end0
      exact ⟨_, _, rfl, ho3, hgL.trans hg3, hbL.trans hb3, HW.out, HV.out⟩

end Go.Proofs.YtcipdimogodndaaDoor

namespace Go.Proofs.YtcipdimogodndaaDoor
open Go.RowKit Go.Slip

theorem lz32_any (x : Nat) (w : World) (h1 : x < 4294967296) :
    Calls Tryd.prog 140 #[.int .u32 x] w fun e w' => e = .returned (.int .i64 ((32 - blen x : Nat) : Int)) ∧ w = w' := by
  have hb : blen x ≤ 32 := (blen_le x 32).2 (by omega)
  go_enter Tryd.func140, Tryd.ntmps140
  go_wp2_with (go_at_call 128; refine (len32_any x _ h1).mono ?_; rintro e w1 ⟨rfl, rfl⟩)
  go_ret
  exact ⟨ret_int (by omega), rfl⟩

theorem _root_.Go.Slip.DivRel.even' {A mm j t r : Nat} {ys U Q L : List Nat} (h : DivRel A (val B32 ys) ys.length U Q (j + 1)) (k : Knuth ys U mm j) (ht : Trial ys U mm j t r) (hj : j < Q.length) (hB : t < 4294967296)
    (hw : WinOut L U j (ys.length + 1)) (hv : val B32 L + B32 ^ j * (t * val B32 ys) = val B32 U + 0 * B32 ^ (j + (ys.length + 1))) : DivRel A (val B32 ys) ys.length L (Q.set j t) j := by
  have e := k.ly
  rw [e] at h hw hv ⊢
  exact h.even k ht hj hB hw hv

theorem _root_.Go.Slip.DivRel.owed' {A mm j t r co : Nat} {ys U Q L M : List Nat} (h : DivRel A (val B32 ys) ys.length U Q (j + 1)) (k : Knuth ys U mm j) (ht : Trial ys U mm j t r) (he : t ≤ val B32 (U.drop j) / val B32 ys + 1) (hj : j < Q.length) (hB : t < 4294967296)
    (hw : WinOut L U j (ys.length + 1)) (hv : val B32 L + B32 ^ j * (t * val B32 ys) = val B32 U + 1 * B32 ^ (j + (ys.length + 1)))
    (hw2 : WinOut M L j (ys.length + 1)) (hv2 : val B32 M + co * B32 ^ (j + (ys.length + 1)) = val B32 L + B32 ^ j * val B32 ys) : 0 < t ∧ DivRel A (val B32 ys) ys.length M (Q.set j (t - 1)) j := by
  have e := k.ly
  rw [e] at h hw hv hw2 hv2 ⊢
  exact h.owed k ht he hj hB hw hv hw2 hv2

theorem owed_pos {mm j t : Nat} {ys U L : List Nat} (k : Knuth ys U mm j) (hw : WinOut L U j (ys.length + 1)) (hv : val B32 L + B32 ^ j * (t * val B32 ys) = val B32 U + 1 * B32 ^ (j + (ys.length + 1))) : 0 < t := by
  have e := k.ly
  rw [e] at hw hv
  have h1 := win_eq hw hv
  have h2 := win_lt hw k.z
  rcases Nat.eq_zero_or_pos t with h0 | h0
  · subst h0
    rw [Nat.zero_mul] at h1
    omega
  · exact h0

def Gives2 (w : World) (e : TypeId) (xs ys : List Nat) (en : Ending) (w' : World) : Prop :=
  ∃ p c q d, en = .returned (.tuple #[.slice p xs.length c, .slice q ys.length d]) ∧ Own w' w.heap.size .u32 e p c xs ∧ Own w' w.heap.size .u32 e q d ys ∧ Below w.heap.size w w' ∧ (p.isSome = true → q.isSome = true → blk p ≠ blk q)

set_option maxHeartbeats 400000 in
set_option maxRecDepth 100000 in
theorem div_less (p q : Option Addr) (n m c d : Nat) (a b : Nat) (w : World) (hp : Rd w .u32 p (dig B32 a)) (hq : Rd w .u32 q (dig B32 b)) (hn : n = (dig B32 a).length) (hm : m = (dig B32 b).length)
    (hl : (dig B32 a).length ≤ 1000000000) (hl2 : (dig B32 b).length ≤ 1000000000) (hab : a < b) :
    Calls Tryd.prog 135 #[.slice p n c, .slice q m d] w (Gives2 w 91 [] (dig B32 a)) := by
  subst hn hm
  have hC : cmpN a b ≤ -1 := by rw [cmpN_lt hab]; omega
  go_enter Tryd.func135, Tryd.ntmps135
  go_wp2_with fail
  refine (cmp_any p q _ _ c d a b _ hp hq rfl rfl (by omega) (by omega)).mono ?_
  rintro e w1 ⟨rfl, hb1⟩
  go_wp2_with fail
  refine (clone_any p _ c _ _ (hp.past hb1) rfl hl).mono ?_
  rintro e w2 ⟨p2, c2, rfl, ho2, hb2⟩
  go_wp2_with fail
  go_ret2
  exact ⟨none, 0, p2, c2, rfl, Own.nil _ _ _ _, ho2.mono hb1.size, hb1.trans (hb2.mono hb1.size), fun h => by simp at h⟩

set_option maxHeartbeats 400000 in
set_option maxRecDepth 100000 in
theorem div_small (p q : Option Addr) (n m c d : Nat) (a b : Nat) (w : World) (hp : Rd w .u32 p (dig B32 a)) (hq : Rd w .u32 q [b]) (hn : n = (dig B32 a).length) (hm : m = 1)
    (hl : (dig B32 a).length ≤ 1000000000) (hb0 : 0 < b) (hb1 : b < 4294967296) (hab : b ≤ a) :
    Calls Tryd.prog 135 #[.slice p n c, .slice q m d] w (Gives2 w 91 (dig B32 (a / b)) (dig B32 (a % b))) := by
  subst hn hm
  have hC : 0 ≤ cmpN a b := by unfold cmpN; rw [if_neg (by omega)]; split <;> omega
  have eb : [b] = dig B32 b := by rw [dig_pos B32_two hb0, Nat.div_eq_of_lt (by unfold B32; omega), dig_zero, Nat.mod_eq_of_lt (by unfold B32; omega)]
  have hr : a % b < 4294967296 := Nat.lt_trans (Nat.mod_lt a hb0) hb1
  obtain ⟨r, hrr⟩ : ∃ r, a % b = r := ⟨_, rfl⟩
  have HR := Lib.hid hrr
  rw [hrr] at hr ⊢
  clear hrr
  have hX := Lib.hid (show ∀ x ∈ [r], x < B32 by simp; unfold B32; omega)
  have hV := Lib.hid (show val B32 [r] = r by simp)
  have hq2 := Lib.hid (show Rd w .u32 q (dig B32 b) by rw [← eb]; exact hq)
  have hl1 := Lib.hid (show 1 = (dig B32 b).length by rw [← eb]; rfl)
  clear eb
  have hsq := hq.solid
  simp only [List.length_singleton] at hsq
  go_enter Tryd.func135, Tryd.ntmps135
  go_wp2_with fail
  refine (cmp_any p q _ 1 c d a b _ hp hq2.out rfl hl1.out (by omega) (by rw [← hl1.out]; omega)).mono ?_
  rintro e w1 ⟨rfl, hb1'⟩
  have hcd : w1.cell? (at_ q 0) = some (.int .u32 (b : Nat)) := (hq.past hb1').cells 0 (by simp)
  go_wp2_with fail
  refine (small_any p _ c a b _ (hp.past hb1') rfl hl hb0 hb1).mono ?_
  rw [HR.out]
  rintro e w2 ⟨p2, c2, rfl, ho2, hb2⟩
  go_wp2_with (refine wpl_build1 rfl _ _ rfl tyNat _ ?_ rfl ?_; omega; intro p3 w3 ho3 hb3 hz3 hp3)
  rw [Int.toNat_natCast] at ho3
  refine (norm_any p3 1 1 [r] _ ho3.rd rfl (by simp) hX.out (by simp)).mono ?_
  rintro e w4 ⟨rfl, rfl⟩
  rw [hV.out]
  go_wp2_with fail
  go_ret2
  have ht := take_dig_len B32_two [r] hX.out
  have ho4 := ho3.take (dig B32 (val B32 [r])).length
  rw [ht, hV.out] at ho4
  have hs2 := hb1'.trans (hb2.mono hb1'.size)
  exact ⟨p2, c2, p3, _, rfl, (ho2.past hb3).mono hb1'.size, ho4.mono hs2.size, hs2.trans (hb3.mono hs2.size), fun h1 h2 => by have := (ho2.blk_lt h1).2; have := (ho4.blk_lt h2).1; omega⟩

end Go.Proofs.YtcipdimogodndaaDoor

namespace Go.Proofs.YtcipdimogodndaaDoor
open Go.RowKit Go.Slip

set_option maxHeartbeats 2000000 in
set_option maxRecDepth 100000 in
theorem div_long (p q : Option Addr) (n m c d : Nat) (a b : Nat) (w : World) (hp : Rd w .u32 p (dig B32 a)) (hq : Rd w .u32 q (dig B32 b)) (hn : n = (dig B32 a).length) (hm : m = (dig B32 b).length)
    (hl : (dig B32 a).length ≤ 100000000) (h2 : 2 ≤ (dig B32 b).length) (hab : b ≤ a) :
    Calls Tryd.prog 135 #[.slice p n c, .slice q m d] w (Gives2 w 91 (dig B32 (a / b)) (dig B32 (a % b))) := by
  subst hn hm
  have hC : 0 ≤ cmpN a b := by unfold cmpN; rw [if_neg (by omega)]; split <;> omega
  have hlb := dig_len_mono B32_two hab
  have hb0 : 0 < b := by
    have := dig_len_zero B32_two b
    omega
  obtain ⟨bt, hbt⟩ : ∃ bt, bt = dg (dig B32 b) ((dig B32 b).length - 1) := ⟨_, rfl⟩
  have hbt1 : bt < 4294967296 := by rw [hbt]; exact getD_lt (B := 4294967296) (by omega) _ (dig_lt B32_two b) _
  have hbt2 : blen bt ≤ 32 := (blen_le bt 32).2 (by omega)
  have hbt3 : 1 ≤ blen bt := (blen_pos bt).2 (by rw [hbt]; exact (blen_dig (B := B32) (s := 32) (by decide) B32_two b hb0).2)
  obtain ⟨s, hs⟩ : ∃ s, s = 32 - blen bt := ⟨_, rfl⟩
  obtain ⟨nl, nt⟩ := norm_top hb0 (s := s) (by rw [← hbt]; omega)
  have hs32 : s < 32 := by omega
  have HS := Lib.hid hs
  have hcb := hq.cells ((dig B32 b).length - 1) (by omega)
  rw [← hbt] at hcb
  have t1 : (((dig B32 b).length : Int) == 1) = false := beq_eq_false_iff_ne.2 (by omega)
  have lu1 := dig_len_mono B32_two (show a ≤ a * 2 ^ s from Nat.le_mul_of_pos_right _ (Nat.pow_pos (by omega)))
  have lu2 : (dig B32 (a * 2 ^ s)).length ≤ (dig B32 a).length + 2 := by
    refine Nat.le_trans (dig_len_mul B32_two _ _) ?_
    have : (dig B32 (2 ^ s)).length ≤ 1 := (dig_len_le B32_two _ 1).2 (Nat.lt_of_lt_of_le (Nat.pow_lt_pow_right (by omega) hs32) (by decide))
    omega
  obtain ⟨ys, hys⟩ : ∃ ys, ys = dig B32 (b * 2 ^ s) := ⟨_, rfl⟩
  obtain ⟨us, hus⟩ : ∃ us, us = dig B32 (a * 2 ^ s) := ⟨_, rfl⟩
  obtain ⟨mm, hmm⟩ : ∃ mm, ys.length = mm + 2 := ⟨ys.length - 2, by rw [hys, nl]; omega⟩
  have HYD := Lib.hid (show ∀ x ∈ ys, x < B32 by rw [hys]; exact dig_lt B32_two _)
  have HYV := Lib.hid (show val B32 ys = b * 2 ^ s by rw [hys]; exact val_dig B32_two _)
  have hbig : 2147483648 ≤ dg ys (mm + 1) := by
    rw [hys, show mm + 1 = (dig B32 b).length - 1 by rw [← nl, ← hys, hmm]; omega]; exact nt
  rw [← hys] at nl
  rw [← hus] at lu1 lu2
  have hyl1 := Nat.le_of_eq nl
  have hyl2 := Nat.le_of_eq nl.symm
  have hU0 : DivRel (a * 2 ^ s) (val B32 ys) ys.length (us ++ [0]) (List.replicate (us.length + 1 - ys.length) 0) (us.length + 1 - ys.length) := by
    have := DivRel.start (A := a * 2 ^ s) (V := val B32 ys) (n := ys.length) (U := us ++ [0]) (fun x hx => by
      rcases List.mem_append.1 hx with h | h
      · rw [hus] at h; exact dig_lt B32_two _ x h
      · simp at h; rw [h]; exact B32_pos) (by simp; omega) (by omega) (by rw [val_snoc, hus, val_dig B32_two]; simp)
      (by simp; rw [hus]; exact (dig_len_le B32_two _ _).1 (Nat.le_refl _))
      (by rw [HYV.out, hys]; exact dig_len_pow B32_two _ (Nat.mul_pos hb0 (Nat.pow_pos (by omega))))
    simpa using this
  have HU0 := Lib.hid hU0
  have HYS := Lib.hid hys
  have HUS := Lib.hid hus
  have HMM := Lib.hid hmm
  obtain ⟨QL, hQL⟩ : ∃ QL, QL = us.length + 1 - ys.length := ⟨_, rfl⟩
  rw [← hQL] at HU0
  have q1 : QL + ys.length ≤ us.length + 1 := by omega
  have q2 : us.length + 1 ≤ QL + ys.length := by omega
  have y2 : 2 ≤ ys.length := by omega
  have HB0 := Lib.hid hb0
  have HBT := Lib.hid hbt
  clear hbt hs nl nt hU0 hys hus hmm hQL hb0
  go_enter Tryd.func135, Tryd.ntmps135
  go_wp2_with fail
  refine (cmp_any p q _ _ c d a b _ hp hq rfl rfl (by omega) (by omega)).mono ?_
  rintro e w1 ⟨rfl, hb1⟩
  have hp1 := hp.past hb1
  have hq1 := hq.past hb1
  have hsq := hq1.solid
  have hcb1 : w1.cell? (at_ q ((dig B32 b).length - 1)) = some (.int .u32 (bt : Nat)) := by
    have h := hq1.cells ((dig B32 b).length - 1) (by omega)
    rw [← HBT.out] at h; exact h
  go_wp2_with fail
  refine (lz32_any bt _ hbt1).mono ?_
  rintro e w2 ⟨rfl, rfl⟩
  rw [← HS.out]
  go_wp2_with fail
  refine (shl_any q _ d b s _ hq1 rfl (by omega) (by omega)).mono ?_
  rw [← HYS.out]
  rintro e w3 ⟨pv, cv, rfl, hov, hb3⟩
  have hs3 := hb1.trans (hb3.mono hb1.size)
  go_wp2_with fail
  refine (shl_any p _ c a s _ (hp1.past hb3) rfl (by omega) (by omega)).mono ?_
  rw [← HUS.out]
  rintro e w4 ⟨pu0, cu0, rfl, hou0, hb4⟩
  have hs4 := hs3.trans (hb4.mono hs3.size)
  go_wp2_with (first
    | (refine wpl_build1 rfl _ _ rfl tyNat 0 (by omega) rfl ?_; intro p5 w5 ho5 hb5 hz5 hp5)
    | (at_builtin; refine wpl_append rfl _ _ _ rfl tyNat w3.heap.size _ _ _ _ (hou0.past hb5) rfl _ _ _ _ ho5.rd rfl rfl rfl ?_ ?_ ?_; (simp; omega); (have := hb5.size; have := hb4.size; omega); intro pu cu w6 hou hg6 hb6 hn6))
  have hs5 := hs4.trans (hb5.mono hs4.size)
  have hs6 := hs5.trans (hb6.mono hs3.size)
  have hvl := hov.rd.lt (by omega)
  have hsz3 := hs3.size
  have hvr6 := ((hov.rd.past hb4).past hb5).below hb6 (fun _ => hvl)
  have hus6 := hou.solid
  rw [List.length_append, List.length_singleton] at hus6
  clear hb1 hb3 hb4 hb5 hb6 hs3 hs4 hs5 hp1 hq1 hcb hcb1 hsq t1 hn6 hg6 hou0 ho5 hz5 hp5
  go_loopw [10] (fun uv wr => uv = .slice pu (us.length + 1) cu ∧ w6 = wr) (fun _ _ => 0)
  case atStart => exact ⟨rfl, rfl⟩
  case round =>
    obtain ⟨rfl, rfl⟩ := hrel
    go_wp2_with (refine wpl_make rfl _ _ _ rfl tyNat .i64 .i64 QL _ _ rfl rfl ?_ ?_ ?_ ?_; omega; omega; omega; intro pq cq w7 hoq hb7 hz7)
    obtain ⟨top, htop⟩ : ∃ top, dg ys (ys.length - 1) = top := ⟨_, rfl⟩
    obtain ⟨nx, hnx⟩ : ∃ nx, dg ys (ys.length - 2) = nx := ⟨_, rfl⟩
    have hvr7 := hvr6.past hb7
    have hc1 := hvr7.cells (ys.length - 1) (by omega)
    have hc2 := hvr7.cells (ys.length - 2) (by omega)
    rw [htop] at hc1
    rw [hnx] at hc2
    have hvs := hvr7.solid
    have htop1 : top < 4294967296 := by rw [← htop]; exact getD_lt (B := 4294967296) (by omega) ys HYD.out _
    have hnx1 : nx < 4294967296 := by rw [← hnx]; exact getD_lt (B := 4294967296) (by omega) ys HYD.out _
    have htop2 : 2147483648 ≤ top := by rw [← htop, HMM.out]; exact hbig
    have HTOP := Lib.hid htop
    have HNX := Lib.hid hnx
    clear htop hnx hbig
    have b1 : (0 : Int) ≤ (ys.length : Int) - 1 := by omega
    have b2 : (ys.length : Int) - 1 < (ys.length : Int) := by omega
    have b3 : (0 : Int) ≤ (ys.length : Int) - 2 := by omega
    have b4 : (ys.length : Int) - 2 < (ys.length : Int) := by omega
    have e1 : IntKind.i64.wrap ((ys.length : Int) - 1) = (ys.length : Int) - 1 := IntWalk.i64_in _ (by omega)
    have e2 : IntKind.i64.wrap ((ys.length : Int) - 2) = (ys.length : Int) - 2 := IntWalk.i64_in _ (by omega)
    have e3 : ((ys.length : Int) - 1).toNat = ys.length - 1 := by omega
    have e4 : ((ys.length : Int) - 2).toNat = ys.length - 2 := by omega
    have e5 : IntKind.u64.wrap (top : Int) = (top : Int) := IntWalk.u64_in _ (by omega)
    have e6 : IntKind.u64.wrap (nx : Int) = (nx : Int) := IntWalk.u64_in _ (by omega)
    go_wp2_with fail
    go_quiet (fail)
    clear b1 b2 b3 b4 e1 e2 e3 e4 e5 e6 hc1 hc2
    have hsvu : w3.heap.size ≤ w6.heap.size := by
      have := hou.rd.lt (by simp)
      have := (hou.blk_lt (hou.rd.solid (by simp)).1).1
      omega
    have hou7 := hou.past hb7
    have hups := (hou.rd.solid (by simp)).1
    have hbu := hou.blk_lt hups
    have hvu : blk pv ≠ blk pu := by omega
    have hqu : pq.isSome = true → some (blk pq) ≠ some (blk pu) := fun h => by
      have := hoq.blk_lt h
      simp only [ne_eq, Option.some.injEq]; omega
    have hqv : pq.isSome = true → blk pq ≠ blk pv := fun h => by
      have := hoq.blk_lt h
      omega
    have HVU := Lib.hid hvu
    have HQU := Lib.hid hqu
    have HQV := Lib.hid hqv
    have HUPS := Lib.hid hups
    have hs7 := hs6.trans (hb7.mono hs6.size)
    have hsz6 := hs6.size
    clear hvu hqu hqv hups hbu hsvu
    have hcu := hou.le_cap
    rw [List.length_append, List.length_singleton] at hcu
    go_wp2_with fail
    go_loopw [15] (fun jv wr => ∃ (k : Nat) (U Q : List Nat), jv = .int .i64 ((k : Int) - 1) ∧ k ≤ QL ∧ Hid (U.length = us.length + 1) ∧ Hid (Q.length = QL) ∧ Own wr w3.heap.size .u32 91 pu cu U ∧
        Own wr w6.heap.size .u32 91 pq cq Q ∧ Below w.heap.size w wr ∧ Rd wr .u32 pv ys ∧ Hid (DivRel (a * 2 ^ s) (val B32 ys) ys.length U Q k))
      (fun jv _ => (intOf jv + 1).toNat)
    case atStart => exact ⟨QL, _, _, by go_num, Nat.le_refl _, (by show (us ++ [Int.toNat 0]).length = us.length + 1; simp), List.length_replicate, hou7.drewN _, hoq.drewN _, below_drewN hs7 _, hvr7.drewN _, HU0⟩
    case round =>
      obtain ⟨k, U, Q, rfl, hk, hUl, hQl, hoU, hoQ, hbL, hrv, HR⟩ := hrel
      by_cases h0 : 0 < k
      · obtain ⟨j, rfl⟩ : ∃ j, k = j + 1 := ⟨k - 1, by omega⟩
        have ej : ((j + 1 : Nat) : Int) - 1 = j := by omega
        rw [ej]
        have KN : Knuth ys U mm j := ⟨HYD.out, HR.out.dU, HMM.out, by rw [show mm + 1 = ys.length - 1 by rw [HMM.out]; omega, HTOP.out]; exact htop2, HR.out.win⟩
        have KN := Lib.hid KN
        obtain ⟨u2, hu2⟩ : ∃ u2, dg U (j + ys.length) = u2 := ⟨_, rfl⟩
        obtain ⟨u1, hu1⟩ : ∃ u1, dg U (j + ys.length - 1) = u1 := ⟨_, rfl⟩
        obtain ⟨u0, hu0⟩ : ∃ u0, dg U (j + ys.length - 2) = u0 := ⟨_, rfl⟩
        have hc2 := hoU.rd.cells (j + ys.length) (by rw [hUl.out]; omega)
        have hc1 := hoU.rd.cells (j + ys.length - 1) (by rw [hUl.out]; omega)
        have hc0 := hoU.rd.cells (j + ys.length - 2) (by rw [hUl.out]; omega)
        have hsU := hoU.solid
        rw [hUl.out] at hsU
        rw [hu2] at hc2
        rw [hu1] at hc1
        rw [hu0] at hc0
        have hu2l : u2 < 4294967296 := by rw [← hu2]; exact getD_lt (B := 4294967296) (by omega) U HR.out.dU _
        have hu1l : u1 < 4294967296 := by rw [← hu1]; exact getD_lt (B := 4294967296) (by omega) U HR.out.dU _
        have hu0l : u0 < 4294967296 := by rw [← hu0]; exact getD_lt (B := 4294967296) (by omega) U HR.out.dU _
        have HU2 := Lib.hid hu2
        have HU1 := Lib.hid hu1
        have HUZ := Lib.hid hu0
        clear hu2 hu1 hu0
        obtain ⟨two, htwo⟩ : ∃ two, two = u2 * 4294967296 + u1 := ⟨_, rfl⟩
        have HT0 : Hid (Trial ys U mm j (two / top) (two % top)) := by
          have := KN.out.start two (by rw [htwo, ← HU2.out, ← HU1.out, HMM.out]; rfl)
          rw [show mm + 1 = ys.length - 1 by rw [HMM.out]; omega, HTOP.out] at this
          exact this
        have HT0 := Lib.hid HT0.out
        have hor := or32 u2 u1 hu2l hu1l
        have etw : (u2 : Int) * 4294967296 + (u1 : Nat) = (two : Nat) := by omega
        rw [etw] at hor
        have htwl : two < 18446744073709551616 := by omega
        have HTW := Lib.hid htwo
        clear etw htwo
        have b0 : (0 : Int) ≤ (j : Int) + ys.length := by omega
        have b1 : (0 : Int) ≤ (j : Int) + ys.length - 1 := by omega
        have b2 : (j : Int) + ys.length < (us.length : Int) + 1 := by omega
        have b3 : (j : Int) + ys.length - 1 < (us.length : Int) + 1 := by omega
        have e1 : IntKind.i64.wrap ((j : Int) + ys.length) = (j : Int) + ys.length := IntWalk.i64_in _ (by omega)
        have e2 : IntKind.i64.wrap ((j : Int) + ys.length - 1) = (j : Int) + ys.length - 1 := IntWalk.i64_in _ (by omega)
        have e3 : ((j : Int) + ys.length).toNat = j + ys.length := by omega
        have e4 : ((j : Int) + ys.length - 1).toNat = j + ys.length - 1 := by omega
        have e5 : IntKind.u64.wrap (u2 : Int) = (u2 : Int) := IntWalk.u64_in _ (by omega)
        have e6 : IntKind.u64.wrap (u1 : Int) = (u1 : Int) := IntWalk.u64_in _ (by omega)
        have e7 : IntKind.u64.wrap ((u2 : Int) * 4294967296) = (u2 : Int) * 4294967296 := IntWalk.u64_in _ (by omega)
        go_wp2_with fail
        go_quiet (fail)
        obtain ⟨n1, rfl⟩ : ∃ n1, n1 = nq := ⟨_, rfl⟩
        go_wp2_with fail
        clear b0 b1 b2 b3 e1 e2 e3 e4 e5 e6 e7 hor
        obtain ⟨t0, ht0⟩ : ∃ t0, t0 = two / top := ⟨_, rfl⟩
        obtain ⟨r0, hr0⟩ : ∃ r0, r0 = two % top := ⟨_, rfl⟩
        rw [← ht0, ← hr0] at HT0
        have hr0l : r0 < 4294967296 := by rw [hr0]; exact Nat.lt_trans (Nat.mod_lt _ (by omega)) htop1
        have ht0l : t0 < 18446744073709551616 := by rw [ht0]; exact Nat.lt_of_le_of_lt (Nat.div_le_self _ _) htwl
        have e1 : (two : Int) / (top : Int) = (t0 : Nat) := by rw [ht0]; rfl
        have e2 : (two : Int).tmod (top : Int) = (r0 : Nat) := by rw [hr0, Int.tmod_eq_emod_of_nonneg (by omega)]; rfl
        have e3 : IntKind.u64.wrap (t0 : Int) = (t0 : Int) := IntWalk.u64_in _ (by omega)
        have e4 : ¬ top = 0 := by omega
        have e5 : IntKind.u64.wrap (r0 : Int) = (r0 : Int) := IntWalk.u64_in _ (by omega)
        clear ht0 hr0
        go_quiet (fail)
        clear e1 e2 e3 e4 e5
        have hoU8 := (hoU.drewN n1).drewN nq
        have hoQ8 := (hoQ.drewN n1).drewN nq
        have hrv8 := (hrv.drewN n1).drewN nq
        have hbL8 := below_drewN (below_drewN hbL n1) nq
        have hc8 := hoU8.rd.cells (j + ys.length - 2) (by rw [hUl.out]; omega)
        rw [HUZ.out] at hc8
        generalize (wr.drewN n1).drewN nq = w8 at *
        clear hc0 hc1 hc2 hoU hoQ hrv hbL
        have hju : j + ys.length + 1 ≤ us.length + 1 := by omega
        have hsQ := hoQ8.solid
        rw [hQl.out] at hsQ
        have hjc : j + ys.length + 1 ≤ cu := by omega
        clear ej
        have HXT : Hid (dg ys (mm + 1) = top) := by show dg ys (mm + 1) = top; rw [show mm + 1 = ys.length - 1 by rw [HMM.out]; omega]; exact HTOP.out
        have HXN : Hid (dg ys mm = nx) := by show dg ys mm = nx; rw [show mm = ys.length - 2 by rw [HMM.out]; omega]; exact HNX.out
        have HXU : Hid (dg U (j + mm) = u0) := by show dg U (j + mm) = u0; rw [show j + mm = j + ys.length - 2 by rw [HMM.out]; omega]; exact HUZ.out
        go_wp2_with fail
        go_loop [17, 18] (fun tv rv => ∃ (t r : Nat), tv = .int .u64 t ∧ rv = .int .u64 r ∧ r < 4294967296 ∧ t ≤ 4294967298 ∧ Hid (Trial ys U mm j t r)) (fun tv _ => (intOf tv).toNat)
        case atStart => exact ⟨t0, r0, rfl, rfl, hr0l, HT0.out.bound KN.out, HT0⟩
        case round =>
          obtain ⟨t, r, rfl, rfl, hrl, htl, HT⟩ := hrel
          by_cases hA : 4294967296 ≤ t
          · obtain ⟨hd1, hd2⟩ := HT.out.down KN.out (.inl hA)
            obtain ⟨u, rfl⟩ : ∃ u, t = u + 1 := ⟨t - 1, by omega⟩
            rw [HXT.out, Nat.add_sub_cancel] at hd2
            have HT' := Lib.hid hd2
            have dA : decide ((4294967296 : Int) ≤ (u : Int) + 1) = true := decide_eq_true (by omega)
            clear hd2 hA
            by_cases hbk : 4294967296 ≤ r + top
            · obtain ⟨ht1, ht2⟩ := HT'.out.breaks KN.out hbk
              have HTE := Lib.hid (HT'.out.exit KN.out ht1 ht2)
              have ht1 : u < 4294967296 := ht1
              have dB : decide ((4294967296 : Int) ≤ (r : Int) + (top : Int)) = true := decide_eq_true (by omega)
              clear hbk
              go_wp2_with fail
              ((with_reducible refine (less_any pu _ pv cu _ _ _ _ U ys j u w3.heap.size _ hoU8 hrv8 rfl rfl ?_ ?_ ?_ ?_ ?_ ?_ ?_ ?_).mono ?_))
              · omega
              · rw [hUl.out]; omega
              · exact HR.out.dU
              · exact HYD.out
              · exact ht1
              · exact fun _ _ => HVU.out.symm
              · exact HUPS.out
              · rw [hUl.out]; omega
              rintro e w9 ⟨L, br, hbr, rfl, hoL, hgL, hbL9, HW, HV⟩
              have HW := Lib.hid HW
              have HV := Lib.hid HV
              have hoQ9 := hoQ8.grown hgL HQU.out
              have hrv9 := hrv8.written hgL (fun _ _ => HVU.out.symm) HUPS.out
              have hb9 := hbL8.trans (hbL9.mono hsz3)
              have hjQ : j < Q.length := by rw [hQl.out]; omega
              have hqs := Lib.hid (hoQ9.rd.solid (by omega)).1
              have hLl := Lib.hid (show L.length = us.length + 1 by rw [HW.out.2.1]; exact hUl.out)
              rcases (show br = 0 ∨ br = 1 by omega) with rfl | rfl
              · have HS := Lib.hid (HR.out.even' KN.out HT'.out hjQ ht1 HW.out HV.out)
                go_wp2_with (refine wpl_store rfl _ _ _ rfl 91 tyNat _ _ _ _ hoQ9 j hjQ _ ?_ rfl rfl ?_; omega; intro w10 ho10 hg10 hb10)
                rw [Int.toNat_natCast] at ho10
                go_roundw
                case rel => exact ⟨j, L, _, rfl, by omega, hLl, (by show (List.set _ _ _).length = _; rw [List.length_set]; exact hQl.out), hoL.grown hg10 (fun _ => (HQU.out hqs.out).symm), ho10, hb9.trans (hb10.mono hsz6), hrv9.written hg10 (fun _ h => HQV.out h) hqs.out, HS⟩
                case measure => first | (simp [intOf]; done) | (simp [intOf]; omega)
              · have htp : 0 < u := owed_pos KN.out HW.out HV.out
                obtain ⟨v, rfl⟩ : ∃ v, u = v + 1 := ⟨u - 1, by omega⟩
                go_wp2_with fail
                ((with_reducible refine (more_any pu _ pv cu _ _ _ _ L ys j w3.heap.size _ hoL hrv9 rfl rfl ?_ ?_ ?_ ?_ ?_ ?_ ?_).mono ?_))
                · omega
                · rw [hLl.out]; omega
                · exact HW.out.1
                · exact HYD.out
                · exact fun _ _ => HVU.out.symm
                · exact HUPS.out
                · rw [hLl.out]; omega
                rintro e w10 ⟨M, co, rfl, hoM, hgM, hbM, HW2, HV2⟩
                obtain ⟨_, HS⟩ := HR.out.owed' KN.out HT'.out HTE.out hjQ ht1 HW.out HV.out HW2 HV2
                rw [Nat.add_sub_cancel] at HS
                have HS := Lib.hid HS
                have hMl := Lib.hid (show M.length = us.length + 1 by rw [HW2.2.1]; exact hLl.out)
                have hoQ10 := hoQ9.grown hgM HQU.out
                have hrv10 := hrv9.written hgM (fun _ _ => HVU.out.symm) HUPS.out
                have hb10 := hb9.trans (hbM.mono hsz3)
                clear HW2 HV2
                go_wp2_with (refine wpl_store rfl _ _ _ rfl 91 tyNat _ _ _ _ hoQ10 j hjQ _ ?_ rfl rfl ?_; omega; intro w11 ho11 hg11 hb11)
                rw [Int.toNat_natCast] at ho11
                go_roundw
                case rel => exact ⟨j, M, _, rfl, by omega, hMl, (by show (List.set _ _ _).length = _; rw [List.length_set]; exact hQl.out), hoM.grown hg11 (fun _ => (HQU.out hqs.out).symm), ho11, hb10.trans (hb11.mono hsz6), hrv10.written hg11 (fun _ h => HQV.out h) hqs.out, HS⟩
                case measure => first | (simp [intOf]; done) | (simp [intOf]; omega)
            · have dB : decide ((4294967296 : Int) ≤ (r : Int) + (top : Int)) = false := decide_eq_false (by omega)
              have hbk' : r + top < 4294967296 := by omega
              clear hbk
              go_wp2_with fail
              go_round
              case rel => exact ⟨u, r + top, by go_num, by go_num, by omega, by omega, HT'⟩
              case measure => first | (simp [intOf]; done) | (simp [intOf]; omega)
          · have htlt : t < 4294967296 := by omega
            obtain ⟨tn, htn⟩ : ∃ tn, tn = t * nx := ⟨_, rfl⟩
            obtain ⟨rr, hrr⟩ : ∃ rr, rr = r * 4294967296 + u0 := ⟨_, rfl⟩
            have etn : (t : Int) * (nx : Int) = (tn : Nat) := by rw [htn]; simp
            obtain ⟨hpr, hpr0⟩ := prod_le htlt hnx1
            rw [etn] at hpr hpr0
            have hor := or32 r u0 hrl hu0l
            have etw : (r : Int) * 4294967296 + (u0 : Nat) = (rr : Nat) := by omega
            rw [etw] at hor
            have dA : decide ((4294967296 : Int) ≤ (t : Int)) = false := decide_eq_false (by omega)
            have HTL := Lib.hid htlt
            clear etw hA htlt
            by_cases hB : rr < tn
            · obtain ⟨hd1, hd2⟩ := HT.out.down KN.out (.inr (by rw [HXN.out, HXU.out, ← htn]; show r * 4294967296 + u0 < tn; omega))
              rw [HXT.out] at hd2
              obtain ⟨u, hu⟩ : ∃ u, u = t - 1 := ⟨_, rfl⟩
              rw [← hu] at hd2
              have HT' := Lib.hid hd2
              have e6 : (t : Int) - 1 = (u : Int) := by omega
              have hut : u < t := by omega
              clear hd2 htn hrr hu
              by_cases hbk : 4294967296 ≤ r + top
              · obtain ⟨ht1, ht2⟩ := HT'.out.breaks KN.out hbk
                have HTE := Lib.hid (HT'.out.exit KN.out ht1 ht2)
                have ht1 : u < 4294967296 := ht1
                have dB : decide ((4294967296 : Int) ≤ (r : Int) + (top : Int)) = true := decide_eq_true (by omega)
                clear hbk
                go_wp2_with fail
                ((with_reducible refine (less_any pu _ pv cu _ _ _ _ U ys j u w3.heap.size _ hoU8 hrv8 rfl rfl ?_ ?_ ?_ ?_ ?_ ?_ ?_ ?_).mono ?_))
                · omega
                · rw [hUl.out]; omega
                · exact HR.out.dU
                · exact HYD.out
                · exact ht1
                · exact fun _ _ => HVU.out.symm
                · exact HUPS.out
                · rw [hUl.out]; omega
                rintro e w9 ⟨L, br, hbr, rfl, hoL, hgL, hbL9, HW, HV⟩
                have HW := Lib.hid HW
                have HV := Lib.hid HV
                have hoQ9 := hoQ8.grown hgL HQU.out
                have hrv9 := hrv8.written hgL (fun _ _ => HVU.out.symm) HUPS.out
                have hb9 := hbL8.trans (hbL9.mono hsz3)
                have hjQ : j < Q.length := by rw [hQl.out]; omega
                have hqs := Lib.hid (hoQ9.rd.solid (by omega)).1
                have hLl := Lib.hid (show L.length = us.length + 1 by rw [HW.out.2.1]; exact hUl.out)
                rcases (show br = 0 ∨ br = 1 by omega) with rfl | rfl
                · have HS := Lib.hid (HR.out.even' KN.out HT'.out hjQ ht1 HW.out HV.out)
                  go_wp2_with (refine wpl_store rfl _ _ _ rfl 91 tyNat _ _ _ _ hoQ9 j hjQ _ ?_ rfl rfl ?_; omega; intro w10 ho10 hg10 hb10)
                  rw [Int.toNat_natCast] at ho10
                  go_roundw
                  case rel => exact ⟨j, L, _, rfl, by omega, hLl, (by show (List.set _ _ _).length = _; rw [List.length_set]; exact hQl.out), hoL.grown hg10 (fun _ => (HQU.out hqs.out).symm), ho10, hb9.trans (hb10.mono hsz6), hrv9.written hg10 (fun _ h => HQV.out h) hqs.out, HS⟩
                  case measure => first | (simp [intOf]; done) | (simp [intOf]; omega)
                · have htp : 0 < u := owed_pos KN.out HW.out HV.out
                  obtain ⟨v, rfl⟩ : ∃ v, u = v + 1 := ⟨u - 1, by omega⟩
                  go_wp2_with fail
                  ((with_reducible refine (more_any pu _ pv cu _ _ _ _ L ys j w3.heap.size _ hoL hrv9 rfl rfl ?_ ?_ ?_ ?_ ?_ ?_ ?_).mono ?_))
                  · omega
                  · rw [hLl.out]; omega
                  · exact HW.out.1
                  · exact HYD.out
                  · exact fun _ _ => HVU.out.symm
                  · exact HUPS.out
                  · rw [hLl.out]; omega
                  rintro e w10 ⟨M, co, rfl, hoM, hgM, hbM, HW2, HV2⟩
                  obtain ⟨_, HS⟩ := HR.out.owed' KN.out HT'.out HTE.out hjQ ht1 HW.out HV.out HW2 HV2
                  rw [Nat.add_sub_cancel] at HS
                  have HS := Lib.hid HS
                  have hMl := Lib.hid (show M.length = us.length + 1 by rw [HW2.2.1]; exact hLl.out)
                  have hoQ10 := hoQ9.grown hgM HQU.out
                  have hrv10 := hrv9.written hgM (fun _ _ => HVU.out.symm) HUPS.out
                  have hb10 := hb9.trans (hbM.mono hsz3)
                  clear HW2 HV2
                  go_wp2_with (refine wpl_store rfl _ _ _ rfl 91 tyNat _ _ _ _ hoQ10 j hjQ _ ?_ rfl rfl ?_; omega; intro w11 ho11 hg11 hb11)
                  rw [Int.toNat_natCast] at ho11
                  go_roundw
                  case rel => exact ⟨j, M, _, rfl, by omega, hMl, (by show (List.set _ _ _).length = _; rw [List.length_set]; exact hQl.out), hoM.grown hg11 (fun _ => (HQU.out hqs.out).symm), ho11, hb10.trans (hb11.mono hsz6), hrv10.written hg11 (fun _ h => HQV.out h) hqs.out, HS⟩
                  case measure => first | (simp [intOf]; done) | (simp [intOf]; omega)
              · have dB : decide ((4294967296 : Int) ≤ (r : Int) + (top : Int)) = false := decide_eq_false (by omega)
                have hbk' : r + top < 4294967296 := by omega
                clear hbk
                go_wp2_with fail
                go_round
                case rel => exact ⟨u, r + top, by go_num, by go_num, by omega, by omega, HT'⟩
                case measure => first | (simp [intOf]; done) | (simp [intOf]; omega)
            · have HTE := Lib.hid (HT.out.exit KN.out HTL.out (by rw [HXN.out, HXU.out, ← htn]; show tn ≤ r * 4294967296 + u0; omega))
              have em : (t : Int) % 4294967296 = (t : Int) := by have := HTL.out; omega
              clear htn hrr
              have ht1 := HTL.out
              have ht1 := Lib.hid ht1
              go_wp2_with fail
              have ht1 := ht1.out
              clear em dA hor etn
              ((with_reducible refine (less_any pu _ pv cu _ _ _ _ U ys j t w3.heap.size _ hoU8 hrv8 rfl rfl ?_ ?_ ?_ ?_ ?_ ?_ ?_ ?_).mono ?_))
              · omega
              · rw [hUl.out]; omega
              · exact HR.out.dU
              · exact HYD.out
              · exact ht1
              · exact fun _ _ => HVU.out.symm
              · exact HUPS.out
              · rw [hUl.out]; omega
              rintro e w9 ⟨L, br, hbr, rfl, hoL, hgL, hbL9, HW, HV⟩
              have HW := Lib.hid HW
              have HV := Lib.hid HV
              have hoQ9 := hoQ8.grown hgL HQU.out
              have hrv9 := hrv8.written hgL (fun _ _ => HVU.out.symm) HUPS.out
              have hb9 := hbL8.trans (hbL9.mono hsz3)
              have hjQ : j < Q.length := by rw [hQl.out]; omega
              have hqs := Lib.hid (hoQ9.rd.solid (by omega)).1
              have hLl := Lib.hid (show L.length = us.length + 1 by rw [HW.out.2.1]; exact hUl.out)
              rcases (show br = 0 ∨ br = 1 by omega) with rfl | rfl
              · have HS := Lib.hid (HR.out.even' KN.out HT.out hjQ ht1 HW.out HV.out)
                go_wp2_with (refine wpl_store rfl _ _ _ rfl 91 tyNat _ _ _ _ hoQ9 j hjQ _ ?_ rfl rfl ?_; omega; intro w10 ho10 hg10 hb10)
                rw [Int.toNat_natCast] at ho10
                go_roundw
                case rel => exact ⟨j, L, _, rfl, by omega, hLl, (by show (List.set _ _ _).length = _; rw [List.length_set]; exact hQl.out), hoL.grown hg10 (fun _ => (HQU.out hqs.out).symm), ho10, hb9.trans (hb10.mono hsz6), hrv9.written hg10 (fun _ h => HQV.out h) hqs.out, HS⟩
                case measure => first | (simp [intOf]; done) | (simp [intOf]; omega)
              · have htp : 0 < t := owed_pos KN.out HW.out HV.out
                obtain ⟨v, rfl⟩ : ∃ v, t = v + 1 := ⟨t - 1, by omega⟩
                go_wp2_with fail
                ((with_reducible refine (more_any pu _ pv cu _ _ _ _ L ys j w3.heap.size _ hoL hrv9 rfl rfl ?_ ?_ ?_ ?_ ?_ ?_ ?_).mono ?_))
                · omega
                · rw [hLl.out]; omega
                · exact HW.out.1
                · exact HYD.out
                · exact fun _ _ => HVU.out.symm
                · exact HUPS.out
                · rw [hLl.out]; omega
                rintro e w10 ⟨M, co, rfl, hoM, hgM, hbM, HW2, HV2⟩
                obtain ⟨_, HS⟩ := HR.out.owed' KN.out HT.out HTE.out hjQ ht1 HW.out HV.out HW2 HV2
                rw [Nat.add_sub_cancel] at HS
                have HS := Lib.hid HS
                have hMl := Lib.hid (show M.length = us.length + 1 by rw [HW2.2.1]; exact hLl.out)
                have hoQ10 := hoQ9.grown hgM HQU.out
                have hrv10 := hrv9.written hgM (fun _ _ => HVU.out.symm) HUPS.out
                have hb10 := hb9.trans (hbM.mono hsz3)
                clear HW2 HV2
                go_wp2_with (refine wpl_store rfl _ _ _ rfl 91 tyNat _ _ _ _ hoQ10 j hjQ _ ?_ rfl rfl ?_; omega; intro w11 ho11 hg11 hb11)
                rw [Int.toNat_natCast] at ho11
                go_roundw
                case rel => exact ⟨j, M, _, rfl, by omega, hMl, (by show (List.set _ _ _).length = _; rw [List.length_set]; exact hQl.out), hoM.grown hg11 (fun _ => (HQU.out hqs.out).symm), ho11, hb10.trans (hb11.mono hsz6), hrv10.written hg11 (fun _ h => HQV.out h) hqs.out, HS⟩
                case measure => first | (simp [intOf]; done) | (simp [intOf]; omega)
      · obtain rfl : k = 0 := by omega
        obtain ⟨hd1, hd2⟩ := HR.out.done
        rw [HYV.out, Nat.mul_div_mul_right _ _ (Nat.pow_pos (by omega))] at hd1
        rw [HYV.out, Nat.mul_mod_mul_right] at hd2
        have HD1 := Lib.hid hd1
        have HD2 := Lib.hid hd2
        have HM := Lib.hid (show a % b * 2 ^ s / 2 ^ s = a % b from Nat.mul_div_cancel _ (Nat.pow_pos (by omega)))
        have hTQ := hoQ.take (dig B32 (val B32 Q)).length
        rw [take_dig_len B32_two Q HR.out.dQ, hd1] at hTQ
        have hTU := hoU.take (dig B32 (val B32 U)).length
        rw [take_dig_len B32_two U HR.out.dU, hd2] at hTU
        have hlU := dig_val_le B32_two U HR.out.dU
        rw [hd2, hUl.out] at hlU
        clear hd1 hd2
        go_wp2_with fail
        refine (norm_any pq QL cq Q _ hoQ.rd hQl.out.symm hoQ.le_cap HR.out.dQ (by rw [hQl.out]; omega)).mono ?_
        rintro e w9 ⟨rfl, rfl⟩
        rw [HD1.out]
        go_wp2_with fail
        refine (norm_any pu (us.length + 1) cu U _ hoU.rd hUl.out.symm hoU.le_cap HR.out.dU (by rw [hUl.out]; omega)).mono ?_
        rintro e w10 ⟨rfl, rfl⟩
        rw [HD2.out]
        go_wp2_with fail
        refine (shr_any pu _ cu (a % b * 2 ^ s) s _ hTU.rd rfl hTU.le_cap (by omega) (by omega)).mono ?_
        rw [HM.out]
        rintro e w11 ⟨p9, c9, rfl, ho9, hb9⟩
        go_wp2_with fail
        go_ret2
        exact ⟨pq, cq, p9, c9, rfl, (hTQ.past hb9).mono hsz6, ho9.mono hbL.size, hbL.trans (hb9.mono hbL.size), fun h1 h2 => by have := (hTQ.blk_lt h1).2; have := (ho9.blk_lt h2).1; omega⟩

theorem limbDiv_any (p q : Option Addr) (n m c d : Nat) (a b : Nat) (w : World) (hp : Rd w .u32 p (dig B32 a)) (hq : Rd w .u32 q (dig B32 b)) (hn : n = (dig B32 a).length) (hm : m = (dig B32 b).length)
    (hl : (dig B32 a).length ≤ 100000000) (hl2 : (dig B32 b).length ≤ 100000000) (hb : 0 < b) :
    Calls Tryd.prog 135 #[.slice p n c, .slice q m d] w (Gives2 w 91 (dig B32 (a / b)) (dig B32 (a % b))) := by
  by_cases hab : a < b
  · rw [Nat.div_eq_of_lt hab, Nat.mod_eq_of_lt hab, dig_zero]
    exact div_less p q n m c d a b w hp hq hn hm (by omega) (by omega) hab
  · by_cases h1 : (dig B32 b).length = 1
    · have h2 := (dig_len_le B32_two b 1).1 (by omega)
      rw [Nat.pow_one] at h2
      have eb : dig B32 b = [b] := by rw [dig_pos B32_two hb, Nat.div_eq_of_lt h2, dig_zero, Nat.mod_eq_of_lt h2]
      rw [h1] at hm
      rw [eb] at hq
      exact div_small p q n m c d a b w hp hq hn hm (by omega) hb h2 (by omega)
    · have h0 : (dig B32 b).length ≠ 0 := by
        have := dig_len_zero B32_two b
        omega
      exact div_long p q n m c d a b w hp hq hn hm hl (by omega) (by omega)

end Go.Proofs.YtcipdimogodndaaDoor

namespace Go.Slip

end Go.Slip
namespace Go.Proofs.YtcipdimogodndaaDoor
open Go.RowKit Go.Slip

def rowCells (L : List Rw) : List Value := L.flatMap fun x => [.bool x.g, .slice x.p (dig B32 x.m).length x.c, .int .i64 x.e]

def RowW (w : World) (base : Nat) (v : Value) (L : List Rw) : Prop := w.ownsRow base 97 3 v L.length (rowCells L)

def Ov (w : World) (base0 base : Nat) (v : Value) (D : List Dv) : Prop := ∃ L : List Rw, RowW w base0 v L ∧ L.map Rw.v = D ∧ ∀ x ∈ L, InW w base x

def Off (v : Value) (k : Nat) : Prop := v.ownBlock ≠ some k

theorem Ov.nil (w : World) (base0 base : Nat) : Ov w base0 base (.slice none 0 0) [] := ⟨[], World.ownsRow_nil _ _ _ _, rfl, by simp⟩

theorem Ov.lt {w : World} {base0 base : Nat} {v : Value} {D : List Dv} (h : Ov w base0 base v D) : ∀ k, v.ownBlock = some k → base0 ≤ k ∧ k < w.heap.size := by
  obtain ⟨L, h1, _⟩ := h
  exact World.ownsRow.lt h1

theorem Ov.off {w : World} {base0 base : Nat} {v : Value} {D : List Dv} (h : Ov w base0 base v D) {k : Nat} (hk : k < base0 ∨ w.heap.size ≤ k) : Off v k := fun h1 => by
  have := h.lt k h1
  omega

theorem RowW.past {w w' : World} {base : Nat} {v : Value} {L : List Rw} (h : RowW w base v L) (hb : Below w.heap.size w w') : RowW w' base v L := by
  refine ⟨h.1, ?_⟩
  rcases h.2 with hn | ⟨g, cap, cur, hv, hbg, hg, r⟩
  · exact .inl hn
  · exact .inr ⟨g, cap, cur, hv, hbg, (hb.block _ (Array.getElem?_eq_some_iff.1 hg).1).trans hg, r⟩

theorem Ov.past {w w' : World} {base0 base : Nat} {v : Value} {D : List Dv} (h : Ov w base0 base v D) (hb : Below w.heap.size w w') : Ov w' base0 base v D := by
  obtain ⟨L, h1, h2, h3⟩ := h
  exact ⟨L, h1.past hb, h2, fun x hx => (h3 x hx).past hb⟩

theorem InW.grown {w w' : World} {base base2 : Nat} {x : Rw} {v : Value} {n : Nat} {xs : List Value} (h : InW w base x) (hg : w.grownBy w' v.ownBlock) (h2 : w.ownsRow base2 97 3 v n xs) : InW w' base x :=
  ⟨h.ow.grown hg (fun hp he => by
    rcases h2.2 with ⟨h3, _⟩ | ⟨g, cap, cur, hv, _, hgg, _⟩
    · rw [h3] at he; simp [Value.ownBlock] at he
    · rw [hv] at he
      simp only [Value.ownBlock, Option.some.injEq] at he
      exact h.ow.ne_tb (b := g) ⟨cur, (0, 0), hgg⟩ (by decide) hp he), h.len, h.lo, h.hi⟩

theorem Ov.grown {w w' : World} {base0 base base2 base3 : Nat} {v v2 : Value} {D D2 : List Dv} (h : Ov w base0 base v D) (hg : w.grownBy w' v2.ownBlock) (h2 : Ov w base2 base3 v2 D2) (hne : v.ownBlock = none ∨ v.ownBlock ≠ v2.ownBlock) : Ov w' base0 base v D := by
  obtain ⟨L, h3, h4, h5⟩ := h
  obtain ⟨L2, h6, _⟩ := h2
  exact ⟨L, h3.kept hg hne, h4, fun x hx => (h5 x hx).grown hg h6⟩

theorem _root_.Go.Slip.Bx.grown {w w' : World} {b : Nat} {v : Value} {vs : Array Value} (h : Bx w b vs) (hg : w.grownBy w' v.ownBlock) (hne : Off v b) : Bx w' b vs :=
  h.same (hg.block _ h.lt fun he => hne he.symm)

end Go.Proofs.YtcipdimogodndaaDoor

namespace Go.Slip

end Go.Slip
namespace Go.Proofs.YtcipdimogodndaaDoor
open Go.RowKit Go.Slip

theorem Tb.grown {w w' : World} {b : Nat} {t : TypeId} {v : Value} (h : Tb w b t) (hg : w.grownBy w' v.ownBlock) (hne : Off v b) : Tb w' b t := by
  have hl := h.lt
  obtain ⟨vs, fz, h⟩ := h
  exact ⟨vs, fz, (hg.block _ hl fun he => hne he.symm).trans h⟩

end Go.Proofs.YtcipdimogodndaaDoor

namespace Go.Proofs.YtcipdimogodndaaDoor
open Go.RowKit Go.Slip

structure In2 (w : World) (x : Din × Din) : Prop where
  a : InD w x.1
  b : InD w x.2
theorem In2.past {w w' : World} {x : Din × Din} (h : In2 w x) (hb : Below w.heap.size w w') : In2 w' x := ⟨h.a.past hb, h.b.past hb⟩

end Go.Proofs.YtcipdimogodndaaDoor

namespace Go.Proofs.YtcipdimogodndaaDoor
open Go.RowKit Go.Slip

structure InL (w : World) (base : Nat) (a : Rw) : Prop where
  ow : Own w base .u32 91 a.p a.c (dig B32 a.m)
  len : (dig B32 a.m).length ≤ 1000000
theorem InL.past {w w' : World} {base : Nat} {a : Rw} (h : InL w base a) (hb : Below w.heap.size w w') : InL w' base a := ⟨h.ow.past hb, h.len⟩

end Go.Proofs.YtcipdimogodndaaDoor

namespace Go.Proofs.YtcipdimogodndaaDoor
open Go.RowKit Go.Slip

theorem sof (N : Int) (n : Nat) (h : N = n) (hn : n < 9223372036854775808) (w : World) : Calls Tryd.prog 96 #[.int .i64 N] w (Gives w .u32 91 (dig B32 n)) := by
  subst h; exact of_any n w hn

theorem sadd (p q : Option Addr) (n m c d : Nat) (a b x : Nat) (w : World) (hp : Rd w .u32 p (dig B32 a)) (hq : Rd w .u32 q (dig B32 b)) (hn : n = (dig B32 a).length) (hm : m = (dig B32 b).length)
    (hl : (dig B32 a).length ≤ 1000000000) (hl2 : (dig B32 b).length ≤ 1000000000) (h : a + b = x) :
    Calls Tryd.prog 74 #[.slice p n c, .slice q m d] w (Gives w .u32 91 (dig B32 x)) := by
  subst h; exact add_any p q n m c d a b w hp hq hn hm hl hl2

end Go.Proofs.YtcipdimogodndaaDoor

namespace Go.Proofs.YtcipdimogodndaaDoor
open Go.RowKit Go.Slip

theorem tyV {P : Program} {t e : TypeId} {z : Value} {bytes : Nat} (h1 : P.underlying t = some (.slice e))
    (h2 : (P.info? e).map (fun i => (i.zero, i.size, i.bytes)) = some (some z, 1, bytes)) (h3 : bytes ≤ 16) (h4 : z.cells = #[z]) (h5 : z.oneCell' = true) : SlTyV P t e z bytes := by
  refine ⟨h1, ?_, h4, h5, h3⟩
  cases h : P.info? e with
  | none => rw [h] at h2; simp at h2
  | some i => rw [h] at h2; simp at h2; exact ⟨i, rfl, h2.1, h2.2.1, h2.2.2⟩
theorem tvBytes : SlTyV Tryd.prog 131 5 (.int .u8 0) 1 := tyV (by kernel_rfl) (by kernel_rfl) (by omega) rfl rfl
theorem ldByte : SxOne Tryd.prog 5 := sxOne_of (by kernel_rfl) (by kernel_rfl)
theorem ldU32 : SxOne Tryd.prog 91 := sxOne_of (by kernel_rfl) (by kernel_rfl)
theorem uBytes : Tryd.prog.underlying 131 = some (.slice 5) := by kernel_rfl
theorem uByte : Tryd.prog.underlying 5 = some (.int .u8) := by kernel_rfl
theorem uStr : Tryd.prog.underlying 9 = some .string := by kernel_rfl

theorem sshl (p : Option Addr) (n c : Nat) (a N x : Nat) (M : Int) (w : World) (hp : Rd w .u32 p (dig B32 a)) (hn : n = (dig B32 a).length) (hl : (dig B32 a).length ≤ 100000000) (hN : N ≤ 1000000000) (hM : M = N) (h : a * 2 ^ N = x) :
    Calls Tryd.prog 90 #[.slice p n c, .int .i64 M] w (Gives w .u32 91 (dig B32 x)) := by
  subst h hM; exact shl_any p n c a N w hp hn (by omega) hN
theorem sshr (p : Option Addr) (n c : Nat) (a N x : Nat) (M : Int) (w : World) (hp : Rd w .u32 p (dig B32 a)) (hn : n = (dig B32 a).length) (hc : (dig B32 a).length ≤ c) (hl : (dig B32 a).length ≤ 100000000) (hN : N ≤ 1000000000) (hM : M = N) (h : a / 2 ^ N = x) :
    Calls Tryd.prog 95 #[.slice p n c, .int .i64 M] w (Gives w .u32 91 (dig B32 x)) := by
  subst h hM; exact shr_any p n c a N w hp hn hc (by omega) hN
theorem ssub (p q : Option Addr) (n m c d : Nat) (a b x : Nat) (w : World) (hp : Rd w .u32 p (dig B32 a)) (hq : Rd w .u32 q (dig B32 b)) (hn : n = (dig B32 a).length) (hm : m = (dig B32 b).length)
    (hl : (dig B32 a).length ≤ 1000000000) (hab : b ≤ a) (h : a - b = x) :
    Calls Tryd.prog 92 #[.slice p n c, .slice q m d] w (Gives w .u32 91 (dig B32 x)) := by
  subst h; exact sub_any p q n m c d a b w hp hq hn hm hl hab
theorem two_any (N x : Nat) (M : Int) (w : World) (hN : N ≤ 1000000) (hM : M = N) (h : 2 ^ N = x) : Calls Tryd.prog 73 #[.int .i64 M] w (Gives w .u32 91 (dig B32 x)) := by
  subst hM
  have l1 : (dig B32 1).length ≤ 1 := by rw [dig_len_le B32_two]; unfold B32; omega
  refine calls_of_wp Tryd.func73 rfl ?_
  refine sx_frame (a' := ⟨((.int .i64 (N : Int)) :: us 5 []).toArray, []⟩) (by kernel_rfl) ?_
  refine yq ?_
  refine ye ?_
  refine yc 0 rfl 3 (sof 1 1 rfl (by omega) w) (fun Gx hGx => ?_)
  rintro eV1 V1 ⟨p3, c3, rfl, o3, hbV1⟩
  have hzV1 := hbV1.size
  refine ⟨_, rfl, hGx _ _ ?_⟩
  clear hGx Gx
  refine yc 1 rfl 5 (sshl p3 _ c3 1 N x _ V1 o3.rd rfl (by omega) (by omega) rfl (by omega)) (fun Gx hGx => ?_)
  rintro eV2 V2 ⟨p5, c5, rfl, o5, hbV2⟩
  have hzV2 := hbV2.size
  refine ⟨_, rfl, hGx _ _ ?_⟩
  clear hGx Gx
  refine yzt 1 ?_
  refine wp_ret ?_
  repeat (first | with_reducible refine sx_thenret ?_ | with_reducible refine sx_blockret ?_)
  refine yret (.slice p5 (dig B32 x).length c5) (res1 Tryd.results73 rvt) ?_
  exact ⟨p5, c5, rfl, o5.mono (by omega), (bthru hbV1 hbV2)⟩
theorem dig_le_pow {x n k : Nat} (h : x < 2 ^ n) (hk : n ≤ 32 * k) : (dig B32 x).length ≤ k := by
  rw [dig_len_le B32_two]
  unfold B32
  rw [show (4294967296 : Nat) = 2 ^ 32 from rfl, ← Nat.pow_mul]
  exact Nat.lt_of_lt_of_le h (Nat.pow_le_pow_right (by omega) hk)
end Go.Proofs.YtcipdimogodndaaDoor

namespace Go.Proofs.YtcipdimogodndaaDoor
open Go.RowKit Go.Slip

theorem dig_small {B d : Nat} (hB : 2 ≤ B) (h0 : 0 < d) (h : d < B) : dig B d = [d] := by
  rw [dig_pos hB h0, Nat.div_eq_of_lt h, dig_zero, Nat.mod_eq_of_lt h]

end Go.Proofs.YtcipdimogodndaaDoor

namespace Go.Slip
theorem be_take_succ (L : List Nat) (i : Nat) (h : i < L.length) : be (L.take i) * 2 ^ 8 + dg L i = be (L.take (i + 1)) := by
  rw [← List.take_append_getElem h, be_snoc, dg_of_lt h]
theorem nat_beq_one (n : Nat) : (((n : Nat) : Int) == 1) = (n == 1) := by
  rw [Bool.eq_iff_iff, beq_iff_eq, beq_iff_eq]; omega
theorem be_take_lt (L : List Nat) (i : Nat) (h : ∀ c ∈ L, c < 256) (hl : L.length ≤ 10) : be (L.take i) < 2 ^ 80 := by
  have h1 := be_lt (L.take i) (fun c hc => h c (List.mem_of_mem_take hc))
  refine Nat.lt_of_lt_of_le h1 (Nat.pow_le_pow_right (by omega) ?_)
  have : (L.take i).length ≤ L.length := by rw [List.length_take]; omega
  omega
theorem dg_bd {L : List Nat} (h : ∀ c ∈ L, c < 256) (i : Nat) : dg L i < 256 := by
  unfold dg
  cases e : L[i]? with
  | none => simp
  | some x => exact h x (List.mem_of_getElem? e)
theorem be0 (L : List Nat) : be (L.take 0) = 0 := by rw [List.take_zero]; rfl
end Go.Slip
namespace Go.Proofs.YtcipdimogodndaaDoor
open Go.RowKit Go.Slip

def numOfS (f : Fm) (s : ByteArray) : Nat := be (ordL f.ord (bytesOf s))
def GivesT (w : World) (g : Bool) (e x : Nat) (en : Ending) (w' : World) : Prop :=
  ∃ p c, en = .returned (.agg #[.bool g, .int .i64 (e : Int), .slice p (dig B32 x).length c]) ∧ Own w' w.heap.size .u32 91 p c (dig B32 x) ∧ Below w.heap.size w w'

theorem own_be0 (L : List Nat) (w : World) (b : Nat) : Own w b .u32 91 none 0 (dig B32 (be (L.take 0))) := by rw [be0, dig_zero]; exact Own.nil _ _ _ _

set_option maxRecDepth 100000 in
theorem split_any (f : Fm) (s : ByteArray) (w : World) (G : GoodF f) (hs : s.size = f.size) :
    Calls Tryd.prog 106 #[.agg #[.int .i64 ((f.size : Nat) : Int), .int .i64 ((f.E : Nat) : Int), .int .i64 ((f.F : Nat) : Int), .int .i64 f.g.rad, .int .i64 f.g.digs, .int .i64 f.g.lo, .int .i64 f.g.hi, .bool f.g.grad, .bool f.hid, .bool f.inf, .bool f.res, .func (.func (ordF f)) #[] #[]], .string s] w (GivesT w (f.neg (numOfS f s)) (f.exp (numOfS f s)) (f.frac (numOfS f s))) := by
  have z1 := G.sz
  have z2 := G.e2
  have z3 := G.f2
  have z4 := G.bits
  have hl0 : (bytesOf s).length = f.size := by rw [bytesOf_length, hs]
  have hlL : (ordL f.ord (bytesOf s)).length = f.size := by rw [ordL_len, hl0]
  have hbL := ordL_bytes (o := f.ord) (xs := bytesOf s) (fun _ => by omega) (bytesOf_lt s)
  have hord := fun (W : World) (base : Nat) (p : Option Addr) (c : Nat) h1 h2 => ord_any f base p s.size c (bytesOf s) W G h1 (bytesOf_length s).symm hl0 h2
  unfold numOfS
  generalize ordL f.ord (bytesOf s) = L at *
  have hNlt : be L < 2 ^ (8 * f.size) := by rw [← hlL]; exact be_lt L hbL
  have hst := fun i h => be_take_succ L i h
  have hlt := fun i => be_take_lt L i hbL (by omega)
  have hdg := dg_bd hbL
  have hfin : be (L.take f.size) = be L := by rw [List.take_of_length_le (by omega)]
  have hTlt : be L / 2 ^ f.F < 2 ^ (f.E + 1) := by
    rw [Nat.div_lt_iff_lt_mul (Nat.pow_pos (by omega)), ← Nat.pow_add, show f.E + 1 + f.F = 8 * f.size by omega]
    exact hNlt
  have hT16 : be L / 2 ^ f.F < 65536 := Nat.lt_of_lt_of_le hTlt (by rw [show (65536 : Nat) = 2 ^ 16 from rfl]; exact Nat.pow_le_pow_right (by omega) (by omega))
  have hN80 : be L < 2 ^ 80 := Nat.lt_of_lt_of_le hNlt (Nat.pow_le_pow_right (by omega) (by omega))
  have ef : f.frac (be L) = be L - be L / 2 ^ f.F * 2 ^ f.F := by
    unfold Fm.frac
    have := Nat.div_add_mod (be L) (2 ^ f.F)
    rw [Nat.mul_comm] at this
    omega
  have hle : be L / 2 ^ f.F * 2 ^ f.F ≤ be L := Nat.div_mul_le_self _ _
  have hlfr : (dig B32 (be L / 2 ^ f.F * 2 ^ f.F)).length ≤ 3 := dig_le_pow (Nat.lt_of_le_of_lt hle hN80) (by omega)
  rw [ef]
  unfold Fm.neg Fm.exp
  obtain ⟨T, hT⟩ : ∃ T, be L / 2 ^ f.F = T := ⟨_, rfl⟩
  rw [hT] at hTlt hT16 hle hlfr ⊢
  have hTl : (dig B32 T).length ≤ 1 := dig_le_pow (n := 32) (by omega) (by omega)
  have hT0 : (dig B32 T).length = 0 ↔ T = 0 := dig_len_zero B32_two T
  have hTd : 0 < (dig B32 T).length → dg (dig B32 T) 0 = T := fun h => by
    have h0 : 0 < T := by omega
    rw [dig_small B32_two h0 (by unfold B32; omega)]
    rfl
  have hla := fun i => dig_le_pow (hlt i) (k := 3) (by omega)
  have hlN := dig_le_pow hN80 (k := 3) (by omega)
  clear hNlt hlt hN80 ef hbL hl0
  have hsh := shl_one (E := f.E) (by omega)
  have h0T : 0 < 2 ^ f.E := Nat.pow_pos (by omega)
  have h0T2 : 2 ^ f.E ≤ 2 ^ 15 := Nat.pow_le_pow_right (by omega) (by omega)
  have hand := fun h => i64_and_low (x := T) (E := f.E) h (by omega)
  have hshr := shr_nat (x := T) (E := f.E) (by omega)
  have hand0 := fun h => i64_and_low (x := 0) (E := f.E) h (by omega)
  have hshr0 := shr_nat (x := 0) (E := f.E) (by omega)
  generalize hP : 2 ^ f.E = P at *
  have HAND := Lib.hid hand
  have HSHR := Lib.hid hshr
  have HAND0 := Lib.hid hand0
  have HSHR0 := Lib.hid hshr0
  have HSH := Lib.hid hsh
  have HFIN := Lib.hid hfin
  have HTT := Lib.hid hT
  clear hand hshr hand0 hshr0 hsh hfin hT
  have hT3 : SxOne Tryd.prog 3 := sxOne_of (by kernel_rfl) (by kernel_rfl)
  have hT114 : SxOne Tryd.prog 114 := sxOne_of (by kernel_rfl) (by kernel_rfl)
  have hT137 : SxAgg Tryd.prog 137 3 := sxAgg_of (by kernel_rfl) (by kernel_rfl)
  refine calls_of_wp Tryd.func106 rfl ?_
  refine sx_frame (a' := ⟨((.agg #[.int .i64 ((f.size : Nat) : Int), .int .i64 ((f.E : Nat) : Int), .int .i64 ((f.F : Nat) : Int), .int .i64 f.g.rad, .int .i64 f.g.digs, .int .i64 f.g.lo, .int .i64 f.g.hi, .bool f.g.grad, .bool f.hid, .bool f.inf, .bool f.res, .func (.func (ordF f)) #[] #[]]) :: (.string s) :: us 57 []).toArray, []⟩) (by kernel_rfl) ?_
  refine ye ?_
  refine yw 0 rfl 2 #[.int .i64 ((f.size : Nat) : Int), .int .i64 ((f.E : Nat) : Int), .int .i64 ((f.F : Nat) : Int), .int .i64 f.g.rad, .int .i64 f.g.digs, .int .i64 f.g.lo, .int .i64 f.g.hi, .bool f.g.grad, .bool f.hid, .bool f.inf, .bool f.res, .func (.func (ordF f)) #[] #[]] 116 (fun V1 hbV1 hzV1 b2 => ?_)
  refine yw 0 rfl 4 #[.bool false, .int .i64 0, .slice none 0 0] 137 (fun V2 hbV2 hzV2 b4 => ?_)
  refine yzt 0 ?_
  refine ye ?_
  refine yn 1 rfl ?_
  refine sby 12 uStr uBytes uByte s (fun p12 c12 V3 b12 hjV3 => ?_)
  have hbV3 : Below V2.heap.size V2 V3 := (Below.refl _ _).trans (hjV3.mono (by omega))
  have hzV3 := hbV3.size
  refine yzt 1 ?_
  refine ye ?_
  have b2_w3 := b2.past (bthru hbV2 hbV3)
  refine yl 1 rfl 14 b2_w3 hT114 11 ?_
  refine yn 1 rfl ?_
  refine se 16 (ordF f) #[.slice p12 s.size c12] (fun Gx hGx => ?_) (hr := exec_ord3 (ordF f) (ordF_is f) (by kernel_rfl) (by kernel_rfl))
  ((with_reducible refine (hord V3 V2.heap.size p12 c12 b12 (by omega)).mono ?_))
  rintro eV4 V4 ⟨rfl, x16, hjV4⟩
  have hbV4 : Below V2.heap.size V2 V4 := hbV3.trans (hjV4.mono (by omega))
  have hzV4 := hbV4.size
  refine ⟨.tuple #[], rfl, hGx _ _ ?_⟩
  clear hGx Gx
  refine yzt 0 ?_
  refine yq ?_
  refine wp_seq ?_
  refine ye ?_
  refine yv 1 rfl 18 (.int .i64 ((f.size : Nat) : Int)) ?_ (show _ = Result.ok (Next.value (.int .i64 ((f.size : Nat) : Int))) _ from by rw [← hs]; kernel_rfl)
  refine yzt 1 ?_
  refine wp_block ?_
  refine sx_frame (a' := ⟨((.agg #[.int .i64 ((f.size : Nat) : Int), .int .i64 ((f.E : Nat) : Int), .int .i64 ((f.F : Nat) : Int), .int .i64 f.g.rad, .int .i64 f.g.digs, .int .i64 f.g.lo, .int .i64 f.g.hi, .bool f.g.grad, .bool f.hid, .bool f.inf, .bool f.res, .func (.func (ordF f)) #[] #[]]) :: (.string s) :: (.pointer (some ⟨w.heap.size, 0, none⟩)) :: undef :: (.pointer (some ⟨V1.heap.size, 0, none⟩)) :: (.slice p12 s.size c12) :: (.slice none 0 0) :: us 4 ((.string s) :: (.slice p12 s.size c12) :: (.pointer (some ⟨w.heap.size, 11, none⟩)) :: (.func (.func (ordF f)) #[] #[]) :: (.slice p12 s.size c12) :: (.tuple #[]) :: (.slice p12 s.size c12) :: (.int .i64 ((f.size : Nat) : Int)) :: (.int .i64 0) :: us 39 [])).toArray, []⟩) (by kernel_rfl) ?_
  refine sx_loop2 (fun (gk : Nat) U0 a' w' => ∃ (i : Nat) (p6 : Option Addr) (c6 : Nat) (n6 : Nat), a' = ⟨((.agg #[.int .i64 ((f.size : Nat) : Int), .int .i64 ((f.E : Nat) : Int), .int .i64 ((f.F : Nat) : Int), .int .i64 f.g.rad, .int .i64 f.g.digs, .int .i64 f.g.lo, .int .i64 f.g.hi, .bool f.g.grad, .bool f.hid, .bool f.inf, .bool f.res, .func (.func (ordF f)) #[] #[]]) :: (.string s) :: (.pointer (some ⟨w.heap.size, 0, none⟩)) :: undef :: (.pointer (some ⟨V1.heap.size, 0, none⟩)) :: (.slice p12 s.size c12) :: (.slice p6 n6 c6) :: undef :: (U0 8) :: us 2 ((.string s) :: (.slice p12 s.size c12) :: (.pointer (some ⟨w.heap.size, 11, none⟩)) :: (.func (.func (ordF f)) #[] #[]) :: (.slice p12 s.size c12) :: (.tuple #[]) :: (.slice p12 s.size c12) :: (.int .i64 ((f.size : Nat) : Int)) :: (.int .i64 ((i : Nat) : Int)) :: uvs U0 20 10 (us 29 []))).toArray, []⟩ ∧ (Own w' V4.heap.size .u32 91 p6 c6 (dig B32 (be (L.take i)))) ∧ Below V4.heap.size V4 w' ∧ (n6 = (dig B32 (be (L.take i))).length) ∧ (gk + i = f.size)) f.size ?_ (fun Gx hGx => ?_)
  · skip
    exact ⟨0, none, 0, 0, by kernel_rfl, own_be0 L _ _, Below.refl _ _, by rw [be0, dig_zero]; rfl, (by omega)⟩
  rintro gk0 U0 _ V5 ⟨i, p6, c6, n6, rfl, o6, hbV5, hn6, hgk⟩
  refine hGx _ _ _ ?_
  clear hGx Gx
  have hzV5 := hbV5.size
  refine ye ?_
  rcases Bool.eq_false_or_eq_true (decide (((i : Nat) : Int) < ((f.size : Nat) : Int))) with f20 | f20
  · skip
    refine yb 0 rfl 20 (decide (((i : Nat) : Int) < ((f.size : Nat) : Int))) (true) (f20) ?_
    refine yzt 0 ?_
    refine yTs ?_
    refine wp_skip ?_
    refine sx_then ?_
    refine wp_seq ?_
    refine wp_block ?_
    refine ye ?_
    replace x16 := (x16.past hbV5)
    refine yv 0 rfl 21 (.pointer (some (at_ p12 i))) ?_ (exec_ix (p := p12) (n := s.size) (c := c12) (m := i) tyBytes (by have h := x16.rd.solid; rw [hlL, ← hs] at h; exact h) (by kernel_rfl) (by kernel_rfl) (by have := of_decide_eq_true f20; omega))
    refine yv 0 rfl 22 (.int .u8 ((dg L i : Nat) : Int)) ?_ (exec_ldr x16.rd ldByte (m := i) (by kernel_rfl) (by have := of_decide_eq_true f20; omega) rfl)
    refine yzt 1 ?_
    refine sx_region ?_
    refine yc 1 rfl 24 (sshl p6 _ c6 (be (L.take i)) 8 _ 8 V5 o6.rd hn6 (by have := hla i; omega) (by omega) rfl rfl) (fun Gx hGx => ?_)
    rintro eV6 V6 ⟨p24, c24, rfl, o24, hbV6⟩
    have hzV6 := hbV6.size
    refine ⟨_, rfl, hGx _ _ ?_⟩
    clear hGx Gx
    refine ya 1 rfl 26 .i64 ((dg L i : Nat) : Int) (((dg L i : Nat) : Int)) ((IntWalk.i64_in _ (by have := hdg i; omega))) ?_
    refine yc 0 rfl 27 (sof _ (dg L i) rfl (by have := hdg i; omega) V6) (fun Gx hGx => ?_)
    rintro eV7 V7 ⟨p27, c27, rfl, o27, hbV7⟩
    have hzV7 := hbV7.size
    refine ⟨_, rfl, hGx _ _ ?_⟩
    clear hGx Gx
    replace o24 := (o24.past hbV7)
    refine yc 0 rfl 28 (sadd p24 p27 _ _ c24 c27 (be (L.take i) * 2 ^ 8) (dg L i) (be (L.take (i + 1))) V7 o24.rd o27.rd rfl rfl (by have := dig_len_mono B32_two (show be (L.take i) * 2 ^ 8 ≤ be (L.take (i + 1)) by have := hst i (by have := of_decide_eq_true f20; omega); omega); have := hla (i + 1); omega) (by have := dig_len_mono B32_two (show dg L i ≤ be (L.take (i + 1)) by have := hst i (by have := of_decide_eq_true f20; omega); omega); have := hla (i + 1); omega) (hst i (by have := of_decide_eq_true f20; omega))) (fun Gx hGx => ?_)
    rintro eV8 V8 ⟨p28, c28, rfl, o28, hbV8⟩
    have hzV8 := hbV8.size
    refine ⟨_, rfl, hGx _ _ ?_⟩
    clear hGx Gx
    refine yz 1 ?_
    refine sx_inblock ?_
    refine sx_then ?_
    refine sx_region ?_
    refine ya 0 rfl 29 .i64 (((i : Nat) : Int) + 1) (((i + 1 : Nat) : Int)) ((by rw [show (((i : Nat) : Int) + 1) = ((i + 1 : Nat) : Int) by omega]; exact IntWalk.i64_in _ (by have := of_decide_eq_true f20; omega))) ?_
    refine yz 1 ?_
    refine sx_then ?_
    refine ⟨gk0 - 1, (by have := of_decide_eq_true f20; omega), ?_⟩
    exact ⟨i + 1, p28, c28, _, by kernel_rfl, o28.mono (by omega), (bthru (bthru (bthru hbV5 hbV6) hbV7) hbV8), rfl, (by have := of_decide_eq_true f20; omega)⟩
  refine yb 0 rfl 20 (decide (((i : Nat) : Int) < ((f.size : Nat) : Int))) (false) (f20) ?_
  refine yzt 0 ?_
  refine yFs ?_
  refine wp_exit ?_
  repeat (with_reducible refine sx_thenexit ?_)
  refine sx_exit (id := 0) ?_
  refine sx_then ?_
  have hi : i = f.size := by have := of_decide_eq_false f20; omega
  rw [hi, HFIN.out] at o6 hn6
  refine ye ?_
  have b2_w5 := b2.past (bthru (bthru hbV2 hbV4) hbV5)
  refine yl 2 rfl 32 b2_w5 hT3 2 ?_
  refine yc 0 rfl 33 (sshr p6 _ c6 (be L) f.F T _ V5 o6.rd hn6 (by have := o6.le_cap; omega) (by omega) (by omega) rfl HTT.out) (fun Gx hGx => ?_)
  rintro eV6 V6 ⟨p33, c33, rfl, o33, hbV6⟩
  have hzV6 := hbV6.size
  refine ⟨_, rfl, hGx _ _ ?_⟩
  clear hGx Gx
  refine yzt 1 ?_
  refine yq ?_
  refine wp_seq ?_
  refine ye ?_
  rcases Bool.eq_false_or_eq_true (decide ((((dig B32 T).length : Nat) : Int) > 0)) with f36 | f36
  · skip
    refine yb 2 rfl 36 (decide ((((dig B32 T).length : Nat) : Int) > 0)) (true) (f36) ?_
    refine yzt 0 ?_
    refine yT ?_
    refine sx_region ?_
    refine yv 1 rfl 38 (.pointer (some (at_ p33 0))) ?_ (exec_ix (p := p33) (n := (dig B32 T).length) (c := c33) (m := 0) tyNat o33.rd.solid (by kernel_rfl) (by kernel_rfl) (by have := of_decide_eq_true f36; omega))
    refine yv 0 rfl 39 (.int .u32 ((T : Nat) : Int)) ?_ (exec_ldr o33.rd ldU32 (m := 0) (by kernel_rfl) (by have := of_decide_eq_true f36; omega) (by rw [hTd (by have := of_decide_eq_true f36; omega)]))
    refine yi 0 rfl 40 ((T : Nat) : Int) ?_
    refine yz 1 ?_
    refine sx_then ?_
    refine wp_seq ?_
    have b2_w6 := b2.past (bthru (bthru (bthru hbV2 hbV4) hbV5) hbV6)
    obtain ⟨V7, hVV7, hbV7, hzV7⟩ := drew_of V6
    have b2_w7 := b2.past (bthru (bthru (bthru (bthru hbV2 hbV4) hbV5) hbV6) hbV7)
    refine yd1 hVV7 b2_w7 ?_
    clear hVV7
    refine yt 17 [0, 1] rfl b2_w7 ?_
    refine ytl 2 rfl 43 (fun _ h => h) hT3 1 b2_w7 ?_
    refine tk 3 44 (.int .i64 ((T / P : Nat) : Int)) b2_w7 ?_ (hy := fun w' _ => (exec_shr (X := ((T : Nat) : Int)) (Y := ((f.E : Nat) : Int)) (k2 := .i64) ((T / P : Nat) : Int) (by kernel_rfl) (by kernel_rfl) (Int.natCast_nonneg f.E) ((by first | exact HSHR.out | (rw [hT0.1 (by have := of_decide_eq_false f36; omega)]; exact HSHR0.out)))))
    refine tk 4 45 (.bool (T / P == 1)) b2_w7 ?_ (hy := fun w' _ => ((show _ = Result.ok (Next.value (.bool (((T / P : Nat) : Int) == 1))) _ from (by kernel_rfl)).trans (congrArg (fun z => Result.ok (Next.value (.bool z)) _) (show (((T / P : Nat) : Int) == 1) = ((T / P == 1)) from (by exact nat_beq_one _)))))
    refine yt 12 [5, 6] rfl b2_w7 ?_
    refine ytl 7 rfl 48 (fun _ h => h) hT3 1 b2_w7 ?_
    refine tk 8 49 (.int .i64 ((P : Nat) : Int)) b2_w7 ?_ (hy := fun w' _ => (exec_shl (X := (1)) (Y := ((f.E : Nat) : Int)) (k2 := .i64) ((P : Nat) : Int) (by kernel_rfl) (by kernel_rfl) (Int.natCast_nonneg f.E) ((HSH.out))))
    refine tk 9 50 (.int .i64 ((P - 1 : Nat) : Int)) b2_w7 ?_ (hy := fun w' _ => ((show _ = Result.ok (Next.value (.int .i64 (IntKind.wrap .i64 (((P : Nat) : Int) - 1)))) _ by kernel_rfl).trans (congrArg (fun z => Result.ok (Next.value (.int .i64 z)) _) ((by rw [show (((P : Nat) : Int) - 1) = ((P - 1 : Nat) : Int) by omega]; exact IntWalk.i64_in _ (by omega))))))
    refine tk 10 51 (.int .i64 ((T % P : Nat) : Int)) b2_w7 ?_ (hy := fun w' _ => (exec_and (X := ((T : Nat) : Int)) (Y := (((P - 1 : Nat) : Int))) ((T % P : Nat) : Int) (by kernel_rfl) (by kernel_rfl) ((by first | exact HAND.out (by omega) | (rw [hT0.1 (by have := of_decide_eq_false f36; omega)]; exact HAND0.out (by omega))))))
    refine yt 5 [11, 12, 13] rfl b2_w7 ?_
    refine ytl 14 rfl 55 (fun _ h => h) hT3 2 b2_w7 ?_
    refine sxr [15] ?_
    refine rd1 (fun Kx hKx => ?_)
    replace o33 := (o33.past hbV7)
    refine yck 56 (sshl p33 _ c33 T f.F (T * 2 ^ f.F) _ V7 o33.rd rfl (by omega) (by omega) rfl rfl) ?_
    rintro eV8 V8 ⟨p56, c56, rfl, o56, hbV8⟩
    have hzV8 := hbV8.size
    refine ⟨_, rfl, ?_⟩
    have b2_w8 := b2.past (bthru (bthru (bthru (bthru (bthru hbV2 hbV4) hbV5) hbV6) hbV7) hbV8)
    refine hKx.out _ _ b2_w8 ?_
    clear hKx Kx
    refine sxr [16] ?_
    refine rd1 (fun Kx hKx => ?_)
    replace o6 := (o6.past (bthru (bthru hbV6 hbV7) hbV8))
    refine yck 57 (ssub p6 p56 _ _ c6 c56 (be L) (T * 2 ^ f.F) (be L - T * 2 ^ f.F) V8 o6.rd o56.rd hn6 rfl (by omega) hle rfl) ?_
    rintro eV9 V9 ⟨p57, c57, rfl, o57, hbV9⟩
    have hzV9 := hbV9.size
    refine ⟨_, rfl, ?_⟩
    have b2_w9 := b2.past (bthru (bthru (bthru (bthru (bthru (bthru hbV2 hbV4) hbV5) hbV6) hbV7) hbV8) hbV9)
    refine hKx.out _ _ b2_w9 ?_
    clear hKx Kx
    refine yt 1 [17] rfl b2_w9 ?_
    refine sxr [18] ?_
    refine rd1 (fun Kx hKx => ?_)
    replace b4 := (b4.past (bthru (bthru (bthru (bthru (bthru hbV4 hbV5) hbV6) hbV7) hbV8) hbV9))
    refine ssk none b4 hT137 0 #[.bool (T / P == 1), .int .i64 ((T % P : Nat) : Int), .slice p57 (dig B32 (be L - T * 2 ^ f.F)).length c57] #[.bool (T / P == 1), .int .i64 ((T % P : Nat) : Int), .slice p57 (dig B32 (be L - T * 2 ^ f.F)).length c57] ?_
    have boV10 := b4
    clear b4
    intro V10 hOV10 b4
    have hzV10 := hOV10.size
    have b2_w10 := b2.past ((bthru (bthru (bthru (bthru (bthru (bthru hbV2 hbV4) hbV5) hbV6) hbV7) hbV8) hbV9).trans (hOV10.below (by omega)))
    refine hKx.out _ _ b2_w10 ?_
    clear hKx Kx
    refine sx_done (by kernel_rfl) ?_
    refine sx_then ?_
    refine wp_ret ?_
    repeat (first | with_reducible refine sx_thenret ?_ | with_reducible refine sx_blockret ?_)
    refine yret (.agg #[.bool (T / P == 1), .int .i64 ((T % P : Nat) : Int), .slice p57 (dig B32 (be L - T * 2 ^ f.F)).length c57]) (res1 Tryd.results106 (rvr b4 hT137)) ?_
    replace o57 := (o57.put boV10 hOV10 (by kernel_rfl))
    exact ⟨p57, c57, rfl, o57.mono (by omega), ((bthru (bthru (bthru (bthru (bthru (bthru (bthru hbV1 hbV2) hbV4) hbV5) hbV6) hbV7) hbV8) hbV9).trans (hOV10.below (by omega)))⟩
  refine yb 2 rfl 36 (decide ((((dig B32 T).length : Nat) : Int) > 0)) (false) (f36) ?_
  refine yzt 0 ?_
  refine yF ?_
  refine wp_skip ?_
  refine sx_then ?_
  refine wp_seq ?_
  have b2_w6 := b2.past (bthru (bthru (bthru hbV2 hbV4) hbV5) hbV6)
  obtain ⟨V7, hVV7, hbV7, hzV7⟩ := drew_of V6
  have b2_w7 := b2.past (bthru (bthru (bthru (bthru hbV2 hbV4) hbV5) hbV6) hbV7)
  refine yd1 hVV7 b2_w7 ?_
  clear hVV7
  refine yt 17 [0, 1] rfl b2_w7 ?_
  refine ytl 2 rfl 43 (fun _ h => h) hT3 1 b2_w7 ?_
  refine tk 3 44 (.int .i64 ((T / P : Nat) : Int)) b2_w7 ?_ (hy := fun w' _ => (exec_shr (X := (0)) (Y := ((f.E : Nat) : Int)) (k2 := .i64) ((T / P : Nat) : Int) (by kernel_rfl) (by kernel_rfl) (Int.natCast_nonneg f.E) ((by first | exact HSHR.out | (rw [hT0.1 (by have := of_decide_eq_false f36; omega)]; exact HSHR0.out)))))
  refine tk 4 45 (.bool (T / P == 1)) b2_w7 ?_ (hy := fun w' _ => ((show _ = Result.ok (Next.value (.bool (((T / P : Nat) : Int) == 1))) _ from (by kernel_rfl)).trans (congrArg (fun z => Result.ok (Next.value (.bool z)) _) (show (((T / P : Nat) : Int) == 1) = ((T / P == 1)) from (by exact nat_beq_one _)))))
  refine yt 12 [5, 6] rfl b2_w7 ?_
  refine ytl 7 rfl 48 (fun _ h => h) hT3 1 b2_w7 ?_
  refine tk 8 49 (.int .i64 ((P : Nat) : Int)) b2_w7 ?_ (hy := fun w' _ => (exec_shl (X := (1)) (Y := ((f.E : Nat) : Int)) (k2 := .i64) ((P : Nat) : Int) (by kernel_rfl) (by kernel_rfl) (Int.natCast_nonneg f.E) ((HSH.out))))
  refine tk 9 50 (.int .i64 ((P - 1 : Nat) : Int)) b2_w7 ?_ (hy := fun w' _ => ((show _ = Result.ok (Next.value (.int .i64 (IntKind.wrap .i64 (((P : Nat) : Int) - 1)))) _ by kernel_rfl).trans (congrArg (fun z => Result.ok (Next.value (.int .i64 z)) _) ((by rw [show (((P : Nat) : Int) - 1) = ((P - 1 : Nat) : Int) by omega]; exact IntWalk.i64_in _ (by omega))))))
  refine tk 10 51 (.int .i64 ((T % P : Nat) : Int)) b2_w7 ?_ (hy := fun w' _ => (exec_and (X := (0)) (Y := (((P - 1 : Nat) : Int))) ((T % P : Nat) : Int) (by kernel_rfl) (by kernel_rfl) ((by first | exact HAND.out (by omega) | (rw [hT0.1 (by have := of_decide_eq_false f36; omega)]; exact HAND0.out (by omega))))))
  refine yt 5 [11, 12, 13] rfl b2_w7 ?_
  refine ytl 14 rfl 55 (fun _ h => h) hT3 2 b2_w7 ?_
  refine sxr [15] ?_
  refine rd1 (fun Kx hKx => ?_)
  replace o33 := (o33.past hbV7)
  refine yck 56 (sshl p33 _ c33 T f.F (T * 2 ^ f.F) _ V7 o33.rd rfl (by omega) (by omega) rfl rfl) ?_
  rintro eV8 V8 ⟨p56, c56, rfl, o56, hbV8⟩
  have hzV8 := hbV8.size
  refine ⟨_, rfl, ?_⟩
  have b2_w8 := b2.past (bthru (bthru (bthru (bthru (bthru hbV2 hbV4) hbV5) hbV6) hbV7) hbV8)
  refine hKx.out _ _ b2_w8 ?_
  clear hKx Kx
  refine sxr [16] ?_
  refine rd1 (fun Kx hKx => ?_)
  replace o6 := (o6.past (bthru (bthru hbV6 hbV7) hbV8))
  refine yck 57 (ssub p6 p56 _ _ c6 c56 (be L) (T * 2 ^ f.F) (be L - T * 2 ^ f.F) V8 o6.rd o56.rd hn6 rfl (by omega) hle rfl) ?_
  rintro eV9 V9 ⟨p57, c57, rfl, o57, hbV9⟩
  have hzV9 := hbV9.size
  refine ⟨_, rfl, ?_⟩
  have b2_w9 := b2.past (bthru (bthru (bthru (bthru (bthru (bthru hbV2 hbV4) hbV5) hbV6) hbV7) hbV8) hbV9)
  refine hKx.out _ _ b2_w9 ?_
  clear hKx Kx
  refine yt 1 [17] rfl b2_w9 ?_
  refine sxr [18] ?_
  refine rd1 (fun Kx hKx => ?_)
  replace b4 := (b4.past (bthru (bthru (bthru (bthru (bthru hbV4 hbV5) hbV6) hbV7) hbV8) hbV9))
  refine ssk none b4 hT137 0 #[.bool (T / P == 1), .int .i64 ((T % P : Nat) : Int), .slice p57 (dig B32 (be L - T * 2 ^ f.F)).length c57] #[.bool (T / P == 1), .int .i64 ((T % P : Nat) : Int), .slice p57 (dig B32 (be L - T * 2 ^ f.F)).length c57] ?_
  have boV10 := b4
  clear b4
  intro V10 hOV10 b4
  have hzV10 := hOV10.size
  have b2_w10 := b2.past ((bthru (bthru (bthru (bthru (bthru (bthru hbV2 hbV4) hbV5) hbV6) hbV7) hbV8) hbV9).trans (hOV10.below (by omega)))
  refine hKx.out _ _ b2_w10 ?_
  clear hKx Kx
  refine sx_done (by kernel_rfl) ?_
  refine sx_then ?_
  refine wp_ret ?_
  repeat (first | with_reducible refine sx_thenret ?_ | with_reducible refine sx_blockret ?_)
  refine yret (.agg #[.bool (T / P == 1), .int .i64 ((T % P : Nat) : Int), .slice p57 (dig B32 (be L - T * 2 ^ f.F)).length c57]) (res1 Tryd.results106 (rvr b4 hT137)) ?_
  replace o57 := (o57.put boV10 hOV10 (by kernel_rfl))
  exact ⟨p57, c57, rfl, o57.mono (by omega), ((bthru (bthru (bthru (bthru (bthru (bthru (bthru hbV1 hbV2) hbV4) hbV5) hbV6) hbV7) hbV8) hbV9).trans (hOV10.below (by omega)))⟩

end Go.Proofs.YtcipdimogodndaaDoor
