/- Steps of a walk in as few words as may be: what only reckons goes by itself (for texts that sx.py prints). No program is in sight here. -/
import Derived.Laws.Sem
import Derived.Deep.LoopGhost
import Derived.Lib.ConvBytes
import Derived.Deep.RegionLaw
import Derived.Test.YtmacohmclpnphaaDoorYg1
import Derived.Test.YtmacohmclpnphaaDoorYg2
set_option maxHeartbeats 8000000
set_option maxRecDepth 100000
namespace Go.Slip
open Go.RowKit
def us : Nat → List Value → List Value
 | 0, l => l
 | n + 1, l => undef :: us n l
def uvs (U : Nat → Value) : Nat → Nat → List Value → List Value
 | _, 0, l => l
 | i, n + 1, l => U i :: uvs U (i + 1) n l
def runN (P : Program) (ops : Array Oper) : Nat → List Oper → Act → World → Option (Act × World)
 | 0, _, a, w => some (a, w)
 | _ + 1, [], _, _ => none
 | n + 1, o :: l, a, w =>
  match Region.wanted o (yielded ops a.tmps) with
  | true => match (execOp a.eval o).run P w with
   | .ok (.value v) w' => runN P ops n l (a.put o.dst v) w'
   | _ => none
  | false => runN P ops n l (a.put o.dst undef) w
def actN (P : Program) (ops : Array Oper) (n : Nat) (l : List Oper) (a : Act) (w : World) : Act := match runN P ops n l a w with | some (a', _) => a' | none => a
section
variable {P : Program} {ops : Array Oper} {Q : Exit → Act → World → Prop}
theorem i0c : ∀ (n : Nat) (l : List Oper) (a : Act) (w : World) (a' : Act) (w' : World), runN P ops n l a w = some (a', w') → WpL P ops Q (l.drop n) a' w' → WpL P ops Q l a w
 | 0, l, a, w, a', w', h, k => by
  simp only [runN, Option.some.injEq, Prod.mk.injEq] at h
  obtain ⟨rfl, rfl⟩ := h
  exact k
 | n + 1, [], a, w, a', w', h, k => by simp [runN] at h
 | n + 1, o :: l, a, w, a', w', h, k => by
  unfold runN at h
  split at h
  · rename_i hw
    split at h
    · rename_i v w2 hr
      refine b0z ⟨?_⟩
      rw [if_pos hw]
      unfold Oper.wp
      rw [hr]
      exact i0c n l _ _ a' w' h k
    · cases h
  · rename_i hw
    refine b0z ⟨?_⟩
    rw [if_neg (by simp [hw])]
    exact i0c n l _ _ a' w' h k
variable {a : Act} {w : World} {l l' : List Oper} {o : Oper}
theorem yn (n : Nat) (hs : l.drop n = l') (h : WpL P ops Q l' (actN P ops n l a w) w) (hr : runN P ops n l a w = some (actN P ops n l a w, w) := by kernel_rfl) : WpL P ops Q l a w :=
 i0c n l a w _ _ hr (by rw [hs]; exact h)
theorem yv (n : Nat) (hs : l.drop n = o :: l') (d : Nat) (v : Value) (h : WpL P ops Q l' ((actN P ops n l a w).put (some d) v) w) (hv : (execOp (actN P ops n l a w).eval o).run P w = .ok (.value v) w := by kernel_rfl)
 (hd : o.dst = some d := by kernel_rfl) (hw : Region.wanted o (yielded ops (actN P ops n l a w).tmps) = true := by kernel_rfl) (hr : runN P ops n l a w = some (actN P ops n l a w, w) := by kernel_rfl) : WpL P ops Q l a w :=
 yn n hs (sv d v h hv hd hw) hr
theorem ya (n : Nat) (hs : l.drop n = o :: l') (d : Nat) (k : IntKind) (e t : Int) (hp : k.wrap e = t) (h : WpL P ops Q l' ((actN P ops n l a w).put (some d) (.int k t)) w) (hv : (execOp (actN P ops n l a w).eval o).run P w = .ok (.value (.int k (k.wrap e))) w := by kernel_rfl)
 (hd : o.dst = some d := by kernel_rfl) (hw : Region.wanted o (yielded ops (actN P ops n l a w).tmps) = true := by kernel_rfl) (hr : runN P ops n l a w = some (actN P ops n l a w, w) := by kernel_rfl) : WpL P ops Q l a w :=
 yv n hs d _ h (by rw [← hp]; exact hv) hd hw hr
theorem yi (n : Nat) (hs : l.drop n = o :: l') (d : Nat) (e : Int) (h : WpL P ops Q l' ((actN P ops n l a w).put (some d) (.int .i64 e)) w) (hp : IntKind.i64.wrap e = e := by (exact iwo)) (hv : (execOp (actN P ops n l a w).eval o).run P w = .ok (.value (.int .i64 (IntKind.i64.wrap e))) w := by kernel_rfl)
 (hd : o.dst = some d := by kernel_rfl) (hw : Region.wanted o (yielded ops (actN P ops n l a w).tmps) = true := by kernel_rfl) (hr : runN P ops n l a w = some (actN P ops n l a w, w) := by kernel_rfl) : WpL P ops Q l a w :=
 ya n hs d .i64 e e hp h hv hd hw hr
theorem yb (n : Nat) (hs : l.drop n = o :: l') (d : Nat) (e b : Bool) (hp : e = b) (h : WpL P ops Q l' ((actN P ops n l a w).put (some d) (.bool b)) w) (hv : (execOp (actN P ops n l a w).eval o).run P w = .ok (.value (.bool e)) w := by kernel_rfl)
 (hd : o.dst = some d := by kernel_rfl) (hw : Region.wanted o (yielded ops (actN P ops n l a w).tmps) = true := by kernel_rfl) (hr : runN P ops n l a w = some (actN P ops n l a w, w) := by kernel_rfl) : WpL P ops Q l a w :=
 yv n hs d _ h (by rw [← hp]; exact hv) hd hw hr
theorem i0d {o : Oper} {ty : TypeId} {x : Operand} {b : Nat} {t : TypeId} {vs : Array Value} (ho : o.op = .load ty x) (hX : Bt w b t vs) (hT : e0a P ty) (off : Nat) (hx : a.eval x = .pointer (some ⟨b, off, none⟩)) (hc : (vs[off]?).isSome = true) :
 (execOp a.eval o).run P w = .ok (.value (vs[off]?.getD undef)) w := by
 cases o
 simp only at ho
 subst ho
 refine v0f hx (v0e hX hT off _ ?_)
 cases hv : vs[off]? with
 | none => rw [hv] at hc; cases hc
 | some v => rfl
theorem yl (n : Nat) (hs : l.drop n = o :: l') (d : Nat) {ty : TypeId} {x : Operand} {b : Nat} {t : TypeId} {vs : Array Value} (hX : Bt w b t vs) (hT : e0a P ty) (off : Nat) (h : WpL P ops Q l' ((actN P ops n l a w).put (some d) (vs[off]?.getD undef)) w)
 (ho : o.op = .load ty x := by rfl) (hx : (actN P ops n l a w).eval x = .pointer (some ⟨b, off, none⟩) := by kernel_rfl) (hc : (vs[off]?).isSome = true := by kernel_rfl)
 (hd : o.dst = some d := by kernel_rfl) (hw : Region.wanted o (yielded ops (actN P ops n l a w).tmps) = true := by kernel_rfl) (hr : runN P ops n l a w = some (actN P ops n l a w, w) := by kernel_rfl) : WpL P ops Q l a w :=
 yv n hs d _ h (i0d ho hX hT off hx hc) hd hw hr
theorem ylb (n : Nat) (hs : l.drop n = o :: l') (d : Nat) {ty : TypeId} {x : Operand} {b : Nat} {t : TypeId} {vs : Array Value} (hX : Bt w b t vs) (hT : e0a P ty) (off : Nat) (e c : Bool) (hp : e = c) (h : WpL P ops Q l' ((actN P ops n l a w).put (some d) (.bool c)) w)
 (he : vs[off]?.getD undef = .bool e := by kernel_rfl) (ho : o.op = .load ty x := by rfl) (hx : (actN P ops n l a w).eval x = .pointer (some ⟨b, off, none⟩) := by kernel_rfl) (hc : (vs[off]?).isSome = true := by kernel_rfl)
 (hd : o.dst = some d := by kernel_rfl) (hw : Region.wanted o (yielded ops (actN P ops n l a w).tmps) = true := by kernel_rfl) (hr : runN P ops n l a w = some (actN P ops n l a w, w) := by kernel_rfl) : WpL P ops Q l a w :=
 yv n hs d _ h (by rw [← hp, ← he]; exact i0d ho hX hT off hx hc) hd hw hr
theorem yw (n : Nat) (hs : l.drop n = o :: l') (d : Nat) (vs : Array Value) (t : TypeId) (h : ∀ W, Below w.heap.size w W → W.heap.size = w.heap.size + 1 → Bt W w.heap.size t vs → WpL P ops Q l' ((actN P ops n l a w).put (some d) (.pointer (some ⟨w.heap.size, 0, none⟩))) W)
 (hd : o.dst = some d := by kernel_rfl) (hw : Region.wanted o (yielded ops (actN P ops n l a w).tmps) = true := by kernel_rfl) (hv : (execOp (actN P ops n l a w).eval o).run P w = .ok (.value (.pointer (some ⟨w.heap.size, 0, none⟩))) (w.alloc (.cells vs t)) := by kernel_rfl)
 (hr : runN P ops n l a w = some (actN P ops n l a w, w) := by kernel_rfl) : WpL P ops Q l a w := yn n hs (sn d vs t h hd hw hv) hr
theorem yc (n : Nat) (hs : l.drop n = o :: l') (d : Nat) {f : FuncId} {args : Array Value} {post : Ending → World → Prop} (hc : Calls P f args w post)
 (h : ∀ G : Act → World → Prop, (∀ a w, WpL P ops Q l' a w → G a w) → ∀ e w', post e w' → ∃ v, e = .returned v ∧ G ((actN P ops n l a w).put (some d) v) w')
 (hv : (execOp (actN P ops n l a w).eval o).run P w = .ok (.enter f args) w := by kernel_rfl) (hd : o.dst = some d := by kernel_rfl) (hw : Region.wanted o (yielded ops (actN P ops n l a w).tmps) = true := by kernel_rfl)
 (hr : runN P ops n l a w = some (actN P ops n l a w, w) := by kernel_rfl) : WpL P ops Q l a w := yn n hs (se d f args (fun G hG => hc.mono (h G hG)) hd hw hv) hr
theorem yck {K : Act → World → Prop} (d : Nat) {f : FuncId} {args : Array Value} {post : Ending → World → Prop} (hc : Calls P f args w post) (h : ∀ e w', post e w' → ∃ v, e = .returned v ∧ K (a.put (some d) v) w')
 (hv : (execOp a.eval o).run P w = .ok (.enter f args) w := by kernel_rfl) (hd : o.dst = some d := by kernel_rfl) (hw : Region.wanted o (yielded ops a.tmps) = true := by kernel_rfl) : OpW P ops Q o K a w := sek d f args (hc.mono h) hd hw hv
theorem ys (n : Nat) (hs : l.drop n = o :: l') {ty : TypeId} {x y : Operand} {b : Nat} {t : TypeId} {vs : Array Value} (hX : Bt w b t vs) {k : Nat} (hT : d0z P ty k) (off : Nat) (cs vs' : Array Value) (h : ∀ W, Only b w W → Bt W b t vs' → WpL P ops Q l' ((actN P ops n l a w).put none undef) W)
 (hd : o.dst = none := by kernel_rfl) (hw : Region.wanted o (yielded ops (actN P ops n l a w).tmps) = true := by kernel_rfl) (ho : o.op = .store ty x y := by rfl) (hx : (actN P ops n l a w).eval x = .pointer (some ⟨b, off, none⟩) := by kernel_rfl) (hy : (actN P ops n l a w).eval y = .agg cs := by kernel_rfl)
 (hn : cs.size = k := by kernel_rfl) (hle' : Nat.ble (off + k) vs.size = true := by kernel_rfl) (h1 : cs.all (·.oneCell') = true := by kernel_rfl) (hv : putL vs off cs.toList = vs' := by kernel_rfl)
 (hr : runN P ops n l a w = some (actN P ops n l a w, w) := by kernel_rfl) : WpL P ops Q l a w := yn n hs (ss none hX hT off cs vs' h hd hw ho hx hy hn hle' h1 hv) hr
theorem ysw (n : Nat) (hs : l.drop n = o :: l') {ty : TypeId} {x y : Operand} {b : Nat} {t : TypeId} {vs : Array Value} (hX : Bt w b t vs) {k : Nat} (hT : d0z P ty k) (cs : Array Value) (h : ∀ W, Only b w W → Bt W b t cs → WpL P ops Q l' ((actN P ops n l a w).put none undef) W)
 (hd : o.dst = none := by kernel_rfl) (hw : Region.wanted o (yielded ops (actN P ops n l a w).tmps) = true := by kernel_rfl) (ho : o.op = .store ty x y := by rfl) (hx : (actN P ops n l a w).eval x = .pointer (some ⟨b, 0, none⟩) := by kernel_rfl) (hy : (actN P ops n l a w).eval y = .agg cs := by kernel_rfl)
 (hn : cs.size = k := by kernel_rfl) (hle' : Nat.ble (0 + k) vs.size = true := by kernel_rfl) (h1 : cs.all (·.oneCell') = true := by kernel_rfl) (hv : putL vs 0 cs.toList = cs := by kernel_rfl)
 (hr : runN P ops n l a w = some (actN P ops n l a w, w) := by kernel_rfl) : WpL P ops Q l a w := yn n hs (ss none hX hT 0 cs cs h hd hw ho hx hy hn hle' h1 hv) hr
theorem yz (n : Nat) (h : Q .normal (actN P ops n l a w) w) (hs : l.drop n = [] := by rfl) (hr : runN P ops n l a w = some (actN P ops n l a w, w) := by kernel_rfl) : WpL P ops Q l a w := yn n hs ⟨h⟩ hr
theorem yzt {next : Act → World → Prop} (n : Nat) (h : next (actN P ops n l a w) w) (hs : l.drop n = [] := by rfl) (hr : runN P ops n l a w = some (actN P ops n l a w, w) := by kernel_rfl) : WpL P ops (Exit.then next Q) l a w := yn (Q := Exit.then next Q) n hs ⟨h⟩ hr
end
section
variable {P : Program} {Q : Exit → Act → World → Prop} {a : Act} {w : World} {l : List Oper} {c c1 c2 : Code} {id : Nat} {x : Operand}
theorem yq (h : c.wp P Q (actN P l.toArray l.length l a w) w) (hr : runN P l.toArray l.length l a w = some (actN P l.toArray l.length l a w, w) := by kernel_rfl) : (Code.seq (Code.region id l.toArray false) c).wp P Q a w :=
 wp_seq (b0o (yn (Q := Exit.then (c.wp P Q) Q) l.length List.drop_length ⟨h⟩ hr))
theorem ye (h : WpL P l.toArray (Exit.then (c.wp P Q) Q) l a w) : (Code.seq (Code.region id l.toArray false) c).wp P Q a w := wp_seq (b0o h)
theorem yT (h : c1.wp P Q a w) (hx : a.eval x = .bool true := by kernel_rfl) : (Code.cond x c1 c2).wp P Q a w := wp_cond_true hx h
theorem yF (h : c2.wp P Q a w) (hx : a.eval x = .bool false := by kernel_rfl) : (Code.cond x c1 c2).wp P Q a w := wp_cond_false hx h
theorem yTs (h : c1.wp P (Exit.then (c.wp P Q) Q) a w) (hx : a.eval x = .bool true := by kernel_rfl) : (Code.seq (Code.cond x c1 c2) c).wp P Q a w := wp_seq (wp_cond_true hx h)
theorem yFs (h : c2.wp P (Exit.then (c.wp P Q) Q) a w) (hx : a.eval x = .bool false := by kernel_rfl) : (Code.seq (Code.cond x c1 c2) c).wp P Q a w := wp_seq (wp_cond_false hx h)
end
section
variable {P : Program} {fn : Func} {R : Ending → World → Prop} {a : Act} {w : World}
def rvS (tmps : Array Value) : ResultVar → Sem Value
 | .tmp t => pure (tmps.getD t undef)
 | .cell a t => do loadVar t (← asAddr (tmps.getD a undef))
structure Rv (P : Program) (w : World) (tmps : Array Value) (r : ResultVar) (v : Value) : Prop where
 out : (rvS tmps r).run P w = .ok v w
theorem rvt {tmps : Array Value} {t : Tmp} : Rv P w tmps (.tmp t) (tmps.getD t undef) := ⟨by simp [rvS]⟩
theorem rvr {tmps : Array Value} {s : Tmp} {ty : TypeId} {b : Nat} {t : TypeId} {cs : Array Value} {k : Nat} (hX : Bt w b t cs) (hT : d0z P ty k) (hx : tmps.getD s undef = .pointer (some ⟨b, 0, none⟩) := by kernel_rfl) (hc : cs.size = k := by kernel_rfl) : Rv P w tmps (.cell s ty) (.agg cs) := by
 refine ⟨?_⟩
 have h2 := a1r hX hT 0 cs.toList (by rw [List.drop_zero, List.take_length]) (by rw [Array.length_toList, hc])
 simp only [Instr.loadAt, Instr.sureAddr, Sem.run_bind, Sem.run_pure, Result.andThen_ok] at h2
 simp only [rvS, Sem.run_bind, Sem.run_pure, Result.andThen_ok, hx, asAddr, h2, Array.toArray_toList]
theorem e0s (tmps : Array Value) : results fn tmps = (do
    let vs ← fn.results.mapM (rvS tmps)
    pure (if h : vs.size = 1 then vs[0] else .tuple vs)) := by
 unfold results
 congr 1
theorem res0 (hf : fn.results = #[]) : (results fn a.tmps).run P w = .ok (.tuple #[]) w := by
 rw [e0s, hf]
 simp
theorem res1 {r : ResultVar} {v : Value} (hf : fn.results = #[r]) (h : Rv P w a.tmps r v) : (results fn a.tmps).run P w = .ok v w := by
 rw [e0s, hf]
 simp [h.out]
theorem res2 {r r2 : ResultVar} {v v2 : Value} (hf : fn.results = #[r, r2]) (h : Rv P w a.tmps r v) (h2 : Rv P w a.tmps r2 v2) : (results fn a.tmps).run P w = .ok (.tuple #[v, v2]) w := by
 rw [e0s, hf]
 simp [h.out, h2.out]
theorem res3 {r r2 r3 : ResultVar} {v v2 v3 : Value} (hf : fn.results = #[r, r2, r3]) (h : Rv P w a.tmps r v) (h2 : Rv P w a.tmps r2 v2) (h3 : Rv P w a.tmps r3 v3) : (results fn a.tmps).run P w = .ok (.tuple #[v, v2, v3]) w := by
 rw [e0s, hf]
 simp [h.out, h2.out, h3.out]
theorem yret {u : Value} (v : Value) (r : (results fn a.tmps).run P w = .ok u w) (h : R (.returned v) w) (hv : u = v := by kernel_rfl) (hd : a.defers = [] := by kernel_rfl) : bodyPost P fn R .ret a w := bodyPost_ret (by rw [← hv]; exact r) hd h
theorem yend {u : Value} (v : Value) (r : (results fn a.tmps).run P w = .ok u w) (h : R (.returned v) w) (hv : u = v := by kernel_rfl) (hd : a.defers = [] := by kernel_rfl) : bodyPost P fn R .normal a w := bodyPost_end (by rw [← hv]; exact r) hd h
end
/-! ### Drawn regions -/
section
variable {P : Program} {ops : Array Oper} {Q : Exit → Act → World → Prop} {S : World → Prop} {a : Act} {w V : World} {fuel fuel' : Nat} {listed : Array Bool}
theorem m0j (w : World) : ∃ V, V = w.drew ∧ Below w.heap.size w V ∧ V.heap.size = w.heap.size := ⟨_, rfl, (Below.refl _ _).drew, rfl⟩
theorem yd1 (hV : V = w.drew) {b : Nat} {t : TypeId} {vs : Array Value} (hX : Bt V b t vs) {id : Nat} (h : WpH P ops Q (fun w' => Bt w' b t vs) ops.size (Array.replicate ops.size false) a V) (hm : P.follows .mixedOrders = true := by kernel_rfl) : (Code.region id ops true).wp P Q a w := sxd P _ hV hX h hm
theorem yd2 (hV : V = w.drew) {b b2 : Nat} {t t2 : TypeId} {vs vs2 : Array Value} (hX : Bt V b t vs ∧ Bt V b2 t2 vs2) {id : Nat} (h : WpH P ops Q (fun w' => Bt w' b t vs ∧ Bt w' b2 t2 vs2) ops.size (Array.replicate ops.size false) a V) (hm : P.follows .mixedOrders = true := by kernel_rfl) : (Code.region id ops true).wp P Q a w := sxd P _ hV hX h hm
def valT (P : Program) (o : Oper) (a : Act) (V : World) : Value := match (execOp a.eval o).run P V with | .ok (.value v) _ => v | _ => undef
def actT (P : Program) (ops : Array Oper) : List Nat → Act → World → Act
 | [], a, _ => a
 | i :: is, a, V => match ops[i]? with
  | some o => match Region.wanted o (yielded ops a.tmps) with
   | true => actT P ops is (a.put o.dst (valT P o a V)) V
   | false => actT P ops is (a.put o.dst undef) V
  | none => a
def seqT (P : Program) (ops : Array Oper) : List Nat → Act → World → World → List (Result Next)
 | [], _, _, _ => []
 | i :: is, a, V, w => match ops[i]? with
  | some o => match Region.wanted o (yielded ops a.tmps) with
   | true => (execOp a.eval o).run P w :: seqT P ops is (a.put o.dst (valT P o a V)) V w
   | false => seqT P ops is (a.put o.dst undef) V w
  | none => [.ok .skip w]
def expT (P : Program) (ops : Array Oper) : List Nat → Act → World → World → List (Result Next)
 | [], _, _, _ => []
 | i :: is, a, V, w => match ops[i]? with
  | some o => match Region.wanted o (yielded ops a.tmps) with
   | true => .ok (.value (valT P o a V)) w :: expT P ops is (a.put o.dst (valT P o a V)) V w
   | false => expT P ops is (a.put o.dst undef) V w
  | none => []
def okT (ops : Array Oper) : List Nat → Array Bool → Bool
 | [], _ => true
 | i :: is, l => Region.free .any ops l i && ((Region.ready .any ops l).contains i && okT ops is (l.setIfInBounds i true))
def y0o : List Nat → Array Bool → Array Bool
 | [], l => l
 | i :: is, l => y0o is (l.setIfInBounds i true)
theorem putQ (hQ : ∀ c a (d : Nat) v w, Q (.panic c) (a.put (some d) v) w → Q (.panic c) a w) (c : List PanicEntry) (a : Act) (d : Option Tmp) (v : Value) (w : World) (h : Q (.panic c) (a.put d v) w) : Q (.panic c) a w := by
 cases d with
 | none => exact h
 | some d => exact hQ c a d v w h
theorem g0y (hs : Region.noSelect ops = true) (hQ : ∀ c a (d : Nat) v w, Q (.panic c) (a.put (some d) v) w → Q (.panic c) a w) (hS : S V) : ∀ (is : List Nat) (fuel : Nat) (listed : Array Bool) (a : Act), okT ops is listed = true → (∀ w', S w' → seqT P ops is a V w' = expT P ops is a V w') →
 WpH P ops Q S fuel (y0o is listed) (actT P ops is a V) V → WpH P ops Q S (fuel + is.length) listed a V
 | [], fuel, listed, a, _, _, h => h
 | i :: is, fuel, listed, a, ho, hr, h => by
  unfold okT at ho
  rw [Bool.and_eq_true, Bool.and_eq_true] at ho
  obtain ⟨h1, h2, h3⟩ := ho
  unfold actT at h
  unfold seqT expT at hr
  unfold y0o at h
  cases hi : ops[i]? with
  | none => rw [hi] at hr; have := hr V hS; simp at this
  | some o =>
   rw [hi] at h hr
   simp only at h hr
   cases hw : Region.wanted o (yielded ops a.tmps) with
   | true =>
    rw [hw] at h hr
    simp only [List.cons.injEq] at h hr
    exact i0b (fuel := fuel + is.length) i o.dst (valT P o a V) _ hi rfl rfl hs h1 h2 (fun c a w => putQ hQ c a _ _ w) (.inl ⟨hw, fun w' hS' => (hr w' hS').1⟩) hS (g0y hs hQ hS is fuel _ _ h3 (fun w' hS' => (hr w' hS').2) h)
   | false =>
    rw [hw] at h hr
    simp only at h hr
    exact i0b (fuel := fuel + is.length) i o.dst undef _ hi rfl rfl hs h1 h2 (fun c a w => putQ hQ c a _ _ w) (.inr ⟨hw, rfl⟩) hS (g0y hs hQ hS is fuel _ _ h3 hr h)
theorem yt (fuel : Nat) (is : List Nat) (hf : fuel' = fuel + is.length) (hS : S V) (h : WpH P ops Q S fuel (y0o is listed) (actT P ops is a V) V) (hr : ∀ w', S w' → seqT P ops is a V w' = expT P ops is a V w' := by intro _ _; kernel_rfl) (ho : okT ops is listed = true := by kernel_rfl)
 (hQ : ∀ c a (d : Nat) v w, Q (.panic c) (a.put (some d) v) w → Q (.panic c) a w := by first | exact fun _ _ _ _ _ h => h | exact fun _ _ _ _ _ h => j0r h) (hs : Region.noSelect ops = true := by kernel_rfl) : WpH P ops Q S fuel' listed a V := by
 subst hf
 exact g0y hs hQ hS is fuel listed a ho hr h
theorem ytl (i : Nat) {oi : Oper} (hi : ops[i]? = some oi) (d : Nat) {ty : TypeId} {x : Operand} {b : Nat} {t : TypeId} {vs : Array Value} (hX : ∀ w', S w' → Bt w' b t vs) (hT : e0a P ty) (off : Nat) (hS : S V) (h : WpH P ops Q S fuel (listed.setIfInBounds i true) (a.put (some d) (vs[off]?.getD undef)) V)
 (ho : oi.op = .load ty x := by rfl) (hx : a.eval x = .pointer (some ⟨b, off, none⟩) := by kernel_rfl) (hc : (vs[off]?).isSome = true := by kernel_rfl) (hd : oi.dst = some d := by kernel_rfl)
 (hs : Region.noSelect ops = true := by kernel_rfl) (hf : Region.free .any ops listed i = true := by kernel_rfl) (hr : (Region.ready .any ops listed).contains i = true := by kernel_rfl)
 (hQ : ∀ c a (d : Nat) v w, Q (.panic c) (a.put (some d) v) w → Q (.panic c) a w := by first | exact fun _ _ _ _ _ h => h | exact fun _ _ _ _ _ h => j0r h) (hw : Region.wanted oi (yielded ops a.tmps) = true := by kernel_rfl) : WpH P ops Q S (fuel + 1) listed a V :=
 tk i d _ hS h (fun w' h' => i0d ho (hX w' h') hT off hx hc) hi hd hs hf hr (fun c a w => hQ c a _ _ w) hw
end
inductive SV where
 | v (x : Value)
 | p (k off : Nat)
 | s (k off n c : Nat)
 | a (cs : List Value) (ks : List (Option Nat))
 | f (fn : Fn) (cs : List Value) (ks : List (Option Nat))
def lk {α : Type} (d : α) : List α → Nat → α
 | [], _ => d
 | a :: _, 0 => a
 | _ :: l, n + 1 => lk d l n
def setL {α : Type} : List α → Nat → α → List α
 | [], _, _ => []
 | _ :: l, 0, v => v :: l
 | a :: l, n + 1, v => a :: setL l n v
theorem e0b {α : Type} (d : α) : ∀ (l : List α) (n : Nat), lk d l n = (l[n]?).getD d
 | [], _ => by simp [lk]
 | a :: _, 0 => by simp [lk]
 | _ :: l, n + 1 => by simp [lk, e0b d l n]
theorem d0s {α : Type} : ∀ (l : List α) (n : Nat) (v : α), setL l n v = l.set n v
 | [], _, _ => by simp [setL]
 | _ :: _, 0, _ => rfl
 | _ :: l, n + 1, v => by simp [setL, d0s l n v]
def j0s (A : List Nat) : Option Nat → Value → Value
 | some k, .pointer (some ⟨_, off, _⟩) => .pointer (some ⟨lk 0 A k, off, none⟩)
 | some k, .slice (some ⟨_, off, _⟩) n c => .slice (some ⟨lk 0 A k, off, none⟩) n c
 | _, v => v
def d0k (A : List Nat) : List Value → List (Option Nat) → List Value
 | v :: vs, k :: ks => j0s A k v :: d0k A vs ks
 | vs, _ => vs
def SV.r (A : List Nat) : SV → Value
 | .v x => x
 | .p k off => .pointer (some ⟨lk 0 A k, off, none⟩)
 | .s k off n c => .slice (some ⟨lk 0 A k, off, none⟩) n c
 | .a cs ks => .agg (d0k A cs ks).toArray
 | .f fn cs ks => .func fn #[] (d0k A cs ks).toArray
def act (A : List Nat) (fr : List SV) : Act := ⟨(fr.map (SV.r A)).toArray, []⟩
def ev (fr : List SV) : Operand → SV
 | .tmp t => lk (.v undef) fr t
 | .const v => .v v
 | .global g => .v (.pointer (some ⟨g, 0, none⟩))
 | .func f => .v (.func (.func f) #[] #[])
def evr (A : List Nat) (fr : List SV) (x : Operand) : Value := (ev fr x).r A
theorem v0i (A : List Nat) (fr : List SV) (t : Nat) : (act A fr).tmps[t]? = (fr[t]?).map (SV.r A) := by simp [act]
theorem c0g (A : List Nat) (fr : List SV) : (act A fr).eval = evr A fr := by
 funext x
 cases x with
 | tmp t =>
  show (act A fr).tmps.getD t undef = SV.r A (lk _ fr t)
  rw [Array.getD_eq_getD_getElem?, v0i, e0b]
  cases fr[t]? <;> rfl
 | const v => rfl
 | global g => rfl
 | func f => rfl
def putO (fr : List SV) (d : Option Tmp) (x : SV) : List SV := match d with | some d => setL fr d x | none => fr
theorem d0p (A : List Nat) (fr : List SV) (d : Option Tmp) (x : SV) : (act A fr).put d (x.r A) = act A (putO fr d x) := by
 cases d with
 | none => rfl
 | some d =>
  show (⟨(fr.map (SV.r A)).toArray.setIfInBounds d (x.r A), []⟩ : Act) = ⟨((setL fr d x).map (SV.r A)).toArray, []⟩
  rw [d0s, List.map_set]
  simp
def wnt (ops : Array Oper) (fr : List SV) (o : Oper) : Bool :=
 match o.guard with
 | none => true
 | some (j, b) => match (ops[j]?).bind (·.dst) with
  | some d => match lk (.v undef) fr d with
   | .v (.bool c) => match b with | true => c | false => !c
   | _ => false
  | none => false
theorem f0m (A : List Nat) (ops : Array Oper) (fr : List SV) (o : Oper) : Region.wanted o (yielded ops (act A fr).tmps) = wnt ops fr o := by
 unfold Region.wanted wnt
 cases o.guard with
 | none => rfl
 | some jb =>
  obtain ⟨j, b⟩ := jb
  simp only
  unfold yielded
  cases (ops[j]?).bind (·.dst) with
  | none => rfl
  | some d =>
   simp only [Option.bind_some, v0i, e0b]
   cases h : fr[d]? with
   | none => rfl
   | some x =>
    simp only [Option.map_some, Option.getD_some]
    cases x with
    | v x => cases x with
     | bool c => cases b <;> cases c <;> rfl
     | _ => rfl
    | p k off => rfl
    | s k off n c => rfl
    | a cs ks => rfl
    | f fn cs ks => rfl
/-! ### Boxes, facts -/
structure Box where
 t : TypeId
 cs : List SV
 ro : Bool
def Box.row (A : List Nat) (b : Box) : Array Value := (b.cs.map (SV.r A)).toArray
def bx0 : Box := ⟨0, [], false⟩
structure PF where
 prop : World → Prop
 foot : Nat → Prop
 keep : ∀ W W', prop W → (∀ b, b < W.heap.size → foot b → W'.heap[b]? = W.heap[b]?) → W.heap.size ≤ W'.heap.size → prop W'
 lt : ∀ W b, prop W → foot b → b < W.heap.size
def PF.all (W : World) : List PF → Prop
 | [] => True
 | f :: l => f.prop W ∧ PF.all W l
def PF.far (a : Nat) : List PF → Prop
 | [] => True
 | f :: l => ¬ f.foot a ∧ PF.far a l
theorem PF.all_keep {W W' : World} (hs : W.heap.size ≤ W'.heap.size) : ∀ {l : List PF}, PF.all W l → (∀ b, b < W.heap.size → (∀ a, PF.far a l → a ≠ b) → W'.heap[b]? = W.heap[b]?) → PF.all W' l
 | [], _, _ => True.intro
 | f :: _, h, hb => ⟨f.keep W W' h.1 (fun b hl hf => hb b hl fun _ ha hab => ha.1 (hab ▸ hf)) hs, PF.all_keep hs h.2 fun b hl ha => hb b hl fun _ h1 => ha _ h1.2⟩
theorem PF.far_new {W : World} : ∀ {l : List PF}, PF.all W l → PF.far W.heap.size l
 | [], _ => True.intro
 | f :: _, h => ⟨fun hf => Nat.lt_irrefl _ (f.lt W _ h.1 hf), PF.far_new h.2⟩
structure Kp (E : List Nat) (w w' : World) : Prop where
 os : w'.os = w.os
 tape : w'.tape = w.tape
 output : w'.output = w.output
 size : w.heap.size ≤ w'.heap.size
 block : ∀ k, k < w.heap.size → k ∉ E → w'.heap[k]? = w.heap[k]?
theorem Kp.refl (E : List Nat) (w : World) : Kp E w w := ⟨rfl, rfl, rfl, Nat.le_refl _, fun _ _ _ => rfl⟩
theorem Kp.step {E : List Nat} {w w1 w2 : World} (h : Kp E w w1) (k : Below w1.heap.size w1 w2) : Kp E w w2 :=
 ⟨k.os.trans h.os, k.tape.trans h.tape, k.output.trans h.output, Nat.le_trans h.size k.size, fun i hi hn => (k.block i (Nat.lt_of_lt_of_le hi h.size)).trans (h.block i hi hn)⟩
theorem Kp.put {E : List Nat} {w w1 w2 : World} {a : Nat} (h : Kp E w w1) (k : Only a w1 w2) (ha : w.heap.size ≤ a ∨ a ∈ E) : Kp E w w2 :=
 ⟨k.os.trans h.os, k.tape.trans h.tape, k.output.trans h.output, by rw [k.size]; exact h.size, fun i hi hn => (k.block i (fun e => by subst e; rcases ha with ha | ha; omega; exact hn ha)).trans (h.block i hi hn)⟩
def Fa (A : List Nat) (bx : List Box) (a : Nat) : Prop := ∃ k, k < bx.length ∧ (lk bx0 bx k).ro = false ∧ a = lk 0 A k
structure Inv (E : List Nat) (w0 : World) (A : List Nat) (bx : List Box) (fs : List PF) (W : World) : Prop where
 bel : Kp E w0 W
 ge : ∀ a, Fa A bx a → w0.heap.size ≤ a ∨ a ∈ E
 nd : ∀ i j, i < bx.length → j < bx.length → (lk bx0 bx i).ro = false → i ≠ j → lk 0 A i ≠ lk 0 A j
 len : A.length = bx.length
 pre : E <+: A
 bt : ∀ k, k < bx.length → Bt W (lk 0 A k) (lk bx0 bx k).t ((lk bx0 bx k).row A)
 fa : PF.all W fs
 far : ∀ a, Fa A bx a → PF.far a fs
theorem Inv.below {w0 : World} {A : List Nat} {bx : List Box} {fs : List PF} {W : World} (I : Inv [] w0 A bx fs W) : Below w0.heap.size w0 W :=
 ⟨I.bel.os, I.bel.tape, I.bel.output, I.bel.size, fun k hk => I.bel.block k hk (by simp)⟩
theorem Fa.nil {a : Nat} (h : Fa [] [] a) : False := by
 obtain ⟨k, hk, _⟩ := h
 simp at hk
theorem Inv.start (w : World) (fs : List PF) (h : PF.all w fs) : Inv [] w [] [] fs w :=
 ⟨Kp.refl _ _, fun _ h => h.nil.elim, fun _ _ h => by simp at h, rfl, List.prefix_refl _, fun _ h => by simp at h, h, fun _ h => h.nil.elim⟩
section
variable {E : List Nat} {w0 : World} {A : List Nat} {bx : List Box} {fs : List PF} {W W' : World}
theorem Inv.lt (I : Inv E w0 A bx fs W) : ∀ a, Fa A bx a → a < W.heap.size := fun a ⟨k, hk, _, e⟩ => by
 subst e
 exact (I.bt k hk).lt
theorem Inv.past (I : Inv E w0 A bx fs W) (hb : Below W.heap.size W W') : Inv E w0 A bx fs W' :=
 ⟨I.bel.step hb, I.ge, I.nd, I.len, I.pre, fun k hk => (I.bt k hk).past hb, PF.all_keep hb.size I.fa fun b hl _ => hb.block b hl, I.far⟩
theorem Inv.add (I : Inv E w0 A bx fs W) (f : PF) (h : f.prop W) (hf : ∀ a, Fa A bx a → ¬ f.foot a) : Inv E w0 A bx (f :: fs) W :=
 ⟨I.bel, I.ge, I.nd, I.len, I.pre, I.bt, ⟨h, I.fa⟩, fun a ha => ⟨hf a ha, I.far a ha⟩⟩
end
def BtOk (A : List Nat) (bx : List Box) (W : World) : Prop := ∀ k, k < bx.length → 0 < (lk bx0 bx k).cs.length → Bt W (lk 0 A k) (lk bx0 bx k).t ((lk bx0 bx k).row A)
theorem Inv.ok {E : List Nat} {w0 : World} {A : List Nat} {bx : List Box} {fs : List PF} {W : World} (I : Inv E w0 A bx fs W) : BtOk A bx W := fun k hk _ => I.bt k hk
/-! ### What an operation does -/
inductive Eff where
 | val (x : SV)
 | new (t : TypeId) (cs : List SV) (n : Option Nat)
 | st (k : Nat) (cs : List SV)
 | stop
def mkS : Option Nat → Nat → SV
 | none, k => .p k 0
 | some n, k => .s k 0 n n
def rowT (P : Program) (ty : TypeId) : Option Bool := (P.underlying ty).map (·.isRow)
def szT (P : Program) (ty : TypeId) : Option Nat := (P.info? ty).map (·.size)
def c0h : List SV → Option (List Value)
 | [] => some []
 | .v x :: l => match c0h l with | some r => some (x :: r) | none => none
 | _ :: _ => none
theorem g0k (A : List Nat) : ∀ {l : List SV} {r : List Value}, c0h l = some r → l.map (SV.r A) = r
 | [], r, h => by simp [c0h] at h; simp [h]
 | .v x :: l, r, h => by
  unfold c0h at h
  split at h
  · rename_i r' hr
    simp only [Option.some.injEq] at h
    rw [← h, List.map_cons, g0k A hr]; rfl
  · cases h
 | .p _ _ :: _, r, h => by simp [c0h] at h
 | .s _ _ _ _ :: _, r, h => by simp [c0h] at h
 | .a _ _ :: _, r, h => by simp [c0h] at h
 | .f _ _ _ :: _, r, h => by simp [c0h] at h
def own1 : SV → Option Nat
 | .p k _ => some k
 | .s k _ _ _ => some k
 | _ => none
def y0p : List SV → Bool
 | [] => true
 | .a _ _ :: _ => false
 | .f _ _ _ :: _ => false
 | _ :: l => y0p l
def mkA (l : List SV) : SV := match c0h l with
 | some r => .v (.agg r.toArray)
 | none => .a (l.map (SV.r [])) (l.map own1)
theorem h0m (A : List Nat) : ∀ {l : List SV}, y0p l = true → d0k A (l.map (SV.r [])) (l.map own1) = l.map (SV.r A)
 | [], _ => rfl
 | .v x :: l, h => by
  show j0s A none x :: d0k A (l.map (SV.r [])) (l.map own1) = x :: l.map (SV.r A)
  rw [h0m A (l := l) h]
  rfl
 | .p k off :: l, h => by
  show j0s A (some k) (.pointer (some ⟨lk 0 [] k, off, none⟩)) :: d0k A (l.map (SV.r [])) (l.map own1) = .pointer (some ⟨lk 0 A k, off, none⟩) :: l.map (SV.r A)
  rw [h0m A (l := l) h]
  rfl
 | .s k off n c :: l, h => by
  show j0s A (some k) (.slice (some ⟨lk 0 [] k, off, none⟩) n c) :: d0k A (l.map (SV.r [])) (l.map own1) = .slice (some ⟨lk 0 A k, off, none⟩) n c :: l.map (SV.r A)
  rw [h0m A (l := l) h]
  rfl
 | .a _ _ :: _, h => by cases h
 | .f _ _ _ :: _, h => by cases h
theorem g1f (A : List Nat) {l : List SV} (h : y0p l = true) : (mkA l).r A = .agg (l.map (SV.r A)).toArray := by
 unfold mkA
 split
 · rename_i r hr
   rw [g0k A hr]
   rfl
 · show Value.agg (d0k A _ _).toArray = _
   rw [h0m A h]
def spl : Option Nat → Value → SV
 | some k, .pointer (some ⟨_, off, _⟩) => .p k off
 | some k, .slice (some ⟨_, off, _⟩) n c => .s k off n c
 | _, v => .v v
def splL : List Value → List (Option Nat) → List SV
 | v :: vs, k :: ks => spl k v :: splL vs ks
 | vs, _ => vs.map .v
theorem g1g (A : List Nat) (k : Option Nat) (v : Value) : (spl k v).r A = j0s A k v := by
 unfold spl j0s
 split <;> rfl
theorem a1s (A : List Nat) : ∀ (vs : List Value) (ks : List (Option Nat)), (splL vs ks).map (SV.r A) = d0k A vs ks
 | v :: vs, k :: ks => by
  show (spl k v).r A :: (splL vs ks).map (SV.r A) = j0s A k v :: d0k A vs ks
  rw [g1g, a1s A vs ks]
 | [], [] => rfl
 | [], _ :: _ => rfl
 | v :: vs, [] => by
  show ((v :: vs).map SV.v).map (SV.r A) = v :: vs
  rw [List.map_map]
  exact List.map_id _
def ldB (P : Program) (bx : List Box) (ty : TypeId) (k off : Nat) : Option SV :=
 match Nat.ble (k + 1) bx.length with
 | false => none
 | true => match rowT P ty with
  | some true => match szT P ty with
   | some n => match Nat.beq (((lk bx0 bx k).cs.drop off).take n).length n && (Nat.ble 1 (lk bx0 bx k).cs.length && y0p (((lk bx0 bx k).cs.drop off).take n)) with
    | true => some (mkA (((lk bx0 bx k).cs.drop off).take n))
    | false => none
   | none => none
  | some false => match szT P ty with
   | some 1 => match Nat.ble (off + 1) (lk bx0 bx k).cs.length with | true => some (lk (.v undef) (lk bx0 bx k).cs off) | false => none
   | _ => none
  | none => none
def e1n : SV → List SV
 | .v x => x.cells.toList.map .v
 | .a cs ks => splL cs ks
 | x => [x]
def v0j : SV → Option (List SV)
 | .v (.agg cs) => some (cs.toList.map .v)
 | .a cs ks => some (splL cs ks)
 | _ => none
theorem y0q (A : List Nat) {x : SV} {l : List SV} (h : v0j x = some l) : x.r A = .agg (l.map (SV.r A)).toArray := by
 unfold v0j at h
 split at h
 · rename_i cs
   simp only [Option.some.injEq] at h
   subst h
   rw [List.map_map]
   show Value.agg cs = .agg (cs.toList.map id).toArray
   rw [List.map_id]
 · rename_i cs ks
   simp only [Option.some.injEq] at h
   subst h
   rw [a1s]
   rfl
 · cases h
def m0k : SV → Bool
 | .v x => x.oneCell'
 | .a _ _ => false
 | _ => true
theorem l0e (A : List Nat) {x : SV} (h : m0k x = true) : (x.r A).oneCell' = true := by
 cases x with
 | v x => exact h
 | p k off => rfl
 | s k off n c => rfl
 | a cs ks => cases h
 | f fn cs ks => rfl
def putC (cs : List SV) (off : Nat) : List SV → List SV
 | [] => cs
 | v :: r => putC (setL cs off v) (off + 1) r
def stB (P : Program) (bx : List Box) (ty : TypeId) (k off : Nat) (x : SV) : Option (List SV) :=
 match Nat.ble (k + 1) bx.length with
 | false => none
 | true => match (lk bx0 bx k).ro with
  | true => none
  | false => match rowT P ty with
   | some true => match v0j x with
    | some l => match szT P ty with
     | some n => match Nat.beq l.length n && Nat.ble (off + n) (lk bx0 bx k).cs.length && l.all m0k with
      | true => some (putC (lk bx0 bx k).cs off l)
      | false => none
     | none => none
    | none => none
   | some false => match szT P ty with
    | some 1 => match x with
     | .v (.agg _) => none
     | .a _ _ => none
     | x => match Nat.ble (off + 1) (lk bx0 bx k).cs.length && m0k x with
      | true => some (setL (lk bx0 bx k).cs off x)
      | false => none
    | _ => none
   | none => none
def g1h (fr : List SV) : Op → Option Nat
 | .fieldAddr _ x _ | .indexAddr _ x _ | .slice _ x _ _ _ | .nilCheck x => match ev fr x with | .p k _ => some k | .s k _ _ _ => some k | _ => none
 | _ => none
def b1x : Option Nat → Value → SV
 | some k, .pointer (some ⟨_, off, _⟩) => .p k off
 | some k, .slice (some ⟨_, off, _⟩) n c => .s k off n c
 | _, v => .v v
def g1i : SV → Value
 | .v (.agg cs) => .agg (cs.map fun _ => .nilFunc)
 | .v _ => .nilFunc
 | .p k _ => .chan (some k)
 | .s k _ _ _ => .chan (some k)
 | .f _ _ _ => .nilFunc
 | .a _ ks => .agg (ks.map fun k => match k with | some k => Value.chan (some k) | none => .nilFunc).toArray
def a1t : Value → Option Nat
 | .chan (some k) => some k
 | _ => none
def a1u : List (Option Nat) → Bool
 | [] => false
 | some _ :: _ => true
 | none :: l => a1u l
def comb (v m : Value) : SV :=
 match m with
 | .chan (some k) => spl (some k) v
 | .agg ms => match a1u (ms.toList.map a1t) with
  | true => match v with
   | .agg cs => .a cs.toList (ms.toList.map a1t)
   | _ => .v v
  | false => .v v
 | _ => .v v
def v0k (fr : List SV) : List Operand → Bool
 | [] => false
 | x :: l => match ev fr x with
  | .v _ => v0k fr l
  | _ => true
def genA (P : Program) (o : Oper) (fr : List SV) : SV :=
 match (execOp (evr [] fr) o).run P default with
 | .ok (.value v) _ => match (execOp (fun x => g1i (ev fr x)) o).run P default with
  | .ok (.value m) _ => comb v m
  | _ => .v undef
 | _ => .v undef
def b1y (fr : List SV) : Op → Bool
 | .build _ ps => v0k fr (ps.toList.map (·.2))
 | .field _ x _ => v0k fr [x]
 | _ => false
def genV (P : Program) (o : Oper) (fr : List SV) : SV :=
 match b1y fr o.op with
 | true => genA P o fr
 | false => match (execOp (evr [] fr) o).run P default with
  | .ok (.value v) _ => b1x (g1h fr o.op) v
  | _ => .v undef
def newC (P : Program) (o : Oper) (fr : List SV) : Option (TypeId × List SV) :=
 match (execOp (evr [] fr) o).run P default with
 | .ok (.value _) w => match (w.heap[0]? : Option Obj) with
  | some (.cells vs t _) => some (t, vs.toList.map .v)
  | _ => none
 | _ => none
def g1j : Builtin → Bool
 | .len | .cap | .max | .min => true
 | _ => false
def eff (P : Program) (bx : List Box) (fr : List SV) (o : Oper) : Eff :=
 match o.op with
 | .move x | .assign x => .val (ev fr x)
 | .pick c a b => match ev fr c with
  | .v (.bool true) => .val (ev fr a)
  | .v (.bool false) => .val (ev fr b)
  | _ => .stop
 | .load ty x => match ev fr x with
  | .p k off => match ldB P bx ty k off with | some v => .val v | none => .stop
  | _ => .stop
 | .store ty x y => match ev fr x with
  | .p k off => match stB P bx ty k off (ev fr y) with | some cs => .st k cs | none => .stop
  | _ => .stop
 | .box t x => .new t (e1n (ev fr x)) none
 | .alloc _ => match newC P o fr with | some (t, cs) => .new t cs none | none => .stop
 | .buildSlice _ n _ => match newC P o fr with | some (t, cs) => .new t cs (some n) | none => .stop
 | .call c => match c.callee with
  | .builtin b => match g1j b with | true => .val (genV P o fr) | false => .stop
  | _ => .stop
 | .makeFunc fn _ cs => .val (.f fn (cs.toList.map (evr [] fr)) (cs.toList.map fun x => own1 (ev fr x)))
 | .makeMap _ _ | .makeChan _ _ | .makeSlice _ _ _ | .mapUpdate _ _ _ _ | .insert _ _ _ _ | .mapEntry _ _ _ | .entryStore _ _ _ _ | .go _ | .defer _ | .panic _ | .send _ _ | .recv _ _ _ | .select _ _ | .next _ _ | .ready _ | .waits _ => .stop
 | _ => .val (genV P o fr)
def j0t (P : Program) (bx : List Box) (fr : List SV) (o : Oper) (A : List Nat) (w : World) : List (Result Next × Result Next) :=
 match o.op with
 | .move _ | .assign _ | .pick _ _ _ | .load _ _ | .store _ _ _ => []
 | _ => match eff P bx fr o with
  | .val x => [((execOp (evr A fr) o).run P w, .ok (.value (x.r A)) w)]
  | .new t cs x => [((execOp (evr A fr) o).run P w, .ok (.value ((mkS x 0).r [w.heap.size])) (w.alloc (.cells (cs.map (SV.r A)).toArray t)))]
  | _ => []
def wfS (n : Nat) : SV → Bool
 | .v _ => true
 | .p k _ => Nat.ble (k + 1) n
 | .s k _ _ _ => Nat.ble (k + 1) n
 | .a _ ks => ks.all fun k => match k with | some k => Nat.ble (k + 1) n | none => true
 | .f _ _ ks => ks.all fun k => match k with | some k => Nat.ble (k + 1) n | none => true
def wfL (n : Nat) : List SV → Bool
 | [] => true
 | x :: l => match wfS n x with | true => wfL n l | false => false
def wfB (n : Nat) : List Box → Bool
 | [] => true
 | b :: l => match wfL n b.cs with | true => wfB n l | false => false
def aft (bx : List Box) (fr : List SV) (d : Option Tmp) : Eff → Option (List SV × List Box)
 | .val x => some (putO fr d x, bx)
 | .new t cs x => match wfL bx.length fr && wfL bx.length cs && wfB bx.length bx with
  | true => some (putO fr d (mkS x bx.length), bx ++ [⟨t, cs, false⟩])
  | false => none
 | .st k cs => some (putO fr d (.v undef), setL bx k ⟨(lk bx0 bx k).t, cs, false⟩)
 | .stop => none
def j0u {α : Type} : List (α × α) → Prop
 | [] => True
 | x :: l => x.1 = x.2 ∧ j0u l
theorem e0g {α : Type} : ∀ {l : List (α × α)}, l.map (·.1) = l.map (·.2) → j0u l
 | [], _ => True.intro
 | _ :: _, h => by
  simp only [List.map_cons, List.cons.injEq] at h
  exact ⟨h.1, e0g h.2⟩
theorem c0t {α : Type} : ∀ {l m : List (α × α)}, j0u (l ++ m) → j0u l ∧ j0u m
 | [], _, h => ⟨True.intro, h⟩
 | _ :: _, _, h => ⟨⟨h.1, (c0t h.2).1⟩, (c0t h.2).2⟩
section
variable {P : Program} {E : List Nat} {w0 : World} {A : List Nat} {bx : List Box} {fs : List PF} {W : World} {fr : List SV} {o : Oper}
theorem f0n {a b : Nat} (h : Nat.ble a b = true) : a ≤ b := Nat.le_of_ble_eq_true h
theorem a1v (I : BtOk A bx W) {ty : TypeId} {k off : Nat} {x : SV} (h : ldB P bx ty k off = some x) : (Instr.loadAt ty (.pointer (some ⟨lk 0 A k, off, none⟩))).run P W = .ok (x.r A) W := by
 unfold ldB at h
 split at h
 · cases h
 · rename_i hk
   have hb := I k (f0n hk)
   generalize lk bx0 bx k = b at *
   split at h
   · rename_i hr
     split at h
     · rename_i n hn
       split at h
       · rename_i hl
         simp only [Option.some.injEq] at h
         subst h
         simp only [Bool.and_eq_true] at hl
         obtain ⟨hl, h1, h2⟩ := hl
         have hb := hb (f0n h1)
         have hl := Nat.eq_of_beq_eq_true hl
         have hT : d0z P ty n := ⟨by
           unfold rowT at hr
           cases hu : P.underlying ty with
           | none => rw [hu] at hr; cases hr
           | some d => rw [hu] at hr; exact ⟨d, rfl, by simpa using hr⟩, hn⟩
         rw [g1f A h2]
         refine a1r hb hT off (((b.cs.drop off).take n).map (SV.r A)) ?_ (by rw [List.length_map, hl])
         rw [List.length_map, hl]
         show List.take n (List.drop off (b.cs.map (SV.r A))) = _
         rw [← List.map_drop, ← List.map_take]
       · cases h
     · cases h
   · rename_i hr
     split at h
     · rename_i hn
       split at h
       · rename_i ho
         simp only [Option.some.injEq] at h
         subst h
         have ho := f0n ho
         have hb := hb (by omega)
         have hT : e0a P ty := ⟨by
           unfold rowT at hr
           cases hu : P.underlying ty with
           | none => rw [hu] at hr; cases hr
           | some d => rw [hu] at hr; exact ⟨d, rfl, by simpa using hr⟩, hn⟩
         refine v0e hb hT off _ ?_
         unfold Box.row
         rw [e0b]
         simp only [List.getElem?_toArray, List.getElem?_map]
         rw [List.getElem?_eq_getElem (by omega)]
         rfl
       · cases h
     · cases h
   · cases h
theorem m0l (I : BtOk A bx W) {x : SV} (he : eff P bx fr o = .val x) (hc : j0u (j0t P bx fr o A W)) : (execOp (act A fr).eval o).run P W = .ok (.value (x.r A)) W := by
 rw [c0g]
 unfold j0t at hc
 rw [he] at hc
 unfold eff at he
 cases hop : o.op <;> simp only [hop] at he hc <;> first | exact hc.1 | skip
 · simp only [Eff.val.injEq] at he
   subst he
   unfold execOp
   simp only [hop]
   rfl
 · simp only [Eff.val.injEq] at he
   subst he
   unfold execOp
   simp only [hop]
   rfl
 · rename_i c a b
   have hpk : ∀ t, evr A fr c = .bool t → (execOp (evr A fr) o).run P W = .ok (.value (if t then evr A fr a else evr A fr b)) W := fun t ht => by
    unfold execOp
    simp only [hop, ht]
    cases t <;> rfl
   split at he
   · rename_i h
     simp only [Eff.val.injEq] at he
     subst he
     exact hpk true (by unfold evr; rw [h]; rfl)
   · rename_i h
     simp only [Eff.val.injEq] at he
     subst he
     exact hpk false (by unfold evr; rw [h]; rfl)
   · cases he
 · rename_i ty x
   split at he
   · rename_i k off h
     split at he
     · rename_i v hv
       simp only [Eff.val.injEq] at he
       subst he
       have := a1v I hv
       have hx : evr A fr x = .pointer (some ⟨lk 0 A k, off, none⟩) := by unfold evr; rw [h]; rfl
       unfold execOp
       simp only [hop, hx, Sem.run_bind, this, Result.andThen_ok, Sem.run_pure]
     · cases he
   · cases he
 · repeat' split at he
   all_goals cases he
theorem y0r {A B : List Nat} {k : Nat} (h : lk 0 A k = lk 0 B k) (v : Value) : j0s A (some k) v = j0s B (some k) v := by
 cases v with
 | pointer p => cases p with
  | none => rfl
  | some a => show Value.pointer (some ⟨lk 0 A k, a.off, none⟩) = .pointer (some ⟨lk 0 B k, a.off, none⟩); rw [h]
 | slice p n c => cases p with
  | none => rfl
  | some a => show Value.slice (some ⟨lk 0 A k, a.off, none⟩) n c = .slice (some ⟨lk 0 B k, a.off, none⟩) n c; rw [h]
 | _ => rfl
theorem g1k {n : Nat} {x : SV} (h : wfS n x = true) (B : List Nat) (hA : A.length = n) : x.r (A ++ B) = x.r A := by
 have hl : ∀ k, k < n → lk 0 (A ++ B) k = lk 0 A k := fun k hk => by
  rw [e0b, e0b, List.getElem?_append_left (by omega)]
 have : ∀ (ks : List (Option Nat)) (cs : List Value), (ks.all fun k => match k with | some k => Nat.ble (k + 1) n | none => true) = true → d0k (A ++ B) cs ks = d0k A cs ks := fun ks => by
  induction ks with
  | nil => intro cs _; cases cs <;> rfl
  | cons k ks ih =>
   intro cs h
   simp only [List.all_cons, Bool.and_eq_true] at h
   cases cs with
   | nil => rfl
   | cons v cs =>
    have hp : j0s (A ++ B) k v = j0s A k v := by
     cases k with
     | none => rfl
     | some k => exact y0r (hl k (f0n h.1)) v
    unfold d0k
    rw [hp, ih cs h.2]
 cases x with
 | v x => rfl
 | p k off => unfold SV.r; simp only [hl k (f0n h)]
 | s k off n c => unfold SV.r; simp only [hl k (f0n h)]
 | a cs ks =>
  show Value.agg (d0k (A ++ B) cs ks).toArray = .agg (d0k A cs ks).toArray
  rw [this ks cs h]
 | f fn cs ks =>
  show Value.func fn #[] (d0k (A ++ B) cs ks).toArray = .func fn #[] (d0k A cs ks).toArray
  rw [this ks cs h]
theorem o0i {n : Nat} (B : List Nat) (hA : A.length = n) : ∀ {l : List SV}, wfL n l = true → l.map (SV.r (A ++ B)) = l.map (SV.r A)
 | [], _ => rfl
 | x :: l, h => by
  unfold wfL at h
  split at h
  · rename_i hx
    rw [List.map_cons, List.map_cons, g1k hx B hA, o0i B hA h]
  · cases h
theorem m0m {n : Nat} : ∀ {l : List Box}, wfB n l = true → ∀ k, wfL n (lk bx0 l k).cs = true
 | [], _, _ => rfl
 | b :: l, h, k => by
  unfold wfB at h
  split at h
  · rename_i hb
    cases k with
    | zero => exact hb
    | succ k => exact m0m h k
  · cases h
theorem c0k {α : Type} (d : α) {l m : List α} {k : Nat} (h : k < l.length) : lk d (l ++ m) k = lk d l k := by
 rw [e0b, e0b, List.getElem?_append_left h]
theorem c0u {α : Type} (d : α) {l : List α} {a : α} : lk d (l ++ [a]) l.length = a := by
 rw [e0b]; simp
theorem Inv.lay (I : Inv E w0 A bx fs W) (t : TypeId) (cs : List SV) (h1 : wfL bx.length cs = true) (h2 : wfB bx.length bx = true) :
 Inv E w0 (A ++ [W.heap.size]) (bx ++ [⟨t, cs, false⟩]) fs (W.alloc (.cells (cs.map (SV.r A)).toArray t)) := by
 have hb : Below W.heap.size W (W.alloc (.cells (cs.map (SV.r A)).toArray t)) := c0e _ _
 have I' := I.past hb
 have hl : ∀ k, k < bx.length → lk 0 (A ++ [W.heap.size]) k = lk 0 A k ∧ lk bx0 (bx ++ [⟨t, cs, false⟩]) k = lk bx0 bx k := fun k h => ⟨c0k 0 (by rw [I.len]; exact h), c0k bx0 h⟩
 have hn : lk 0 (A ++ [W.heap.size]) bx.length = W.heap.size ∧ lk bx0 (bx ++ [⟨t, cs, false⟩]) bx.length = ⟨t, cs, false⟩ := ⟨by rw [← I.len, c0u], c0u _⟩
 have hF : ∀ a, Fa (A ++ [W.heap.size]) (bx ++ [⟨t, cs, false⟩]) a → Fa A bx a ∨ a = W.heap.size := fun a ⟨k, hk, hr, e⟩ => by
  rw [List.length_append, List.length_singleton] at hk
  by_cases h : k < bx.length
  · rw [(hl k h).2] at hr
    rw [(hl k h).1] at e
    exact .inl ⟨k, h, hr, e⟩
  · obtain rfl : k = bx.length := by omega
    exact .inr (e.trans hn.1)
 refine ⟨I'.bel, fun a ha => ?_, fun i j hi hj hr hne => ?_, by simp [I.len], I.pre.trans (List.prefix_append _ _), fun k hk => ?_, I'.fa, fun a ha => ?_⟩
 · rcases hF a ha with h | rfl
   · exact I.ge a h
   · exact .inl I.bel.size
 · rw [List.length_append, List.length_singleton] at hi hj
   by_cases h : i < bx.length
   · rw [(hl i h).2] at hr
     by_cases h' : j < bx.length
     · rw [(hl i h).1, (hl j h').1]
       exact I.nd i j h h' hr hne
     · obtain rfl : j = bx.length := by omega
       rw [(hl i h).1, hn.1]
       have := (I.bt i h).lt
       omega
   · obtain rfl : i = bx.length := by omega
     have h' : j < bx.length := by omega
     rw [(hl j h').1, hn.1]
     have := (I.bt j h').lt
     omega
 · rw [List.length_append, List.length_singleton] at hk
   by_cases h : k < bx.length
   · rw [(hl k h).1, (hl k h).2]
     have := I'.bt k h
     unfold Box.row at this ⊢
     rw [o0i _ I.len (m0m h2 k)]
     exact this
   · obtain rfl : k = bx.length := by omega
     rw [hn.1, hn.2]
     unfold Box.row
     simp only
     rw [o0i _ I.len h1]
     exact a1q _ _ _
 · rcases hF a ha with h | rfl
   · exact I.far a h
   · exact PF.far_new I.fa
theorem Inv.put (I : Inv E w0 A bx fs W) {k : Nat} (hk : k < bx.length) (hr : (lk bx0 bx k).ro = false) {cs : List SV} {W' : World} (hO : Kp [lk 0 A k] W W') (hB : Bt W' (lk 0 A k) (lk bx0 bx k).t (cs.map (SV.r A)).toArray) :
 Inv E w0 A (setL bx k ⟨(lk bx0 bx k).t, cs, false⟩) fs W' := by
 have hF : Fa A bx (lk 0 A k) := ⟨k, hk, hr, rfl⟩
 have hl : ∀ j, j < bx.length → (lk bx0 (setL bx k ⟨(lk bx0 bx k).t, cs, false⟩) j).ro = (lk bx0 bx j).ro := fun j hj => by
  by_cases h : j = k
  · subst h
    rw [e0b bx0 (setL _ _ _), d0s, List.getElem?_set_self hj, hr]
    rfl
  · rw [e0b bx0 (setL _ _ _), d0s, List.getElem?_set_ne (Ne.symm h), ← e0b]
 have hn : (setL bx k ⟨(lk bx0 bx k).t, cs, false⟩).length = bx.length := by rw [d0s, List.length_set]
 have hFa : ∀ a, Fa A (setL bx k ⟨(lk bx0 bx k).t, cs, false⟩) a → Fa A bx a := fun a ⟨j, hj, hr, e⟩ => by
  rw [hn] at hj
  rw [hl j hj] at hr
  exact ⟨j, hj, hr, e⟩
 refine ⟨⟨hO.os.trans I.bel.os, hO.tape.trans I.bel.tape, hO.output.trans I.bel.output, Nat.le_trans I.bel.size hO.size, fun b hb hE => ?_⟩, fun a ha => I.ge a (hFa a ha), fun i j hi hj hr hne => ?_, by rw [hn]; exact I.len, I.pre, fun j hj => ?_, PF.all_keep hO.size I.fa fun b hb ha => hO.block b hb (by
   rw [List.mem_singleton]
   exact Ne.symm (ha _ (I.far _ hF))), fun a ha => I.far a (hFa a ha)⟩
 · rw [hO.block b (Nat.lt_of_lt_of_le hb I.bel.size) (by
     rw [List.mem_singleton]
     intro e
     subst e
     rcases I.ge _ hF with h | h
     · omega
     · exact hE h)]
   exact I.bel.block b hb hE
 · rw [hn] at hi hj
   rw [hl i hi] at hr
   exact I.nd i j hi hj hr hne
 · rw [hn] at hj
   by_cases h : j = k
   · subst h
     rw [e0b bx0 (setL _ _ _), d0s, List.getElem?_set_self hj]
     exact hB
   · rw [e0b bx0 (setL _ _ _), d0s, List.getElem?_set_ne (Ne.symm h), ← e0b]
     have hb := I.bt j hj
     exact hb.same (hO.block _ hb.lt (by
       rw [List.mem_singleton]
       exact (I.nd k j hk hj hr (Ne.symm h)).symm))
theorem Only.kp {a : Nat} {w w' : World} (h : Only a w w') : Kp [a] w w' := ⟨h.os, h.tape, h.output, by rw [h.size]; exact Nat.le_refl _, fun k _ hk => h.block k (by simpa using hk)⟩
theorem r0q (A : List Nat) : ∀ (l : List SV) (cs : List SV) (off : Nat), ((putC cs off l).map (SV.r A)).toArray = putL (cs.map (SV.r A)).toArray off (l.map (SV.r A))
 | [], _, _ => rfl
 | x :: l, cs, off => by
  unfold putC
  rw [r0q A l, List.map_cons]
  show _ = putL ((cs.map (SV.r A)).toArray.setIfInBounds off (x.r A)) (off + 1) (l.map (SV.r A))
  congr 1
  rw [d0s, List.map_set]
  simp
variable {ops : Array Oper} {Q : Exit → Act → World → Prop} {K : Act → World → Prop}
theorem g1l (I : Inv E w0 A bx fs W) (hw : wnt ops fr o = true) {ty : TypeId} {x y : Operand} {k off : Nat} {cs : List SV} (ho : o.op = .store ty x y) (hx : ev fr x = .p k off) (h : stB P bx ty k off (ev fr y) = some cs)
 (hk : ∀ W', Inv E w0 A (setL bx k ⟨(lk bx0 bx k).t, cs, false⟩) fs W' → K (act A (putO fr o.dst (.v undef))) W') : OpW P ops Q o K (act A fr) W := by
 have hw' : Region.wanted o (yielded ops (act A fr).tmps) = true := by rw [f0m]; exact hw
 have hx' : (act A fr).eval x = .pointer (some ⟨lk 0 A k, off, none⟩) := by rw [c0g]; unfold evr; rw [hx]; rfl
 have hp : ∀ W', Inv E w0 A (setL bx k ⟨(lk bx0 bx k).t, cs, false⟩) fs W' → K ((act A fr).put o.dst undef) W' := fun W' h => by
  rw [show undef = (SV.v undef).r A from rfl, d0p]
  exact hk W' h
 unfold stB at h
 split at h
 · cases h
 · rename_i hkb
   have hkb := f0n hkb
   have hb := I.bt k hkb
   have put := fun hr {W' cs} (h : Only _ _ _) => I.put (k := k) hkb hr (cs := cs) (W' := W') h.kp
   generalize lk bx0 bx k = b at *
   split at h
   · cases h
   rename_i hro
   replace put := fun {W' cs} => put hro (W' := W') (cs := cs)
   split at h
   · rename_i hr
     split at h
     · rename_i l hy
       split at h
       · rename_i n hn
         split at h
         · rename_i hc
           simp only [Bool.and_eq_true] at hc
           obtain ⟨⟨c1, c2⟩, c3⟩ := hc
           simp only [Option.some.injEq] at h
           subst h
           have hT : d0z P ty n := ⟨by
             unfold rowT at hr
             cases hu : P.underlying ty with
             | none => rw [hu] at hr; cases hr
             | some d => rw [hu] at hr; exact ⟨d, rfl, by simpa using hr⟩, hn⟩
           refine v0g o.dst rfl hb hT off (l.map (SV.r A)).toArray _ hw' ho hx' (by rw [c0g]; exact y0q A hy) (by simpa using Nat.eq_of_beq_eq_true c1) (by unfold Box.row; simpa using c2) ?_ rfl fun W' hO hB => hp W' (put hO ?_)
           · rw [List.all_toArray, List.all_map]
             rw [List.all_eq_true] at c3 ⊢
             exact fun x hx => l0e A (c3 x hx)
           · rw [r0q]
             exact hB
         · cases h
       · cases h
     · cases h
   · rename_i hr
     split at h
     · rename_i hn
       split at h
       · cases h
       · cases h
       · rename_i x' hna hna2
         split at h
         · rename_i hc
           simp only [Bool.and_eq_true] at hc
           obtain ⟨c2, c3⟩ := hc
           simp only [Option.some.injEq] at h
           subst h
           have hT : e0a P ty := ⟨by
             unfold rowT at hr
             cases hu : P.underlying ty with
             | none => rw [hu] at hr; cases hr
             | some d => rw [hu] at hr; exact ⟨d, rfl, by simpa using hr⟩, hn⟩
           have h1 : ((ev fr y).r A).cells = #[(ev fr y).r A] := by
            cases hv : ev fr y with
            | v z => cases z with
             | agg cs => exact absurd hv (hna cs)
             | _ => rfl
            | p k off => rfl
            | s k off n c => rfl
            | a cs ks => exact absurd hv (hna2 cs ks)
            | f fn cs ks => rfl
           have h5 : ((ev fr y).r A).oneCell' = true := l0e A c3
           refine b1w o.dst rfl hb hT off ((ev fr y).r A) _ hw' ho hx' (by rw [c0g]; rfl) (by unfold Box.row; simpa using c2) h1 h5 rfl fun W' hO hB => hp W' (put hO ?_)
           have e : ((setL b.cs off (ev fr y)).map (SV.r A)).toArray = (b.row A).setIfInBounds off ((ev fr y).r A) := by
            unfold Box.row
            rw [d0s, List.map_set]
            simp
           rw [e]
           exact hB
         · cases h
     · cases h
   · cases h
theorem a1w (I : Inv E w0 A bx fs W) (hw : wnt ops fr o = true) (hc : j0u (j0t P bx fr o A W)) {fr' : List SV} {bx' : List Box} (ha : aft bx fr o.dst (eff P bx fr o) = some (fr', bx'))
 (hk : ∀ A' W', A <+: A' → Inv E w0 A' bx' fs W' → K (act A' fr') W') : OpW P ops Q o K (act A fr) W := by
 have hw' : Region.wanted o (yielded ops (act A fr).tmps) = true := by rw [f0m]; exact hw
 cases he : eff P bx fr o with
 | stop => rw [he] at ha; cases ha
 | val x =>
  rw [he] at ha
  simp only [aft, Option.some.injEq, Prod.mk.injEq] at ha
  obtain ⟨rfl, rfl⟩ := ha
  refine j0p o.dst rfl (x.r A) hw' (m0l I.ok he hc) ?_
  rw [d0p]
  exact hk A W (List.prefix_refl _) I
 | new t cs n =>
  rw [he] at ha
  unfold aft at ha
  simp only at ha
  split at ha
  · rename_i hc2
    simp only [Bool.and_eq_true] at hc2
    obtain ⟨⟨c1, c2⟩, c3⟩ := hc2
    simp only [Option.some.injEq, Prod.mk.injEq] at ha
    obtain ⟨rfl, rfl⟩ := ha
    have hr : (execOp (evr A fr) o).run P W = .ok (.value ((mkS n 0).r [W.heap.size])) (W.alloc (.cells (cs.map (SV.r A)).toArray t)) := by
     unfold j0t at hc
     rw [he] at hc
     unfold eff at he
     cases hop : o.op <;> simp only [hop] at he hc <;> first | exact hc.1 | skip
     all_goals (repeat' split at he) <;> cases he
    have L := I.lay t cs c2 c3
    have e1 : act (A ++ [W.heap.size]) (putO fr o.dst (mkS n bx.length)) = (act A fr).put o.dst ((mkS n 0).r [W.heap.size]) := by
     have e2 : (mkS n 0).r [W.heap.size] = (mkS n bx.length).r (A ++ [W.heap.size]) := by
      have : lk 0 (A ++ [W.heap.size]) bx.length = W.heap.size := by rw [← I.len, c0u]
      cases n with
      | none => show Value.pointer (some ⟨W.heap.size, 0, none⟩) = .pointer (some ⟨lk 0 (A ++ [W.heap.size]) bx.length, 0, none⟩); rw [this]
      | some n => show Value.slice (some ⟨W.heap.size, 0, none⟩) n n = .slice (some ⟨lk 0 (A ++ [W.heap.size]) bx.length, 0, none⟩) n n; rw [this]
     have e3 : act A fr = act (A ++ [W.heap.size]) fr := by unfold act; rw [o0i _ I.len c1]
     rw [e2, e3, d0p]
    refine ⟨?_⟩
    rw [if_pos hw']
    unfold Oper.wp
    rw [c0g, hr]
    show K ((act A fr).put o.dst ((mkS n 0).r [W.heap.size])) _
    rw [← e1]
    exact hk _ _ (List.prefix_append _ _) L
  · cases ha
 | st k cs =>
  have he0 := he
  rw [he] at ha
  simp only [aft, Option.some.injEq, Prod.mk.injEq] at ha
  obtain ⟨rfl, rfl⟩ := ha
  unfold eff at he
  cases hop : o.op <;> simp only [hop] at he
  case store ty x y =>
   split at he
   · rename_i k' off hx
     split at he
     · rename_i cs' hs
       simp only [Eff.st.injEq] at he
       obtain ⟨rfl, rfl⟩ := he
       exact g1l I hw hop hx hs fun W' I' => hk A W' (List.prefix_refl _) I'
     · cases he
   · cases he
  all_goals (repeat' split at he) <;> cases he
end
inductive Kt where
 | code (c : Code)
 | block (id : Nat)
 | stop (J : Act → World → Prop)
def post (P : Program) (Q : Exit → Act → World → Prop) : List Kt → Exit → Act → World → Prop
 | [] => Q
 | .code c :: ks => Exit.then (fun a w => c.wp P (post P Q ks) a w) (post P Q ks)
 | .block id :: ks => Exit.inBlock id (post P Q ks)
 | .stop J :: ks => Exit.then J (post P Q ks)
inductive Rg where
 | off
 | pl (ops : Array Oper) (l : List Oper)
 | dr (ops : Array Oper) (A0 : List Nat) (m : List (Option Box)) (fuel : Nat) (listed : Array Bool)
 | one (ops : Array Oper) (A0 : List Nat) (m : List (Option Box)) (fuel : Nat) (listed : Array Bool) (i : Nat)
 | ret
structure Cfg where
 fr : List SV
 bx : List Box
 rg : Rg
 ks : List Kt
def unm : Option Box → Box
 | some b => b
 | none => bx0
def SB (A0 : List Nat) (m : List (Option Box)) (w : World) : Prop := BtOk A0 (m.map unm) w
structure PreD (A0 : List Nat) (m : List (Option Box)) (A : List Nat) : Prop where
 pre : A0 <+: A
 le : m.length ≤ A0.length
 wf : wfB A0.length (m.map unm) = true
theorem PreD.on {A0 A A' : List Nat} {m : List (Option Box)} (h : PreD A0 m A) (k : A <+: A') : PreD A0 m A' := ⟨h.pre.trans k, h.le, h.wf⟩
def a1x (P : Program) (Q : Exit → Act → World → Prop) (A : List Nat) (c : Cfg) (W : World) : Prop :=
 match c.rg with
 | .off => post P Q c.ks .normal (act A c.fr) W
 | .pl ops l => WpL P ops (post P Q c.ks) l (act A c.fr) W
 | .dr ops A0 m fuel listed => PreD A0 m A → WpH P ops (post P Q c.ks) (SB A0 m) fuel listed (act A c.fr) W
 | .one ops A0 m fuel listed i => PreD A0 m A → ∃ o, ops[i]? = some o ∧ ∀ K : Act → World → Prop, Shut (∀ a w, SB A0 m w → WpH P ops (post P Q c.ks) (SB A0 m) fuel (listed.setIfInBounds i true) a w → K a w) → OpW P ops (post P Q c.ks) o K (act A c.fr) W
 | .ret => post P Q c.ks .ret (act A c.fr) W
structure G (P : Program) (Q : Exit → Act → World → Prop) (A : List Nat) (c : Cfg) (W : World) : Prop where
 out : a1x P Q A c W
def t0g (id : Nat) : List Kt → Option (List Kt)
 | [] => none
 | .code _ :: ks => t0g id ks
 | .block j :: ks => match Nat.beq id j with | true => some ks | false => t0g id ks
 | .stop _ :: ks => t0g id ks
theorem g0b {P : Program} {Q : Exit → Act → World → Prop} {id : Nat} {a : Act} {w : World} : ∀ {ks ks' : List Kt}, t0g id ks = some ks' → post P Q ks' .normal a w → post P Q ks (.exit id) a w
 | [], _, h, _ => by cases h
 | .code _ :: ks, _, h, k => g0b (ks := ks) h k
 | .stop _ :: ks, _, h, k => g0b (ks := ks) h k
 | .block j :: ks, ks', h, k => by
  unfold t0g at h
  show Exit.inBlock j (post P Q ks) (.exit id) a w
  unfold Exit.inBlock
  split at h
  · rename_i hj
    simp only [Option.some.injEq] at h
    subst h
    simp only
    rw [if_pos (Nat.eq_of_beq_eq_true hj)]
    exact k
  · rename_i hj
    simp only
    rw [if_neg (fun e => by subst e; simp at hj)]
    exact g0b h k
def g1m (d : Option Nat) (o : Oper) : Bool :=
 match d with
 | none => true
 | some d => match o.dst with
  | some x => match Nat.beq d x with | true => false | false => true
  | none => true
def noAt (d : Option Nat) (n : Nat) : Bool :=
 match d with
 | none => true
 | some d => match Nat.beq d n with | true => false | false => true
def g1n (d : Option Nat) : Operand → Bool
 | .tmp t => noAt d (2000000 + t)
 | _ => true
def o0j (P : Program) (d : Option Nat) (c : Cfg) : Option Cfg :=
 match c.rg with
 | .pl _ [] => some ⟨c.fr, c.bx, .off, c.ks⟩
 | .pl ops (o :: l) => match wnt ops c.fr o with
  | false => some ⟨putO c.fr o.dst (.v undef), c.bx, .pl ops l, c.ks⟩
  | true => match g1m d o with
   | true => match aft c.bx c.fr o.dst (eff P c.bx c.fr o) with
    | some (fr, bx) => some ⟨fr, bx, .pl ops l, c.ks⟩
    | none => none
   | false => none
 | .off => match c.ks with
  | .code x :: ks => match x with
   | .skip => some ⟨c.fr, c.bx, .off, ks⟩
   | .label _ => some ⟨c.fr, c.bx, .off, ks⟩
   | .seq a b => some ⟨c.fr, c.bx, .off, .code a :: .code b :: ks⟩
   | .cond x a b => match g1n d x with
    | true => match ev c.fr x with
     | .v (.bool true) => some ⟨c.fr, c.bx, .off, .code a :: ks⟩
     | .v (.bool false) => some ⟨c.fr, c.bx, .off, .code b :: ks⟩
     | _ => none
    | false => none
   | .block id b => match noAt d (1000000 + id) with
    | true => some ⟨c.fr, c.bx, .off, .code b :: .block id :: ks⟩
    | false => none
   | .region id ops false => match noAt d (3000000 + id) with
    | true => some ⟨c.fr, c.bx, .pl ops ops.toList, ks⟩
    | false => none
   | .exit id => match t0g id ks with | some ks => some ⟨c.fr, c.bx, .off, ks⟩ | none => none
   | .ret => some ⟨c.fr, c.bx, .ret, ks⟩
   | _ => none
  | .block _ :: ks => some ⟨c.fr, c.bx, .off, ks⟩
  | _ => none
 | .dr ops _ _ _ listed => match Region.ready .any ops listed with
  | [] => some ⟨c.fr, c.bx, .off, c.ks⟩
  | _ => none
 | _ => none
def b1z (P : Program) (c : Cfg) (A : List Nat) (w : World) : List (Result Next × Result Next) :=
 match c.rg with
 | .pl ops (o :: _) => match wnt ops c.fr o with
  | false => []
  | true => j0t P c.bx c.fr o A w
 | _ => []
section
variable {P : Program} {Q : Exit → Act → World → Prop} {E : List Nat} {w0 : World} {A : List Nat} {fs : List PF} {W : World} {c c' : Cfg} {d : Option Nat}
theorem t0h {id : Nat} {ops : Array Oper} {Q : Exit → Act → World → Prop} {a : Act} {w : World} (h : WpL P ops Q ops.toList a w) : (Code.region id ops false).wp P Q a w := by
 cases ops
 exact b0o h
theorem p0y (I : Inv E w0 A c.bx fs W) (hs : o0j P d c = some c') (hc : j0u (b1z P c A W))
 (h : ∀ A' W', A <+: A' → Inv E w0 A' c'.bx fs W' → G P Q A' c' W') : G P Q A c W := by
 refine ⟨?_⟩
 obtain ⟨fr, bx, rg, ks⟩ := c
 have h0 := fun I => (h A W (List.prefix_refl _) I).out
 cases rg with
 | one => cases hs
 | ret => cases hs
 | dr ops A0 m fuel listed =>
  unfold o0j at hs
  simp only at hs
  split at hs
  · rename_i hr
    simp only [Option.some.injEq] at hs
    subst hs
    intro _
    exact j0q hr (h0 I)
  · cases hs
 | pl ops l =>
  cases l with
  | nil =>
   simp only [o0j, Option.some.injEq] at hs
   subst hs
   exact e1m (h0 I)
  | cons o l =>
   unfold o0j at hs
   unfold b1z at hc
   simp only at hs hc
   split at hs
   · rename_i hw
     simp only [Option.some.injEq] at hs
     subst hs
     refine b0z (b1t o.dst rfl (by rw [f0m]; exact hw) ?_)
     rw [show undef = (SV.v undef).r A from rfl, d0p]
     exact h0 I
   · rename_i hw
     rw [hw] at hc
     split at hs
     · split at hs
       · rename_i fr' bx' ha
         simp only [Option.some.injEq] at hs
         subst hs
         exact b0z (a1w I hw hc ha fun A' W' hA I' => (h A' W' hA I').out)
       · cases hs
     · cases hs
 | off =>
  unfold o0j at hs
  simp only at hs
  split at hs
  · rename_i x ks
    split at hs
    · simp only [Option.some.injEq] at hs
      subst hs
      exact wp_skip (h0 I)
    · simp only [Option.some.injEq] at hs
      subst hs
      exact wp_label (h0 I)
    · simp only [Option.some.injEq] at hs
      subst hs
      exact wp_seq (h0 I)
    · rename_i x a b
      split at hs
      · split at hs
        · rename_i hx
          simp only [Option.some.injEq] at hs
          subst hs
          exact wp_cond_true (by rw [c0g]; unfold evr; rw [hx]; rfl) (h0 I)
        · rename_i hx
          simp only [Option.some.injEq] at hs
          subst hs
          exact wp_cond_false (by rw [c0g]; unfold evr; rw [hx]; rfl) (h0 I)
        · cases hs
      · cases hs
    · split at hs
      · simp only [Option.some.injEq] at hs
        subst hs
        exact wp_block (h0 I)
      · cases hs
    · split at hs
      · simp only [Option.some.injEq] at hs
        subst hs
        exact t0h (h0 I)
      · cases hs
    · split at hs
      · rename_i ks' hk
        simp only [Option.some.injEq] at hs
        subst hs
        exact wp_exit (g0b hk (h0 I))
      · cases hs
    · simp only [Option.some.injEq] at hs
      subst hs
      exact wp_ret (h0 I)
    · cases hs
  · simp only [Option.some.injEq] at hs
    subst hs
    exact h0 I
  · cases hs
def zrun (P : Program) (d : Option Nat) : Nat → Cfg → Cfg
 | 0, c => c
 | n + 1, c => match o0j P d c with
  | some c' => zrun P d n c'
  | none => c
def zms (P : Program) (d : Option Nat) : Nat → Cfg → List Nat → World → List (Result Next × Result Next)
 | 0, _, _, _ => []
 | n + 1, c, A, w => match o0j P d c with
  | some c' => b1z P c A w ++ zms P d n c' A w
  | none => []
theorem i0e : ∀ (n : Nat) {A : List Nat} {W : World} {c : Cfg}, Inv E w0 A c.bx fs W → (∀ A w, j0u (zms P d n c A w)) →
 (∀ A' W', A <+: A' → Inv E w0 A' (zrun P d n c).bx fs W' → G P Q A' (zrun P d n c) W') → G P Q A c W
 | 0, A, W, c, I, _, h => h A W (List.prefix_refl _) I
 | n + 1, A, W, c, I, hm, h => by
  unfold zms at hm
  unfold zrun at h
  cases hs : o0j P d c with
  | none => rw [hs] at h; exact h A W (List.prefix_refl _) I
  | some c' =>
   rw [hs] at h hm
   simp only at h hm
   exact p0y I hs (c0t (hm A W)).1 fun A' W' hA I' => i0e n I' (fun A w => (c0t (hm A w)).2) fun A'' W'' hA' I'' => h A'' W'' (hA.trans hA') I''
end
def rvK {α β : Type} : List α → List α → (List α → β) → β
 | [], r, k => k r
 | a :: l, r, k => rvK l (a :: r) k
def frc {α β : Type} : List α → List α → (List α → β) → β
 | [], r, k => rvK r [] k
 | a :: l, r, k => frc l (a :: r) k
theorem a1y {α β : Type} (k : List α → β) : ∀ (l r : List α), rvK l r k = k (l.reverse ++ r)
 | [], r => rfl
 | a :: l, r => by rw [rvK, a1y k l]; simp
theorem v0l {α β : Type} (k : List α → β) : ∀ (l r : List α), frc l r k = k (r.reverse ++ l)
 | [], r => by rw [frc, a1y]
 | a :: l, r => by rw [frc, v0l k l]; simp
def nrm (c : Cfg) : Cfg := frc c.fr [] fun fr => frc c.bx [] fun bx => ⟨fr, bx, c.rg, c.ks⟩
theorem v0m (c : Cfg) : nrm c = c := by unfold nrm; rw [v0l, v0l]; simp
def zr (P : Program) (d : Option Nat) (c : Cfg) : Cfg := nrm (zrun P d 5000 c)
theorem e1o (P : Program) (d : Option Nat) (c : Cfg) : zr P d c = zrun P d 5000 c := v0m _
def nxt : Rg → Option Oper
 | .pl _ (o :: _) => some o
 | .one ops _ _ _ _ i => ops[i]?
 | _ => none
def p0z : Rg → Array Oper
 | .pl ops _ => ops
 | .one ops _ _ _ _ _ => ops
 | _ => #[]
def rgN : Rg → Rg
 | .pl ops (_ :: l) => .pl ops l
 | .one ops A0 m fuel listed i => .dr ops A0 m fuel (listed.setIfInBounds i true)
 | r => r
def msk : List (Option Box) → List Box → List (Option Box)
 | some _ :: m, b :: bx => some b :: msk m bx
 | none :: m, _ :: bx => none :: msk m bx
 | _, _ => []
def ok1 : Rg → List Box → List (Option Box)
 | .one _ _ m _ _ _, bx => msk m bx
 | _, _ => []
def ok2 : Rg → List (Option Box)
 | .one _ _ m _ _ _ => m
 | _ => []
def putc (c : Cfg) (x : SV) : Cfg := ⟨match nxt c.rg with | some o => putO c.fr o.dst x | none => c.fr, c.bx, rgN c.rg, c.ks⟩
def j0v (P : Program) (c : Cfg) (A : List Nat) (w : World) : Option (Result Next) :=
 match nxt c.rg with
 | some o => match wnt (p0z c.rg) c.fr o with
  | true => some ((execOp (evr A c.fr) o).run P w)
  | false => none
 | none => none
def t0i (P : Program) (c : Cfg) : Option Eff :=
 match nxt c.rg with
 | some o => match wnt (p0z c.rg) c.fr o with
  | true => some (eff P c.bx c.fr o)
  | false => none
 | none => none
def e0t (P : Program) (c : Cfg) (A : List Nat) (w : World) : List (Result Next × Result Next) :=
 match nxt c.rg with
 | some o => j0t P c.bx c.fr o A w
 | none => []
def e1p (c : Cfg) (A : List Nat) : Option (BinOp × Value × Value) :=
 match nxt c.rg with
 | some o => match wnt (p0z c.rg) c.fr o with
  | true => match o.op with
   | .binOp b _ x y _ => some (b, evr A c.fr x, evr A c.fr y)
   | _ => none
  | false => none
 | none => none
section
variable {P : Program} {Q : Exit → Act → World → Prop} {E : List Nat} {w0 : World} {A : List Nat} {fs : List PF} {W : World} {c : Cfg} {o : Oper}
theorem q0a : ∀ {m : List (Option Box)} {bx : List Box}, msk m bx = m → ∀ k, k < m.length → 0 < (lk bx0 (m.map unm) k).cs.length → k < bx.length ∧ lk bx0 (m.map unm) k = lk bx0 bx k
 | [], _, _, _, h, _ => by simp at h
 | some b :: m, [], h, _, _, _ => by simp [msk] at h
 | none :: m, [], h, _, _, _ => by simp [msk] at h
 | some b :: m, b' :: bx, h, k, hk, hc => by
  simp only [msk, List.cons.injEq, Option.some.injEq] at h
  cases k with
  | zero => exact ⟨by simp, h.1.symm⟩
  | succ k =>
   have := q0a h.2 k (by simpa using hk) hc
   exact ⟨by simpa using this.1, this.2⟩
 | none :: m, b' :: bx, h, k, hk, hc => by
  simp only [msk, List.cons.injEq, true_and] at h
  cases k with
  | zero => simp [unm, lk, bx0] at hc
  | succ k =>
   have := q0a h k (by simpa using hk) hc
   exact ⟨by simpa using this.1, this.2⟩
theorem r0r {A A' : List Nat} (h : A <+: A') {k : Nat} (hk : k < A.length) : lk 0 A' k = lk 0 A k := by
 obtain ⟨B, rfl⟩ := h
 exact c0k 0 hk
theorem v0n {A A' : List Nat} (h : A <+: A') {l : List Box} (hw : wfB A.length l = true) (k : Nat) : (lk bx0 l k).row A' = (lk bx0 l k).row A := by
 obtain ⟨B, rfl⟩ := h
 unfold Box.row
 rw [o0i B rfl (m0m hw k)]
theorem y0s {bx : List Box} {A0 : List Nat} {m : List (Option Box)} (I : Inv E w0 A bx fs W) (h : PreD A0 m A) (hm : msk m bx = m) : SB A0 m W := fun k hk hc => by
 rw [List.length_map] at hk
 obtain ⟨k1, k2⟩ := q0a hm k hk hc
 have := I.bt k k1
 rw [← k2, r0r h.pre (by have := h.le; omega), v0n h.pre h.wf] at this
 exact this
theorem G_op (hn : nxt c.rg = some o)
 (h : ∀ K : Act → World → Prop, (∀ A' W' fr' bx', A <+: A' → Inv E w0 A' bx' fs W' → ok1 c.rg bx' = ok2 c.rg → G P Q A' ⟨fr', bx', rgN c.rg, c.ks⟩ W' → K (act A' fr') W') → OpW P (p0z c.rg) (post P Q c.ks) o K (act A c.fr) W) : G P Q A c W := by
 refine ⟨?_⟩
 obtain ⟨fr, bx, rg, ks⟩ := c
 cases rg with
 | off => cases hn
 | ret => cases hn
 | dr => cases hn
 | pl ops l =>
  cases l with
  | nil => cases hn
  | cons o' l =>
   simp only [nxt, Option.some.injEq] at hn
   subst hn
   exact v0d fun K hK => h K fun A' W' fr' bx' _ _ _ g => hK.out _ _ g.out
 | one ops A0 m fuel listed i =>
  intro pre
  exact ⟨o, hn, fun K hK => h K fun A' W' fr' bx' hA I' hm g => hK.out _ _ (y0s I' (pre.on hA) hm) (g.out (pre.on hA))⟩
theorem b0t {d : Option Nat} (I : Inv E w0 A c.bx fs W) (hr : ∀ A w, (zms P d 5000 c A w).map (·.1) = (zms P d 5000 c A w).map (·.2))
 (h : ∀ A W, Inv E w0 A (zr P d c).bx fs W → G P Q A (zr P d c) W) : G P Q A c W :=
 i0e 5000 I (fun A w => e0g (hr A w)) fun A' W' _ I' => by have := h A' W'; rw [e1o] at this; exact this I'
theorem a1z (I : Inv E w0 A c.bx fs W) {f : FuncId} {args : Array Value} {post : Ending → World → Prop} (hc : Calls P f args W post)
 (h : ∀ K : Value → World → Prop, (∀ v W', Below W.heap.size W W' → (Inv E w0 A (putc c (.v v)).bx fs W' → G P Q A (putc c (.v v)) W') → K v W') → ∀ e W', post e W' → ∃ v, e = .returned v ∧ K v W')
 (ho : j0v P c A W = some (.ok (.enter f args) W)) (hm : ok1 c.rg c.bx = ok2 c.rg) : G P Q A c W := by
 unfold j0v at ho
 split at ho
 · rename_i o hn
   split at ho
   · rename_i hw
     refine G_op (E := E) (w0 := w0) (fs := fs) hn fun K hK => h0l o.dst rfl f args (by rw [f0m]; exact hw) (by rw [c0g]; exact Option.some.inj ho) (hc.mono fun e W' hp => ?_)
     refine h (fun v W' => K ((act A c.fr).put o.dst v) W') (fun v W' hb hg => ?_) e W' hp
     have := hg (I.past hb)
     unfold putc at this
     rw [hn] at this
     have := hK A W' _ c.bx (List.prefix_refl _) (I.past hb) hm this
     rw [← d0p] at this
     exact this
   · cases ho
 · cases ho
theorem zg (I : Inv E w0 A c.bx fs W) {f : FuncId} {args : List Nat → World → Array Value} {post : List Nat → World → Ending → World → Prop}
 (hc : ∀ A W, Inv E w0 A (zr P none c).bx fs W → Calls P f (args A W) W (post A W))
 (h : ∀ A V, Inv E w0 A (zr P none c).bx fs V → w0.heap.size ≤ V.heap.size → (∀ v a, Fa A (putc (zr P none c) (.v v)).bx a → Fa A (zr P none c).bx a) → ∀ K : Value → World → Prop, (∀ v W, Below V.heap.size V W → (Inv E w0 A (putc (zr P none c) (.v v)).bx fs W → G P Q A (putc (zr P none c) (.v v)) W) → K v W) → ∀ e W, post A V e W → ∃ v, e = .returned v ∧ K v W)
 (ho : ∀ A w, j0v P (zr P none c) A w = some (.ok (.enter f (args A w)) w) := by intro _ _; kernel_rfl)
 (hr : ∀ A w, (zms P none 5000 c A w).map (·.1) = (zms P none 5000 c A w).map (·.2) := by intro _ _; kernel_rfl)
 (hm : ok1 (zr P none c).rg (zr P none c).bx = ok2 (zr P none c).rg := by kernel_rfl) : G P Q A c W :=
 b0t I hr fun A V I => a1z I (hc A V I) (h A V I I.bel.size fun _ _ h => h) (ho A V) hm
theorem zq (I : Inv E w0 A c.bx fs W) {f : FuncId} {args : List Nat → World → Array Value} {v : Value}
 (hc : ∀ A W, Inv E w0 A (zr P none c).bx fs W → Calls P f (args A W) W fun e w' => e = .returned v ∧ Below W.heap.size W w')
 (h : ∀ A W, Inv E w0 A (putc (zr P none c) (.v v)).bx fs W → G P Q A (putc (zr P none c) (.v v)) W)
 (ho : ∀ A w, j0v P (zr P none c) A w = some (.ok (.enter f (args A w)) w) := by intro _ _; kernel_rfl)
 (hr : ∀ A w, (zms P none 5000 c A w).map (·.1) = (zms P none 5000 c A w).map (·.2) := by intro _ _; kernel_rfl)
 (hm : ok1 (zr P none c).rg (zr P none c).bx = ok2 (zr P none c).rg := by kernel_rfl) : G P Q A c W :=
 zg I hc (fun A _ _ _ _ _ hK _ W hp => ⟨v, hp.1, hK v W hp.2 fun I => h A W I⟩) ho hr hm
theorem zqd (I : Inv E w0 A c.bx fs W) {f : FuncId} {args : List Nat → World → Array Value} {b d : Bool}
 (hc : ∀ A W, Inv E w0 A (zr P none c).bx fs W → Calls P f (args A W) W fun e w' => e = .returned (.bool b) ∧ Below W.heap.size W w') (e : b = d)
 (h : ∀ A W, Inv E w0 A (putc (zr P none c) (.v (.bool d))).bx fs W → G P Q A (putc (zr P none c) (.v (.bool d))) W)
 (ho : ∀ A w, j0v P (zr P none c) A w = some (.ok (.enter f (args A w)) w) := by intro _ _; kernel_rfl)
 (hr : ∀ A w, (zms P none 5000 c A w).map (·.1) = (zms P none 5000 c A w).map (·.2) := by intro _ _; kernel_rfl)
 (hm : ok1 (zr P none c).rg (zr P none c).bx = ok2 (zr P none c).rg := by kernel_rfl) : G P Q A c W :=
 by subst e; exact zq I hc h ho hr hm
def v0o (c : Cfg) (A : List Nat) : Option (Value × Array Value) :=
 match nxt c.rg with
 | some o => match wnt (p0z c.rg) c.fr o with
  | true => match o.op with
   | .call k => match k.callee with
    | .value x => some (evr A c.fr x, k.args.map (evr A c.fr))
    | _ => none
   | _ => none
  | false => none
 | none => none
theorem y0t {f : FuncId} {args : Array Value} (h : v0o c A = some (.func (.func f) #[] #[], args)) (hf : ∀ w, (callFunc f args).run P w = .ok (.enter f args) w) : j0v P c A W = some (.ok (.enter f args) W) := by
 unfold v0o at h
 unfold j0v
 split at h
 · rename_i o hn
   split at h
   · rename_i hw
     split at h
     · rename_i k hk
       split at h
       · rename_i x hx
         simp only [Option.some.injEq, Prod.mk.injEq] at h
         have := hf W
         unfold execOp
         simp only [hk]
         unfold resolve
         simp only [hx, h.1, h.2]
         simp [Deferred.ofValue, invoke, this]
       · cases h
     · cases h
   · cases h
 · cases h
theorem zgf (I : Inv E w0 A c.bx fs W) {f : FuncId} {args : List Nat → World → Array Value} {post : List Nat → World → Ending → World → Prop} (hf : ∀ args w, (callFunc f args).run P w = .ok (.enter f args) w)
 (hc : ∀ A W, Inv E w0 A (zr P none c).bx fs W → Calls P f (args A W) W (post A W))
 (h : ∀ A V, Inv E w0 A (zr P none c).bx fs V → w0.heap.size ≤ V.heap.size → (∀ v a, Fa A (putc (zr P none c) (.v v)).bx a → Fa A (zr P none c).bx a) → ∀ K : Value → World → Prop, (∀ v W, Below V.heap.size V W → (Inv E w0 A (putc (zr P none c) (.v v)).bx fs W → G P Q A (putc (zr P none c) (.v v)) W) → K v W) → ∀ e W, post A V e W → ∃ v, e = .returned v ∧ K v W)
 (ho : ∀ A w, v0o (zr P none c) A = some (.func (.func f) #[] #[], args A w) := by intro _ _; kernel_rfl)
 (hr : ∀ A w, (zms P none 5000 c A w).map (·.1) = (zms P none 5000 c A w).map (·.2) := by intro _ _; kernel_rfl)
 (hm : ok1 (zr P none c).rg (zr P none c).bx = ok2 (zr P none c).rg := by kernel_rfl) : G P Q A c W :=
 b0t I hr fun A V I => a1z I (hc A V I) (h A V I I.bel.size fun _ _ h => h) (y0t (ho A V) (hf _)) hm
def v0p (c : Cfg) (k : Nat) (cs : List SV) (x : SV) : Cfg := ⟨match nxt c.rg with | some o => putO c.fr o.dst x | none => c.fr, setL c.bx k ⟨(lk bx0 c.bx k).t, cs, false⟩, rgN c.rg, c.ks⟩
def wrOk (c : Cfg) (k : Nat) : Bool := Nat.ble (k + 1) c.bx.length && !(lk bx0 c.bx k).ro
theorem e1q (I : Inv E w0 A c.bx fs W) {f : FuncId} {args : Array Value} {post : Ending → World → Prop} (k : Nat) (hc : Calls P f args W post)
 (h : ∀ K : Value → World → Prop, (∀ v cs W', Kp [lk 0 A k] W W' → Bt W' (lk 0 A k) (lk bx0 c.bx k).t (cs.map (SV.r A)).toArray → (Inv E w0 A (v0p c k cs (.v v)).bx fs W' → G P Q A (v0p c k cs (.v v)) W') → K v W') → ∀ e W', post e W' → ∃ v, e = .returned v ∧ K v W')
 (ho : j0v P c A W = some (.ok (.enter f args) W)) (hm : ∀ cs, ok1 c.rg (setL c.bx k ⟨(lk bx0 c.bx k).t, cs, false⟩) = ok2 c.rg) (hk : wrOk c k = true) : G P Q A c W := by
 unfold wrOk at hk
 simp only [Bool.and_eq_true, Bool.not_eq_true'] at hk
 unfold j0v at ho
 split at ho
 · rename_i o hn
   split at ho
   · rename_i hw
     refine G_op (E := E) (w0 := w0) (fs := fs) hn fun K hK => h0l o.dst rfl f args (by rw [f0m]; exact hw) (by rw [c0g]; exact Option.some.inj ho) (hc.mono fun e W' hp => ?_)
     refine h (fun v W' => K ((act A c.fr).put o.dst v) W') (fun v cs W' hO hB hg => ?_) e W' hp
     have I2 := I.put (f0n hk.1) hk.2 hO hB
     have := hg I2
     unfold v0p at this
     rw [hn] at this
     have := hK A W' _ _ (List.prefix_refl _) I2 (hm cs) this
     rw [← d0p] at this
     exact this
   · cases ho
 · cases ho
theorem zge (I : Inv E w0 A c.bx fs W) (k : Nat) (t : TypeId) {f : FuncId} {args : List Nat → World → Array Value} {post : List Nat → World → Ending → World → Prop}
 (hc : ∀ A W, Inv E w0 A (zr P none c).bx fs W → Calls P f (args A W) W (post A W))
 (h : ∀ A V, Inv E w0 A (zr P none c).bx fs V → w0.heap.size ≤ V.heap.size → ∀ K : Value → World → Prop, (∀ v cs W, Kp [lk 0 A k] V W → Bt W (lk 0 A k) t (cs.map (SV.r A)).toArray → (Inv E w0 A (v0p (zr P none c) k cs (.v v)).bx fs W → G P Q A (v0p (zr P none c) k cs (.v v)) W) → K v W) → ∀ e W, post A V e W → ∃ v, e = .returned v ∧ K v W)
 (ho : ∀ A w, j0v P (zr P none c) A w = some (.ok (.enter f (args A w)) w) := by intro _ _; kernel_rfl)
 (hr : ∀ A w, (zms P none 5000 c A w).map (·.1) = (zms P none 5000 c A w).map (·.2) := by intro _ _; kernel_rfl)
 (hm : ∀ cs, ok1 (zr P none c).rg (setL (zr P none c).bx k ⟨(lk bx0 (zr P none c).bx k).t, cs, false⟩) = ok2 (zr P none c).rg := by intro _; kernel_rfl) (hk : wrOk (zr P none c) k = true := by kernel_rfl)
 (ht : (lk bx0 (zr P none c).bx k).t = t := by kernel_rfl) : G P Q A c W :=
 b0t I hr fun A V I => e1q I k (hc A V I) (by rw [ht]; exact h A V I I.bel.size) (ho A V) hm hk
def hdOp (c : Cfg) : Option Oper :=
 match nxt c.rg with
 | some o => match wnt (p0z c.rg) c.fr o with | true => some o | false => none
 | none => none
inductive VO where
 | ix (t : TypeId) (x i : Value)
 | ld (t : TypeId) (x : Value)
 | sl (t : TypeId) (x : Value) (lo hi mx : Option Value)
 | cv (s d : TypeId) (x : Value)
 | sx (t : TypeId) (x i : Value)
 | lk (t : TypeId) (x i : Value) (ok : Bool)
def VO.sem : VO → Sem Value
 | .ix t x i => Instr.indexAt t x i
 | .ld t x => Instr.loadAt t x
 | .sl t x lo hi mx => Instr.sliceAt t x lo hi mx
 | .cv s d x => convert s d x
 | .sx t x i => Instr.index t x i
 | .lk t x i ok => Instr.lookup t x i ok
def voOf (c : Cfg) (A : List Nat) : Option VO :=
 match hdOp c with
 | some o => match o.op with
  | .indexAddr t x i => some (.ix t (evr A c.fr x) (evr A c.fr i))
  | .load t x => some (.ld t (evr A c.fr x))
  | .slice t x lo hi mx => some (.sl t (evr A c.fr x) (lo.map (evr A c.fr)) (hi.map (evr A c.fr)) (mx.map (evr A c.fr)))
  | .convert s d x => some (.cv s d (evr A c.fr x))
  | .index t x i => some (.sx t (evr A c.fr x) (evr A c.fr i))
  | .lookup t x i ok => some (.lk t (evr A c.fr x) (evr A c.fr i) ok)
  | _ => none
 | none => none
theorem zx (I : Inv E w0 A c.bx fs W) (d : Nat) {vo : List Nat → VO} (v : List Nat → Value) (hx : ∀ A W, Inv E w0 A (zr P (some d) c).bx fs W → (vo A).sem.run P W = .ok (v A) W)
 (h : ∀ A W, Inv E w0 A (putc (zr P (some d) c) (.v (v A))).bx fs W → G P Q A (putc (zr P (some d) c) (.v (v A))) W)
 (hv : ∀ A, voOf (zr P (some d) c) A = some (vo A) := by intro _; kernel_rfl)
 (hr : ∀ A w, (zms P (some d) 5000 c A w).map (·.1) = (zms P (some d) 5000 c A w).map (·.2) := by intro _ _; kernel_rfl)
 (hm : ok1 (zr P (some d) c).rg (zr P (some d) c).bx = ok2 (zr P (some d) c).rg := by kernel_rfl) : G P Q A c W :=
 b0t I hr fun A W I => by
  have hv9 := hv A
  have h9 := h A W
  have hx9 := hx A W I
  clear hv h hx hr
  generalize zr P (some d) c = c at *
  unfold voOf hdOp at hv9
  split at hv9
  · rename_i o hn'
    split at hn'
    · rename_i o' hn
      split at hn'
      · rename_i hw
        simp only [Option.some.injEq] at hn'
        subst hn'
        refine G_op (E := E) (w0 := w0) (fs := fs) hn fun K hK => j0p o'.dst rfl (v A) (by rw [f0m]; exact hw) ?_ ?_
        · rw [c0g]
          unfold execOp
          cases hop : o'.op <;> simp only [hop] at hv9 ⊢ <;> first | (cases hv9; done) | (simp only [Option.some.injEq] at hv9; rw [← hv9] at hx9; unfold VO.sem at hx9; simp only [Sem.run_bind, hx9, Result.andThen_ok, Sem.run_pure])
        · have h := h9 I
          unfold putc at h
          rw [hn] at h
          have := hK A W _ c.bx (List.prefix_refl _) I hm h
          rw [show v A = (SV.v (v A)).r A from rfl, d0p]
          exact this
      · cases hn'
    · cases hn'
  · cases hv9
theorem e1r (I : Inv E w0 A c.bx fs W) (x y : SV) (hxy : x.r A = y.r A) (h : Inv E w0 A (putc c y).bx fs W → G P Q A (putc c y) W) (hv : t0i P c = some (.val x)) (hc : ∀ A w, j0u (e0t P c A w)) (hm : ok1 c.rg c.bx = ok2 c.rg) : G P Q A c W := by
 unfold t0i at hv
 split at hv
 · rename_i o hn
   split at hv
   · rename_i hw
     have hv := Option.some.inj hv
     have hc := hc A W
     unfold e0t at hc
     rw [hn] at hc
     replace h := h I
     refine G_op (E := E) (w0 := w0) (fs := fs) hn fun K hK => j0p o.dst rfl (x.r A) (by rw [f0m]; exact hw) (m0l I.ok hv hc) ?_
     unfold putc at h
     rw [hn] at h
     have := hK A W _ c.bx (List.prefix_refl _) I hm h
     rw [hxy, d0p]
     exact this
   · cases hv
 · cases hv
theorem zs (I : Inv E w0 A c.bx fs W) (d : Nat) (x y : SV) (hxy : ∀ A, x.r A = y.r A) (h : ∀ A W, Inv E w0 A (putc (zr P (some d) c) y).bx fs W → G P Q A (putc (zr P (some d) c) y) W)
 (hv : t0i P (zr P (some d) c) = some (.val x) := by kernel_rfl)
 (hc : ∀ A w, (e0t P (zr P (some d) c) A w).map (·.1) = (e0t P (zr P (some d) c) A w).map (·.2) := by intro _ _; kernel_rfl)
 (hr : ∀ A w, (zms P (some d) 5000 c A w).map (·.1) = (zms P (some d) 5000 c A w).map (·.2) := by intro _ _; kernel_rfl)
 (hm : ok1 (zr P (some d) c).rg (zr P (some d) c).bx = ok2 (zr P (some d) c).rg := by kernel_rfl) : G P Q A c W :=
 b0t I hr fun A W I => e1r I x y (hxy A) (h A W) hv (fun A w => e0g (hc A w)) hm
theorem zi (I : Inv E w0 A c.bx fs W) (d : Nat) (k : IntKind) (t e : Int) (hp : k.wrap t = e) (h : ∀ A W, Inv E w0 A (putc (zr P (some d) c) (.v (.int k e))).bx fs W → G P Q A (putc (zr P (some d) c) (.v (.int k e))) W)
 (hv : t0i P (zr P (some d) c) = some (.val (.v (.int k (k.wrap t)))) := by kernel_rfl)
 (hc : ∀ A w, (e0t P (zr P (some d) c) A w).map (·.1) = (e0t P (zr P (some d) c) A w).map (·.2) := by intro _ _; kernel_rfl)
 (hr : ∀ A w, (zms P (some d) 5000 c A w).map (·.1) = (zms P (some d) 5000 c A w).map (·.2) := by intro _ _; kernel_rfl)
 (hm : ok1 (zr P (some d) c).rg (zr P (some d) c).bx = ok2 (zr P (some d) c).rg := by kernel_rfl) : G P Q A c W :=
 zs I d (.v (.int k (k.wrap t))) (.v (.int k e)) (fun _ => by show Value.int k (k.wrap t) = .int k e; rw [hp]) h hv hc hr hm
theorem zb (I : Inv E w0 A c.bx fs W) (d : Nat) (e b : Bool) (hp : e = b) (h : ∀ A W, Inv E w0 A (putc (zr P (some d) c) (.v (.bool b))).bx fs W → G P Q A (putc (zr P (some d) c) (.v (.bool b))) W)
 (hv : t0i P (zr P (some d) c) = some (.val (.v (.bool e))) := by kernel_rfl)
 (hc : ∀ A w, (e0t P (zr P (some d) c) A w).map (·.1) = (e0t P (zr P (some d) c) A w).map (·.2) := by intro _ _; kernel_rfl)
 (hr : ∀ A w, (zms P (some d) 5000 c A w).map (·.1) = (zms P (some d) 5000 c A w).map (·.2) := by intro _ _; kernel_rfl)
 (hm : ok1 (zr P (some d) c).rg (zr P (some d) c).bx = ok2 (zr P (some d) c).rg := by kernel_rfl) : G P Q A c W :=
 zs I d (.v (.bool e)) (.v (.bool b)) (fun _ => by rw [hp]) h hv hc hr hm
theorem zbin (I : Inv E w0 A c.bx fs W) (d : Nat) {b : BinOp} {X Y : List Nat → Value} (v : Value)
 (hx : ∀ A t x y W, (do eqGuard b t x y (X A) (Y A); binOp b t (X A) (Y A) : Sem Value).run P W = .ok v W) (h : ∀ A W, Inv E w0 A (putc (zr P (some d) c) (.v v)).bx fs W → G P Q A (putc (zr P (some d) c) (.v v)) W)
 (hv : ∀ A, e1p (zr P (some d) c) A = some (b, X A, Y A) := by intro _; kernel_rfl)
 (hr : ∀ A w, (zms P (some d) 5000 c A w).map (·.1) = (zms P (some d) 5000 c A w).map (·.2) := by intro _ _; kernel_rfl)
 (hm : ok1 (zr P (some d) c).rg (zr P (some d) c).bx = ok2 (zr P (some d) c).rg := by kernel_rfl) : G P Q A c W :=
 b0t I hr fun A W I => by
  have hv := hv A
  have h := h A W I
  generalize zr P (some d) c = c at *
  unfold e1p at hv
  split at hv
  · rename_i o hn
    split at hv
    · rename_i hw
      split at hv
      · rename_i b' t' x y t2 hop
        simp only [Option.some.injEq, Prod.mk.injEq] at hv
        obtain ⟨rfl, h1, h2⟩ := hv
        refine G_op (E := E) (w0 := w0) (fs := fs) hn fun K hK => j0p o.dst rfl v (by rw [f0m]; exact hw) ?_ ?_
        · rw [c0g]
          unfold execOp
          have := hx A t' x y W
          simp only [hop, h1, h2, Sem.run_bind] at this ⊢
          rw [this]
          rfl
        · unfold putc at h
          rw [hn] at h
          have := hK A W _ c.bx (List.prefix_refl _) I hm h
          rw [show v = (SV.v v).r A from rfl, d0p]
          exact this
      · cases hv
    · cases hv
  · cases hv
end
/-! ### What a function answers -/
def resO (P : Program) (c : Cfg) : List ResultVar → Option (List SV)
 | [] => some []
 | .tmp t :: l => match resO P c l with
  | some r => some (lk (.v undef) c.fr t :: r)
  | none => none
 | .cell a ty :: l => match lk (.v undef) c.fr a with
  | .p k off => match ldB P c.bx ty k off with
   | some x => match resO P c l with
    | some r => some (x :: r)
    | none => none
   | none => none
  | _ => none
def resV (A : List Nat) : Option (List SV) → Option Value
 | some [x] => some (x.r A)
 | some l => some (.tuple (l.map (SV.r A)).toArray)
 | none => none
def e1s (c : Cfg) : Bool :=
 match c.rg with
 | .ret => true
 | .off => match c.ks with
  | [] => true
  | _ => false
 | _ => false
section
variable {P : Program} {fn : Func} {R : Ending → World → Prop} {E : List Nat} {w0 : World} {A : List Nat} {fs : List PF} {W : World} {c : Cfg} {o : Oper}
theorem m0n (I : Inv E w0 A c.bx fs W) : ∀ (rs : List ResultVar) {xs : List SV}, resO P c rs = some xs → (rs.mapM (rvS (act A c.fr).tmps)).run P W = .ok (xs.map (SV.r A)) W
 | [], xs, h => by
  simp only [resO, Option.some.injEq] at h
  subst h
  rfl
 | .tmp t :: l, xs, h => by
  unfold resO at h
  split at h
  · rename_i r hr
    simp only [Option.some.injEq] at h
    subst h
    have ih := m0n I l hr
    rw [List.mapM_cons]
    simp only [rvS, Sem.run_bind, Sem.run_pure, Result.andThen_ok, ih, List.map_cons]
    congr 3
    exact congrFun (c0g A c.fr) (.tmp t)
  · cases h
 | .cell a ty :: l, xs, h => by
  unfold resO at h
  split at h
  · rename_i k off hp
    split at h
    · rename_i x hx
      split at h
      · rename_i r hr
        simp only [Option.some.injEq] at h
        subst h
        have ih := m0n I l hr
        have h2 := a1v (P := P) I.ok hx
        have he : (act A c.fr).tmps.getD a undef = .pointer (some ⟨lk 0 A k, off, none⟩) := by
         have := congrFun (c0g A c.fr) (.tmp a)
         refine this.trans ?_
         show SV.r A (lk (.v undef) c.fr a) = _
         rw [hp]; rfl
        simp only [Instr.loadAt, Instr.sureAddr, Sem.run_bind, Sem.run_pure, Result.andThen_ok] at h2
        rw [List.mapM_cons]
        simp only [rvS, he, asAddr, Sem.run_bind, Sem.run_pure, Result.andThen_ok, h2, ih, List.map_cons]
      · cases h
    · cases h
  · cases h
theorem c1a (I : Inv E w0 A c.bx fs W) {v : Value} (h : resV A (resO P c fn.results.toList) = some v) : (results fn (act A c.fr).tmps).run P W = .ok v W := by
 cases hx : resO P c fn.results.toList with
 | none => rw [hx] at h; cases h
 | some xs =>
  rw [hx] at h
  have := m0n I _ hx
  rw [e0s, ← Array.toArray_toList (xs := fn.results), List.mapM_toArray]
  rw [Sem.run_bind]
  simp only [map_eq_pure_bind, Sem.run_bind, this, Result.andThen_ok, Sem.run_pure]
  congr 1
  match xs, h with
  | [], h => simpa [resV] using h
  | [x], h => simpa [resV] using h
  | x :: y :: l, h => simpa [resV] using h
theorem zret (I : Inv E w0 A c.bx fs W) {v : List Nat → Value} (h : ∀ A W, Inv E w0 A (zr P none c).bx fs W → R (.returned (v A)) W)
 (hv : ∀ A, resV A (resO P (zr P none c) fn.results.toList) = some (v A) := by intro _; kernel_rfl)
 (hr : ∀ A w, (zms P none 5000 c A w).map (·.1) = (zms P none 5000 c A w).map (·.2) := by intro _ _; kernel_rfl)
 (hi : e1s (zr P none c) = true := by kernel_rfl) : G P (bodyPost P fn R) A c W :=
 b0t I hr fun A W I => by
  have hv9 := c1a I (hv A)
  have h9 := h A W I
  clear h hv
  generalize zr P none c = c at *
  refine ⟨?_⟩
  obtain ⟨fr, bx, rg, ks⟩ := c
  cases rg with
  | ret =>
   have : ∀ ks, post P (bodyPost P fn R) ks .ret (act A fr) W := fun ks => by
    induction ks with
    | nil => exact ⟨rfl, _, hv9, h9⟩
    | cons k ks ih => cases k <;> exact ih
   exact this ks
  | off =>
   cases ks with
   | nil => exact ⟨rfl, _, hv9, h9⟩
   | cons => cases hi
  | pl => cases hi
  | dr => cases hi
  | one => cases hi
theorem zrb (I : Inv [] w0 A c.bx fs W) {v : Value}
 (hv : ∀ A, resV A (resO P (zr P none c) fn.results.toList) = some v := by intro _; kernel_rfl)
 (hr : ∀ A w, (zms P none 5000 c A w).map (·.1) = (zms P none 5000 c A w).map (·.2) := by intro _ _; kernel_rfl)
 (hi : e1s (zr P none c) = true := by kernel_rfl) : G P (bodyPost P fn fun en w' => en = .returned v ∧ Below w0.heap.size w0 w') A c W :=
 zret (v := fun _ => v) I (fun _ _ I => ⟨rfl, I.below⟩) hv hr hi
end
/-! ### Drawn regions -/
def f0o (Q : Exit → Act → World → Prop) : Prop := ∀ ch a d v w, Q (.panic ch) (Act.put a d v) w → Q (.panic ch) a w
theorem e0h {P : Program} {fn : Func} {R : Ending → World → Prop} : f0o (bodyPost P fn R) := fun ch a d v w h => by
 cases d <;> exact h
theorem e0u {P : Program} {Q : Exit → Act → World → Prop} (hQ : f0o Q) : ∀ ks, f0o (post P Q ks)
 | [] => hQ
 | .code _ :: ks => fun ch a d v w h => e0u hQ ks ch a d v w h
 | .block _ :: ks => fun ch a d v w h => e0u hQ ks ch a d v w h
 | .stop _ :: ks => fun ch a d v w h => e0u hQ ks ch a d v w h
def memN (k : Nat) : List Nat → Bool
 | [] => false
 | x :: l => match Nat.beq k x with | true => true | false => memN k l
def mkM (ex : List Nat) : Nat → List Box → List (Option Box)
 | _, [] => []
 | k, b :: l => (match memN k ex with | true => none | false => some b) :: mkM ex (k + 1) l
theorem v0q (ex : List Nat) : ∀ (l : List Box) (k : Nat), (mkM ex k l).length = l.length
 | [], _ => rfl
 | _ :: l, k => by simp [mkM, v0q ex l]
theorem q0b (ex : List Nat) : ∀ (l : List Box) (k : Nat), msk (mkM ex k l) l = mkM ex k l
 | [], _ => rfl
 | b :: l, k => by
  unfold mkM
  split
  · simp [msk, q0b ex l]
  · simp [msk, q0b ex l]
def e1t (c : Cfg) : Bool :=
 match c.rg, c.ks with
 | .off, .code (.region _ _ true) :: _ => true
 | _, _ => false
def e1u (ex : List Nat) (c : Cfg) (A : List Nat) : Cfg :=
 match c.rg, c.ks with
 | .off, .code (.region _ ops true) :: ks => ⟨c.fr, c.bx, .dr ops A (mkM ex 0 c.bx) ops.size (Array.replicate ops.size false), ks⟩
 | _, _ => c
def m0o (P : Program) (i : Nat) (c : Cfg) : Cfg :=
 match c.rg with
 | .dr ops A0 m (fuel + 1) listed => match ops[i]? with
  | some o => match wnt ops c.fr o with
   | false => ⟨putO c.fr o.dst (.v undef), c.bx, .dr ops A0 m fuel (listed.setIfInBounds i true), c.ks⟩
   | true => match eff P (m.map unm) c.fr o with
    | .val x => ⟨putO c.fr o.dst x, c.bx, .dr ops A0 m fuel (listed.setIfInBounds i true), c.ks⟩
    | _ => c
  | none => c
 | _ => c
def q0c (P : Program) (i : Nat) (c : Cfg) : Bool :=
 match c.rg with
 | .dr ops _ m (_ + 1) listed => match ops[i]? with
  | some o => match Region.noSelect ops && Region.free .any ops listed i && (Region.ready .any ops listed).contains i with
   | true => match wnt ops c.fr o with
    | false => true
    | true => match eff P (m.map unm) c.fr o with
     | .val _ => true
     | _ => false
   | false => false
  | none => false
 | _ => false
def c0l (P : Program) (i : Nat) (c : Cfg) (A : List Nat) (w : World) : List (Result Next × Result Next) :=
 match c.rg with
 | .dr ops _ m _ _ => match ops[i]? with
  | some o => match wnt ops c.fr o with
   | false => []
   | true => j0t P (m.map unm) c.fr o A w
  | none => []
 | _ => []
def c1b (P : Program) : List Nat → Cfg → Cfg
 | [], c => c
 | i :: is, c => c1b P is (m0o P i c)
def v0r (P : Program) : List Nat → Cfg → Bool
 | [], _ => true
 | i :: is, c => match q0c P i c with | true => v0r P is (m0o P i c) | false => false
def m0p (P : Program) : List Nat → Cfg → List Nat → World → List (Result Next × Result Next)
 | [], _, _, _ => []
 | i :: is, c, A, w => c0l P i c A w ++ m0p P is (m0o P i c) A w
def dk1 : Rg → List Box → List (Option Box)
 | .dr _ _ m _ _, bx => msk m bx
 | _, _ => []
def dk2 : Rg → List (Option Box)
 | .dr _ _ m _ _ => m
 | _ => []
def c1c (c : Cfg) : Prop := dk1 c.rg c.bx = dk2 c.rg
def q0d (c : Cfg) : Option (List Nat) :=
 match c.rg with
 | .dr ops _ _ (_ + 1) listed => some (Region.ready .any ops listed)
 | _ => none
def oneC (i : Nat) (c : Cfg) : Cfg :=
 match c.rg with
 | .dr ops A0 m (fuel + 1) listed => ⟨c.fr, c.bx, .one ops A0 m fuel listed i, c.ks⟩
 | _ => c
section
variable {P : Program} {Q : Exit → Act → World → Prop} {E : List Nat} {w0 : World} {A : List Nat} {fs : List PF} {W : World} {c : Cfg} {o : Oper}
theorem e1v {A0 : List Nat} {m : List (Option Box)} {w : World} (h : PreD A0 m A) (hS : SB A0 m w) : BtOk A (m.map unm) w := fun k hk hc => by
 have := hS k hk hc
 rw [List.length_map] at hk
 rw [r0r h.pre (by have := h.le; omega), v0n h.pre h.wf]
 exact this
theorem q0e (hQ : f0o Q) (I : Inv E w0 A c.bx fs W) (hm : c1c c) (i : Nat) (h : G P Q A (m0o P i c) W) (ho : q0c P i c = true) (hc : ∀ A w, j0u (c0l P i c A w)) : G P Q A c W := by
 refine ⟨?_⟩
 have h := h.out
 obtain ⟨fr, bx, rg, ks⟩ := c
 cases rg with
 | off => cases ho
 | pl => cases ho
 | one => cases ho
 | ret => cases ho
 | dr ops A0 m fuel listed =>
  cases fuel with
  | zero => cases ho
  | succ fuel =>
   unfold q0c at ho
   unfold m0o at h
   unfold c0l at hc
   simp only at ho h hc
   intro pre
   split at ho
   · rename_i o hi
     rw [hi] at h hc
     split at ho
     · rename_i h1
       simp only [Bool.and_eq_true] at h1
       obtain ⟨⟨h1, h2⟩, h3⟩ := h1
       have hS : SB A0 m W := y0s I pre hm
       have hP := fun (x : Value) c a w => e0u (P := P) hQ ks c a o.dst x w
       cases hw : wnt ops fr o with
       | false =>
        simp only [hw] at h
        have h : WpH P ops (post P Q ks) (SB A0 m) fuel (listed.setIfInBounds i true) (act A (putO fr o.dst (.v undef))) W := h pre
        rw [← d0p] at h
        exact i0b i o.dst undef _ hi rfl rfl h1 h2 h3 (hP undef) (.inr ⟨by rw [f0m]; exact hw, rfl⟩) hS h
       | true =>
        simp only [hw] at h ho hc
        split at ho
        · rename_i x hx
          rw [hx] at h
          simp only at h
          have h : WpH P ops (post P Q ks) (SB A0 m) fuel (listed.setIfInBounds i true) (act A (putO fr o.dst x)) W := h pre
          rw [← d0p] at h
          exact i0b i o.dst (x.r A) _ hi rfl rfl h1 h2 h3 (hP _) (.inl ⟨by rw [f0m]; exact hw, fun w' hS' => m0l (e1v pre hS') hx (hc A w')⟩) hS h
        · cases ho
     · cases ho
   · cases ho
theorem v0s (i : Nat) (hm : c1c c) : c1c (m0o P i c) := by
 obtain ⟨fr, bx, rg, ks⟩ := c
 cases rg with
 | dr ops A0 m fuel listed =>
  cases fuel with
  | zero => exact hm
  | succ fuel =>
   unfold m0o
   simp only
   split
   · split
     · exact hm
     · split
       · exact hm
       · exact hm
   · exact hm
 | _ => exact hm
theorem y0u (i : Nat) : (m0o P i c).bx = c.bx := by
 unfold m0o
 repeat' split
 all_goals rfl
theorem zk (is : List Nat) (I : Inv E w0 A c.bx fs W) (h : Inv E w0 A (nrm (c1b P is c)).bx fs W → G P Q A (nrm (c1b P is c)) W) (ho : v0r P is c = true := by kernel_rfl)
 (hc : ∀ A w, (m0p P is c A w).map (·.1) = (m0p P is c A w).map (·.2) := by intro _ _; kernel_rfl) (hm : dk1 c.rg c.bx = dk2 c.rg := by kernel_rfl) (hQ : f0o Q := by exact e0h) : G P Q A c W := by
 rw [v0m] at h
 replace hc := fun A w => e0g (hc A w)
 induction is generalizing c with
 | nil => exact h I
 | cons i is ih =>
  unfold v0r at ho
  split at ho
  · rename_i h1
    refine q0e hQ I hm i (ih (by rw [y0u]; exact I) h ho (v0s i hm) fun A w => (c0t (hc A w)).2) h1 fun A w => (c0t (hc A w)).1
  · cases ho
theorem zd (ex : List Nat) (I : Inv E w0 A c.bx fs W) (h : ∀ A W, Inv E w0 A (e1u ex (zr P none c) A).bx fs W → G P Q A (e1u ex (zr P none c) A) W)
 (hr : ∀ A w, (zms P none 5000 c A w).map (·.1) = (zms P none 5000 c A w).map (·.2) := by intro _ _; kernel_rfl)
 (hd : e1t (zr P none c) = true := by kernel_rfl) (hw : wfB (zr P none c).bx.length ((mkM ex 0 (zr P none c).bx).map unm) = true := by kernel_rfl) (hm : P.follows .mixedOrders = true := by kernel_rfl) : G P Q A c W :=
 b0t I hr fun A W I => by
  have h := h A
  generalize zr P none c = c at *
  refine ⟨?_⟩
  obtain ⟨fr, bx, rg, ks⟩ := c
  cases rg with
  | pl => cases hd
  | dr => cases hd
  | one => cases hd
  | ret => cases hd
  | off =>
   cases ks with
   | nil => cases hd
   | cons k ks =>
    cases k with
    | block => cases hd
    | stop => cases hd
    | code x =>
     cases x with
     | region id ops b =>
      cases b with
      | false => cases hd
      | true =>
       have I2 := I.past (W' := W.drew) (Below.refl _ _).drew
       have hp : PreD A (mkM ex 0 bx) A := ⟨List.prefix_refl _, by rw [v0q, I.len]; exact Nat.le_refl _, by rw [I.len]; exact hw⟩
       have h := (h W.drew I2).out
       exact sxd P _ rfl (y0s I2 hp (q0b ex bx 0)) (h hp) hm
     | _ => cases hd
theorem zor (rs : List Nat) (h : ∀ i ∈ rs, G P Q A (oneC i c) W) (hr : q0d c = some rs) (hne : rs.isEmpty = false) : G P Q A c W := by
 refine ⟨?_⟩
 obtain ⟨fr, bx, rg, ks⟩ := c
 cases rg with
 | off => cases hr
 | pl => cases hr
 | one => cases hr
 | ret => cases hr
 | dr ops A0 m fuel listed =>
  cases fuel with
  | zero => cases hr
  | succ fuel =>
   intro pre
   refine r0o rs (Option.some.inj hr) hne ?_
   clear hr hne
   induction rs with
   | nil => exact v0h
   | cons i rs ih =>
    obtain ⟨o, ho, hk⟩ := (h i (by simp)).out pre
    exact r0p _ ho rfl hk (ih fun j hj => h j (by simp [hj]))
theorem q0f (i : Nat) : (oneC i c).bx = c.bx := by
 unfold oneC
 split <;> rfl
theorem zo (i : Nat) (I : Inv E w0 A c.bx fs W) (h : Inv E w0 A (oneC i c).bx fs W → G P Q A (oneC i c) W) (hr : q0d c = some [i] := by kernel_rfl) : G P Q A c W := zor [i] (fun j hj => by rw [List.mem_singleton] at hj; subst hj; exact h (by rw [q0f]; exact I)) hr rfl
theorem zo2 (i j : Nat) (I : Inv E w0 A c.bx fs W) (h : Inv E w0 A (oneC i c).bx fs W → G P Q A (oneC i c) W) (k : Inv E w0 A (oneC j c).bx fs W → G P Q A (oneC j c) W) (hr : q0d c = some [i, j] := by kernel_rfl) : G P Q A c W :=
 zor [i, j] (fun x hx => by simp only [List.mem_cons, List.not_mem_nil, or_false] at hx; rcases hx with rfl | rfl <;> first | exact h (by rw [q0f]; exact I) | exact k (by rw [q0f]; exact I)) hr rfl
def oneN (P : Program) (c : Cfg) : Cfg :=
 match nxt c.rg with
 | some o => match aft c.bx c.fr o.dst (eff P c.bx c.fr o) with
  | some (fr, bx) => ⟨fr, bx, rgN c.rg, c.ks⟩
  | none => c
 | none => c
def b1a (P : Program) (c : Cfg) : Bool :=
 match nxt c.rg with
 | some o => match wnt (p0z c.rg) c.fr o with
  | true => match aft c.bx c.fr o.dst (eff P c.bx c.fr o) with
   | some _ => true
   | none => false
  | false => false
 | none => false
theorem zn (I : Inv E w0 A c.bx fs W) (h : ∀ A W, Inv E w0 A (nrm (oneN P c)).bx fs W → G P Q A (nrm (oneN P c)) W) (ho : b1a P c = true := by kernel_rfl)
 (hc : ∀ A w, (e0t P c A w).map (·.1) = (e0t P c A w).map (·.2) := by intro _ _; kernel_rfl) (hm : ok1 c.rg (oneN P c).bx = ok2 c.rg := by kernel_rfl) : G P Q A c W := by
 rw [v0m] at h
 have hc := e0g (hc A W)
 unfold b1a at ho
 unfold e0t at hc
 unfold oneN at h hm
 split at ho
 · rename_i o hn
   rw [hn] at h hc hm
   simp only at h hc hm
   split at ho
   · rename_i hw
     split at ho
     · rename_i r ha
       obtain ⟨fr, bx⟩ := r
       rw [ha] at h hm
       simp only at h hm
       exact G_op (E := E) (w0 := w0) (fs := fs) hn fun K hK => a1w I hw hc ha fun A' W' hA I' => hK A' W' _ _ hA I' hm (h A' W' I')
     · cases ho
   · cases ho
 · cases ho
/-! ### Loops, and where ways come together -/
def v0t (c : Cfg) : Option (Code × List Kt) :=
 match c.rg, c.ks with
 | .off, .code (.loop b) :: ks => some (b, ks)
 | _, _ => none
def l0f (c : Cfg) (fr : List SV) (bx : List Box) (J : Act → World → Prop) : Cfg :=
 match v0t c with
 | some (b, ks) => ⟨fr, bx, .off, .code b :: .stop J :: ks⟩
 | none => c
def uOf (c : Cfg) (A : List Nat) : Nat → Value := fun i => (lk (.v undef) c.fr i).r A
def su : Nat → List SV → List SV
 | 0, l => l
 | n + 1, l => .v undef :: su n l
def sw (U : Nat → Value) : Nat → Nat → List SV → List SV
 | _, 0, l => l
 | i, n + 1, l => .v (U i) :: sw U (i + 1) n l
theorem e1w (I : Inv E w0 A c.bx fs W) (L : Nat → List SV → List Box → List PF → Prop) (n0 : Nat) {fr : List Nat → (Nat → Value) → List SV} {bx : List Nat → (Nat → Value) → List Box}
 (h0 : ∀ A W U, Inv E w0 A (bx A U) fs W → ∃ gs, L n0 (fr A U) (bx A U) gs ∧ Inv E w0 A (bx A U) gs W)
 (h : ∀ J n fr bx gs, L n fr bx gs → (∀ n' fr' bx' gs' A W, n' < n → L n' fr' bx' gs' → Inv E w0 A bx' gs' W → J (act A fr') W) → ∀ A W, Inv E w0 A (l0f (zr P none c) fr bx J).bx gs W → G P Q A (l0f (zr P none c) fr bx J) W)
 (hr : ∀ A w, (zms P none 5000 c A w).map (·.1) = (zms P none 5000 c A w).map (·.2) := by intro _ _; kernel_rfl)
 (hf : ∀ A, (zr P none c).fr.map (SV.r A) = (fr A (uOf (zr P none c) A)).map (SV.r A) := by intro _; kernel_rfl)
 (hb : ∀ A, (zr P none c).bx = bx A (uOf (zr P none c) A) := by intro _; kernel_rfl)
 (hl : (v0t (zr P none c)).isSome = true := by kernel_rfl) : G P Q A c W :=
 b0t I hr fun A W I => by
  have h9 := h0 A W (uOf (zr P none c) A) (by rw [← hb A]; exact I)
  have hf := hf A
  clear h0 hb
  generalize zr P none c = c at *
  refine ⟨?_⟩
  obtain ⟨gs, h9, I9⟩ := h9
  obtain ⟨cf, cb, rg, ks⟩ := c
  cases rg with
  | pl => cases hl
  | dr => cases hl
  | one => cases hl
  | ret => cases hl
  | off =>
   cases ks with
   | nil => cases hl
   | cons k ks =>
    cases k with
    | block => cases hl
    | stop => cases hl
    | code b =>
     cases b with
     | loop b =>
      refine wp_loop_ghost (fun n a w => ∃ fr bx gs A, L n fr bx gs ∧ a = act A fr ∧ Inv E w0 A bx gs w) n0 ⟨_, _, gs, A, h9, by unfold act; rw [hf], I9⟩ ?_
      rintro n a w ⟨fr, bx, gs, A, hL, rfl, I⟩
      exact (h (fun a w => ∃ n', n' < n ∧ ∃ fr bx gs A, L n' fr bx gs ∧ a = act A fr ∧ Inv E w0 A bx gs w) n fr bx gs hL (fun n' fr' bx' gs' A W hn hL I => ⟨n', hn, fr', bx', gs', A, hL, rfl, I⟩) A w I).out
     | _ => cases hl
def e1x (c : Cfg) : Option (Act → World → Prop) :=
 match c.rg, c.ks with
 | .off, .stop J :: _ => some J
 | _, _ => none
theorem a0q (I : Inv E w0 A c.bx fs W) (J : Act → World → Prop) {fr : List Nat → (Nat → Value) → List SV} {bx : List Nat → (Nat → Value) → List Box} (h : ∀ A W U, Inv E w0 A (bx A U) fs W → J (act A (fr A U)) W)
 (hr : ∀ A w, (zms P none 5000 c A w).map (·.1) = (zms P none 5000 c A w).map (·.2) := by intro _ _; kernel_rfl)
 (hf : ∀ A, (zr P none c).fr.map (SV.r A) = (fr A (uOf (zr P none c) A)).map (SV.r A) := by intro _; kernel_rfl)
 (hb : ∀ A, (zr P none c).bx = bx A (uOf (zr P none c) A) := by intro _; kernel_rfl)
 (hs : e1x (zr P none c) = some J := by kernel_rfl) : G P Q A c W :=
 b0t I hr fun A W I => by
  have h := h A W (uOf (zr P none c) A) (by rw [← hb A]; exact I)
  have hf := hf A
  clear hb
  unfold act at h
  rw [← hf] at h
  generalize zr P none c = c at *
  refine ⟨?_⟩
  obtain ⟨cf, cb, rg, ks⟩ := c
  cases rg with
  | pl => cases hs
  | dr => cases hs
  | one => cases hs
  | ret => cases hs
  | off =>
   cases ks with
   | nil => cases hs
   | cons k ks =>
    cases k with
    | block => cases hs
    | code => cases hs
    | stop J' =>
     obtain rfl : J' = J := Option.some.inj hs
     exact h
def cut1 (c : Cfg) (J : Act → World → Prop) : Cfg :=
 match c.ks with
 | k :: ks => ⟨c.fr, c.bx, c.rg, k :: .stop J :: ks⟩
 | [] => c
def cut2 (c : Cfg) (fr : List SV) (bx : List Box) : Cfg :=
 match c.ks with
 | _ :: ks => ⟨fr, bx, .off, ks⟩
 | [] => c
def e1y (c : Cfg) : Bool :=
 match c.rg, c.ks with
 | .off, .code _ :: _ => true
 | _, _ => false
theorem zcut (I : Inv E w0 A c.bx fs W) (d : Option Nat) (L : List SV → List Box → List PF → Prop)
 (h1 : ∀ J, (∀ fr bx gs A W, L fr bx gs → Inv E w0 A bx gs W → J (act A fr) W) → ∀ A W, Inv E w0 A (cut1 (zr P d c) J).bx fs W → G P Q A (cut1 (zr P d c) J) W)
 (h2 : ∀ fr bx gs, L fr bx gs → ∀ A W, Inv E w0 A (cut2 (zr P d c) fr bx).bx gs W → G P Q A (cut2 (zr P d c) fr bx) W)
 (hr : ∀ A w, (zms P d 5000 c A w).map (·.1) = (zms P d 5000 c A w).map (·.2) := by intro _ _; kernel_rfl)
 (hi : e1y (zr P d c) = true := by kernel_rfl) : G P Q A c W :=
 b0t I hr fun A W I => by
  have h1 := fun J hJ => h1 J hJ A W
  have h2 := fun fr bx gs hL A W I => (h2 fr bx gs hL A W I).out
  generalize zr P d c = c at *
  refine ⟨?_⟩
  obtain ⟨cf, cb, rg, ks⟩ := c
  cases rg with
  | pl => cases hi
  | dr => cases hi
  | one => cases hi
  | ret => cases hi
  | off =>
   cases ks with
   | nil => cases hi
   | cons k ks =>
    cases k with
    | block => cases hi
    | stop => cases hi
    | code b =>
     refine wp_mono (h1 (fun a w => ∃ fr bx gs A, L fr bx gs ∧ a = act A fr ∧ Inv E w0 A bx gs w) (fun fr bx gs A W hL I => ⟨fr, bx, gs, A, hL, rfl, I⟩) I).out ?_
     intro e a w hq
     cases e with
     | normal =>
      obtain ⟨fr, bx, gs, A, hL, rfl, I⟩ := hq
      exact h2 fr bx gs hL A w I
     | exit id => exact hq
     | goto l => exact hq
     | ret => exact hq
     | panic ch => exact hq
     | outgrown => exact hq
def m0q (i : Nat) (y : SV) (c : Cfg) : Cfg :=
 match c.rg with
 | .dr ops A0 m (fuel + 1) listed => match ops[i]? with
  | some o => ⟨putO c.fr o.dst y, c.bx, .dr ops A0 m fuel (listed.setIfInBounds i true), c.ks⟩
  | none => c
 | _ => c
def m0r (P : Program) (i : Nat) (c : Cfg) : Option Eff :=
 match c.rg with
 | .dr ops _ m (_ + 1) listed => match ops[i]? with
  | some o => match Region.noSelect ops && Region.free .any ops listed i && (Region.ready .any ops listed).contains i && wnt ops c.fr o with
   | true => some (eff P (m.map unm) c.fr o)
   | false => none
  | none => none
 | _ => none
theorem y0v (i : Nat) (y : SV) : (m0q i y c).bx = c.bx := by
 unfold m0q
 repeat' split
 all_goals rfl
theorem ztk (i : Nat) (I : Inv E w0 A c.bx fs W) (x y : SV) (hxy : ∀ A, x.r A = y.r A) (h : Inv E w0 A (m0q i y c).bx fs W → G P Q A (m0q i y c) W) (hv : m0r P i c = some (.val x) := by kernel_rfl)
 (hc : ∀ A w, (c0l P i c A w).map (·.1) = (c0l P i c A w).map (·.2) := by intro _ _; kernel_rfl) (hm : dk1 c.rg c.bx = dk2 c.rg := by kernel_rfl) (hQ : f0o Q := by exact e0h) : G P Q A c W := by
 refine ⟨?_⟩
 have h := (h (by rw [y0v]; exact I)).out
 replace hc := fun A w => e0g (hc A w)
 obtain ⟨cf, cb, rg, ks⟩ := c
 cases rg with
 | off => cases hv
 | pl => cases hv
 | one => cases hv
 | ret => cases hv
 | dr ops A0 m fuel listed =>
  cases fuel with
  | zero => cases hv
  | succ fuel =>
   unfold m0r at hv
   unfold m0q at h
   unfold c0l at hc
   simp only at hv h hc
   intro pre
   split at hv
   · rename_i o hi
     rw [hi] at h hc
     split at hv
     · rename_i h1
       simp only [Bool.and_eq_true] at h1
       obtain ⟨⟨⟨h1, h2⟩, h3⟩, hw⟩ := h1
       have hS : SB A0 m W := y0s I pre hm
       have hx := Option.some.inj hv
       simp only [hw] at hc
       have h : WpH P ops (post P Q ks) (SB A0 m) fuel (listed.setIfInBounds i true) (act A (putO cf o.dst y)) W := h pre
       rw [← d0p, ← hxy] at h
       exact i0b i o.dst (x.r A) _ hi rfl rfl h1 h2 h3 (fun c a w => e0u (P := P) hQ ks c a o.dst (x.r A) w) (.inl ⟨by rw [f0m]; exact hw, fun w' hS' => m0l (e1v pre hS') hx (hc A w')⟩) hS h
     · cases hv
   · cases hv
theorem zki (i : Nat) (I : Inv E w0 A c.bx fs W) (k : IntKind) (t e : Int) (hp : k.wrap t = e) (h : Inv E w0 A (m0q i (.v (.int k e)) c).bx fs W → G P Q A (m0q i (.v (.int k e)) c) W) (hv : m0r P i c = some (.val (.v (.int k (k.wrap t)))) := by kernel_rfl)
 (hc : ∀ A w, (c0l P i c A w).map (·.1) = (c0l P i c A w).map (·.2) := by intro _ _; kernel_rfl) (hm : dk1 c.rg c.bx = dk2 c.rg := by kernel_rfl) (hQ : f0o Q := by exact e0h) : G P Q A c W :=
 ztk i I (.v (.int k (k.wrap t))) (.v (.int k e)) (fun _ => by show Value.int k (k.wrap t) = .int k e; rw [hp]) h hv hc hm hQ
theorem zkb (i : Nat) (I : Inv E w0 A c.bx fs W) (e b : Bool) (hp : e = b) (h : Inv E w0 A (m0q i (.v (.bool b)) c).bx fs W → G P Q A (m0q i (.v (.bool b)) c) W) (hv : m0r P i c = some (.val (.v (.bool e))) := by kernel_rfl)
 (hc : ∀ A w, (c0l P i c A w).map (·.1) = (c0l P i c A w).map (·.2) := by intro _ _; kernel_rfl) (hm : dk1 c.rg c.bx = dk2 c.rg := by kernel_rfl) (hQ : f0o Q := by exact e0h) : G P Q A c W :=
 ztk i I (.v (.bool e)) (.v (.bool b)) (fun _ => by rw [hp]) h hv hc hm hQ
end
section walk
variable {P : Program} {ops : Array Oper} {rest : List Oper} {o : Oper} {a : Act} {K : Act → World → Prop} {Q : Exit → Act → World → Prop} {w : World}
end walk
theorem Own.kept {w w' : World} {base : Nat} {k : IntKind} {e : TypeId} {p q : Option Addr} {c : Nat} {xs : List Nat} (h : Own w base k e p c xs) (hg : w.grownBy w' (q.map (·.block))) (hne : q.isSome = true → p.isSome = true → blk q ≠ blk p) : Own w' base k e p c xs := by
 refine h.grown hg fun hp => ?_
 cases q with
 | none => simp
 | some a =>
  have := hne rfl hp
  simp [blk] at this ⊢
  exact fun e => this e.symm
end Go.Slip
namespace Go.Proofs.YtmacohmclpnphaaDoor
open Go.RowKit Go.Slip
end Go.Proofs.YtmacohmclpnphaaDoor
namespace Go.Slip
open Go.RowKit
theorem Rd.pre {w : World} {k : IntKind} {p : Option Addr} {xs ys : List Nat} (h : Rd w k p (xs ++ ys)) : Rd w k p xs := by
 have hl : (xs ++ ys).length = xs.length + ys.length := List.length_append
 refine ⟨fun h0 => h.solid (by omega), fun j hj => ?_⟩
 rw [h.cells j (by omega)]
 unfold dg
 rw [List.getElem?_append_left hj]
theorem m0s {P : Program} {t e : TypeId} (h : P.underlying t = some (.slice e)) : P.elem t = e := by
 unfold Program.elem
 rw [h]
theorem v0u {P : Program} {t e : TypeId} {k : IntKind} {bytes : Nat} (hty : SlTy P t e k bytes) (w : World) : (sizeOf (P.elem t)).run P w = .ok 1 w := by
 obtain ⟨i, hi, -, hs, -⟩ := hty.hi
 rw [m0s hty.ht]
 simp [sizeOf, typeInfo, hi, hs]
theorem c1d {P : Program} {t e : TypeId} {k : IntKind} {bytes : Nat} (hty : SlTy P t e k bytes) : P.underlying t = some (.slice (P.elem t)) := by
 rw [m0s hty.ht]; exact hty.ht
section
variable {P : Program} {ops : Array Oper} {Q : Exit → Act → World → Prop} {a : Act} {w : World} {rest : List Oper} {o : Oper}
theorem m0t {t : TypeId} {x y : Operand} {dst : Option Tmp} {t2 : TypeId} {pos : String} {af : Array Edge} {g : Option (Nat × Bool)} {e : TypeId} {k : IntKind} {bytes : Nat} (hty : SlTy P t e k bytes) {p : Option Addr} {n c m : Nat}
 (hp : g0s p n) (hx : a.eval x = .slice p n c) (hy : a.eval y = .int .i64 (m : Int)) (hm : m < n) : (execOp a.eval ⟨dst, .indexAddr t x y, t2, pos, af, g⟩).run P w = .ok (.value (.pointer (some (at_ p m)))) w := by
 unfold execOp
 simp only [hx, hy, Sem.run_bind, run_indexAt_solid w t p n c .i64 m (c1d hty) hp, if_pos (show (0 : Int) ≤ (m : Int) ∧ (m : Int) < (n : Int) by omega), v0u hty, Result.andThen_ok, Sem.run_pure, Int.toNat_natCast, Nat.mul_one]
theorem i0u {ty : TypeId} {x : Operand} {dst : Option Tmp} {t2 : TypeId} {pos : String} {af : Array Edge} {g : Option (Nat × Bool)} {k : IntKind} {p : Option Addr} {xs : List Nat} (hr : Rd w k p xs) (hT : e0a P ty) {m : Nat} {v : Int}
 (hx : a.eval x = .pointer (some (at_ p m))) (hm : m < xs.length) (hv : ((dg xs m : Nat) : Int) = v) : (execOp a.eval ⟨dst, .load ty x, t2, pos, af, g⟩).run P w = .ok (.value (.int k v)) w := by
 refine v0f hx ?_
 have hl : (load (at_ p m)).run P w = .ok (.int k v) w := by
  have := hr.cells m hm
  rw [hv] at this
  simp [go_sem, this]
 simp only [Instr.loadAt, Instr.sureAddr, Sem.run_bind, Sem.run_pure, Result.andThen_ok, loadVar, f0e hT]
 simpa using hl
end
def c0i (s : ByteArray) : List Nat := s.data.toList.map UInt8.toNat
theorem d0g (s : ByteArray) : (c0i s).length = s.size := by unfold c0i; rw [List.length_map, Array.length_toList]; rfl
theorem t0j (s : ByteArray) : ∀ x ∈ c0i s, x < 256 := by
 intro x hx
 obtain ⟨u, _, rfl⟩ := List.mem_map.1 hx
 exact u.toNat_lt
theorem i0p {w : World} {B : Nat} (hB : B ≤ w.heap.size) (e : TypeId) (s : ByteArray) : Below B w (Lib.bytesWorld w e s) := by
 refine ⟨?_, ?_, ?_, by rw [Lib.bytesWorld_size]; omega, fun i hi => Lib.bytesWorld_at_old w e s i (by omega)⟩
 all_goals (unfold Lib.bytesWorld World.freeze; split <;> rfl)
theorem m0u (w : World) (e : TypeId) (s : ByteArray) : Rd (Lib.bytesWorld w e s) .u8 (some ⟨w.heap.size, 0, none⟩) (c0i s) := by
 refine ⟨fun _ => ⟨rfl, rfl⟩, fun j hj => ?_⟩
 have hj2 : j < s.size := by rw [← d0g]; exact hj
 have h := Lib.bytesWorld_cell w e s j hj2
 simp only [at_, Option.getD_some, Nat.zero_add]
 rw [h, b0f hj]
 simp [c0i, List.getD, hj2]
section walk
variable {P : Program} {ops : Array Oper} {rest : List Oper} {o : Oper} {a : Act} {K : Act → World → Prop} {Q : Exit → Act → World → Prop} {w : World}
end walk
structure RdV (w : World) (p : Option Addr) (vs : List Value) : Prop where
 solid : g0s p vs.length
 cells : ∀ j, j < vs.length → w.cell? (at_ p j) = vs[j]?
theorem RdV.nil (w : World) (p : Option Addr) : RdV w p [] := ⟨fun h => by simp at h, fun j hj => by simp at hj⟩
theorem RdV.lt {w : World} {p : Option Addr} {vs : List Value} (h : RdV w p vs) (h0 : 0 < vs.length) : blk p < w.heap.size :=
 World.block_lt_of_cell? w (at_ p 0) (u := vs[0]) (by rw [h.cells 0 h0, List.getElem?_eq_getElem h0])
theorem RdV.same {w w' : World} {p : Option Addr} {vs : List Value} (h : RdV w p vs) (hb : 0 < vs.length → w'.heap[blk p]? = w.heap[blk p]?) : RdV w' p vs :=
 ⟨h.solid, fun j hj => by rw [World.cell?_of_block (w := w) (a := at_ p j) (hb (by omega))]; exact h.cells j hj⟩
theorem RdV.below {w w' : World} {B : Nat} {p : Option Addr} {vs : List Value} (h : RdV w p vs) (hb : Below B w w') (hp : 0 < vs.length → blk p < B) : RdV w' p vs :=
 h.same fun h0 => hb.block _ (hp h0)
theorem RdV.past {w w' : World} {p : Option Addr} {vs : List Value} (h : RdV w p vs) (hb : Below w.heap.size w w') : RdV w' p vs :=
 h.below hb fun h0 => h.lt h0
theorem RdV.drop {w : World} {p : Option Addr} {vs : List Value} (h : RdV w p vs) (n : Nat) : RdV w (p.map (·.add n)) (vs.drop n) := by
 refine ⟨fun h0 => ?_, fun j hj => ?_⟩
 · have h1 := h.solid (by simp at h0; omega)
   refine ⟨by simpa using h1.1, ?_⟩
   rw [l0x p n h1.1]
   unfold Addr.add
   split
   · exact h1.2
   · rfl
 · simp only [List.length_drop] at hj
   have h1 := h.solid (by omega)
   rw [u0e p n j h1.1, h.cells (n + j) (by omega), List.getElem?_drop]
theorem RdV.take {w : World} {p : Option Addr} {vs : List Value} (h : RdV w p vs) (n : Nat) : RdV w p (vs.take n) := by
 refine ⟨h.solid.mono (by simp; omega), fun j hj => ?_⟩
 simp only [List.length_take] at hj
 rw [h.cells j (by omega), List.getElem?_take, if_pos (by omega)]
theorem Rd.v {w : World} {k : IntKind} {p : Option Addr} {xs : List Nat} (h : Rd w k p xs) : RdV w p (xs.map fun x : Nat => Value.int k (x : Int)) := by
 refine ⟨by rw [List.length_map]; exact h.solid, fun j hj => ?_⟩
 rw [List.length_map] at hj
 rw [h.cells j hj, List.getElem?_map]
 simp [hj, b0f]
def OwnV (w : World) (base : Nat) (e : TypeId) (p : Option Addr) (c : Nat) (vs : List Value) : Prop := w.ownsRow base e 1 (.slice p vs.length c) vs.length vs
theorem Own.v {w : World} {base : Nat} {k : IntKind} {e : TypeId} {p : Option Addr} {c : Nat} {xs : List Nat} (h : Own w base k e p c xs) : OwnV w base e p c (xs.map fun x : Nat => Value.int k (x : Int)) := by
 unfold OwnV
 rw [List.length_map]
 exact h
theorem r0s {w : World} {base : Nat} {k : IntKind} {e : TypeId} {p : Option Addr} {c : Nat} {xs : List Nat} (h : OwnV w base e p c (xs.map fun x : Nat => Value.int k (x : Int))) : Own w base k e p c xs := by
 unfold OwnV at h
 rw [List.length_map] at h
 exact h
theorem OwnV.nil (w : World) (base : Nat) (e : TypeId) : OwnV w base e none 0 [] := World.ownsRow_nil w base e 1
theorem OwnV.form {w : World} {base : Nat} {e : TypeId} {p : Option Addr} {c : Nat} {vs : List Value} (h : OwnV w base e p c vs) :
 (p = none ∧ c = 0 ∧ vs = []) ∨ ∃ g, p = some ⟨g, 0, none⟩ ∧ base ≤ g ∧ g < w.heap.size ∧ vs.length ≤ c ∧ c ≤ maxLen := by
 rcases h.2 with ⟨h1, h2⟩ | ⟨g, cap, cur, hv, hb, hg, hn, hc, _, _⟩
 · left
   simp only [Value.slice.injEq] at h1
   exact ⟨h1.1, h1.2.2, List.eq_nil_of_length_eq_zero h2⟩
 · right
   simp only [Value.slice.injEq] at hv
   obtain ⟨rfl, _, rfl⟩ := hv
   exact ⟨g, rfl, hb, (Array.getElem?_eq_some_iff.1 hg).1, hn, hc⟩
theorem OwnV.mono {w : World} {base b' : Nat} {e : TypeId} {p : Option Addr} {c : Nat} {vs : List Value} (h : OwnV w base e p c vs) (hb : b' ≤ base) : OwnV w b' e p c vs := by
 refine ⟨h.1, ?_⟩
 rcases h.2 with h1 | ⟨g, cap, cur, hv, hbg, r⟩
 · exact .inl h1
 · exact .inr ⟨g, cap, cur, hv, by omega, r⟩
theorem OwnV.le_cap {w : World} {base : Nat} {e : TypeId} {p : Option Addr} {c : Nat} {vs : List Value} (h : OwnV w base e p c vs) : vs.length ≤ c := by
 rcases h.form with ⟨_, rfl, rfl⟩ | ⟨g, _, _, _, h, _⟩
 · simp
 · exact h
theorem OwnV.rd {w : World} {base : Nat} {e : TypeId} {p : Option Addr} {c : Nat} {vs : List Value} (h : OwnV w base e p c vs) : RdV w p vs := by
 rcases h.form with ⟨rfl, _, rfl⟩ | ⟨g, rfl, _⟩
 · exact RdV.nil w none
 · refine ⟨fun _ => ⟨rfl, rfl⟩, fun j hj => ?_⟩
   have h1 := World.ownsRow.cellAt (w := w) (base := base) (e := e) (size := 1) (g := g) (n := vs.length) (cap := c) h j (by omega)
   simp only [at_, Option.getD_some, Nat.zero_add]
   exact h1
theorem OwnV.blk_lt {w : World} {base : Nat} {e : TypeId} {p : Option Addr} {c : Nat} {vs : List Value} (h : OwnV w base e p c vs) (hp : p.isSome = true) : base ≤ blk p ∧ blk p < w.heap.size := by
 rcases h.form with ⟨rfl, _, rfl⟩ | ⟨g, rfl, h1, h2, _⟩
 · simp at hp
 · exact ⟨h1, h2⟩
theorem OwnV.same {w w' : World} {base : Nat} {e : TypeId} {p : Option Addr} {c : Nat} {vs : List Value} (h : OwnV w base e p c vs) (hb : p.isSome = true → w'.heap[blk p]? = w.heap[blk p]?) : OwnV w' base e p c vs := by
 refine ⟨h.1, ?_⟩
 rcases h.2 with h1 | ⟨g, cap, cur, hv, hbg, hg, r⟩
 · exact .inl h1
 · simp only [Value.slice.injEq] at hv
   obtain ⟨rfl, h2, rfl⟩ := hv
   exact .inr ⟨g, c, cur, rfl, hbg, by rw [← hg]; exact hb rfl, r⟩
theorem OwnV.below {w w' : World} {base B : Nat} {e : TypeId} {p : Option Addr} {c : Nat} {vs : List Value} (h : OwnV w base e p c vs) (hb : Below B w w') (hp : p.isSome = true → blk p < B) : OwnV w' base e p c vs :=
 h.same fun h0 => hb.block _ (hp h0)
theorem OwnV.past {w w' : World} {base : Nat} {e : TypeId} {p : Option Addr} {c : Nat} {vs : List Value} (h : OwnV w base e p c vs) (hb : Below w.heap.size w w') : OwnV w' base e p c vs :=
 h.below hb fun h0 => (h.blk_lt h0).2
theorem c1e {w : World} {base : Nat} {e : TypeId} {p : Option Addr} {c : Nat} {vs : List Value} (h : OwnV w base e p c vs) (j : Nat) (hj : j < vs.length) (v : Value) :
 OwnV (w.setCell (at_ p j) v) base e p c (vs.set j v) ∧ w.grownBy (w.setCell (at_ p j) v) (some (blk p)) ∧ base ≤ blk p := by
 rcases h.form with ⟨rfl, _, rfl⟩ | ⟨g, rfl, hb, _⟩
 · simp at hj
 · have h1 := World.ownsRow.stored (w := w) (base := base) (e := e) (size := 1) (g := g) (n := vs.length) (cap := c) h j v
   simp only [at_, Option.getD_some, Nat.zero_add]
   refine ⟨?_, h1.2, hb⟩
   unfold OwnV
   rw [List.length_set]
   exact h1.1
theorem c1f {w : World} {base : Nat} {e : TypeId} {p : Option Addr} {c : Nat} {vs : List Value} (h : OwnV w base e p c vs) (j : Nat) (hj : j < vs.length) : w.frozen? (at_ p j) = false := by
 rcases h.form with ⟨rfl, _, rfl⟩ | ⟨g, rfl, hb, _⟩
 · simp at hj
 · simpa [at_] using World.ownsRow.frozenAt (w := w) (base := base) (e := e) (size := 1) (g := g) (n := vs.length) (cap := c) h j
structure j0w (P : Program) (t e : TypeId) (z : Value) (bytes : Nat) : Prop where
 ht : P.underlying t = some (.slice e)
 hi : ∃ i, P.info? e = some i ∧ i.zero = some z ∧ i.size = 1 ∧ i.bytes = bytes
 hz : z.cells = #[z]
 h1 : z.oneCell' = true
 le : bytes ≤ 16
section walk
variable {P : Program} {ops : Array Oper} {rest : List Oper} {o : Oper} {a : Act} {Q : Exit → Act → World → Prop} {w : World} {K : Act → World → Prop}
theorem c1g (d : Option Tmp) (hd : o.dst = d) (x y : Operand) (t : TypeId) (ho : o.op = .store t x y) {ts : TypeId} {z : Value} {bytes : Nat} (hty : j0w P ts t z bytes)
 (base : Nat) (p : Option Addr) (c : Nat) (vs : List Value) (hown : OwnV w base t p c vs) (j : Nat) (hj : j < vs.length) (v : Value) (hv : v.cells = #[v]) (h5 : v.oneCell' = true)
 (hx : a.eval x = .pointer (some (at_ p j))) (hy : a.eval y = v) (hw : Region.wanted o (yielded ops a.tmps) = true)
 (h : ∀ w', OwnV w' base t p c (vs.set j v) → w.grownBy w' (some (blk p)) → Below base w w' → K (a.put d undef) w') : OpW P ops Q o K a w := by
 subst hd
 obtain ⟨i, hi, hz, hs, hb⟩ := hty.hi
 have h1 := c1e hown j hj v
 have h2 := c1f hown j hj
 have h3 := hown.rd.cells j hj
 rw [List.getElem?_eq_getElem hj] at h3
 refine ⟨?_⟩
 rw [if_pos hw]
 unfold Oper.wp execOp
 simp only [ho, hx, hy, Instr.storeAt, Instr.sureAddr]
 have e1 : (storeVar t (at_ p j) v).run P w = .ok () (w.setCell (at_ p j) v) := by
  have ha : (at_ p j).add 0 = at_ p j := by simp [Addr.add]
  simp [storeVar, sizeOf, typeInfo, hi, hs, hv, storeCells, ha]
  rw [run_store P w _ v _ h5, h3]
  simp [h2]
 simp [e1, Oper.upon]
 have hlt := hown.rd.lt (by omega)
 exact (h _ h1.1 h1.2.1 (b0j h1.2.1 (Nat.le_of_lt (Nat.lt_of_le_of_lt h1.2.2 hlt)) (fun k hk => by cases hk; exact h1.2.2)))
theorem e1z (d : Option Tmp) (hd : o.dst = d) (x y : Operand) (t : TypeId) (ho : o.op = .makeSlice t x y) {e : TypeId} {z : Value} {bytes : Nat} (hty : j0w P t e z bytes) (kl kc : IntKind) (n : Nat)
 (hx : a.eval x = .int kl (n : Int)) (hy : a.eval y = .int kc (n : Int)) (hb : n ≤ 4000000000) (hw : Region.wanted o (yielded ops a.tmps) = true)
 (h : ∀ p' c' w', OwnV w' w.heap.size e p' c' (List.replicate n z) → Below w.heap.size w w' → K (a.put d (.slice p' n c')) w') : OpW P ops Q o K a w := by
 subst hd
 obtain ⟨i, hi, hz, hs, hbt⟩ := hty.hi
 obtain ⟨w', hr, h1, h2⟩ := run_make_full (P := P) w w.heap.size t e i z 1 hty.ht hi hz hs kl kc n (by rw [hbt]; have := Nat.mul_le_mul hty.le hb; omega) (by simp only [maxLen]; omega) (Nat.le_refl _)
 refine ⟨?_⟩
 rw [if_pos hw]
 unfold Oper.wp execOp
 simp only [ho, hx, hy]
 simp only [Sem.run_bind, hr, Result.andThen_ok, Sem.run_pure]
 refine (h _ _ w' ?_ (b0j h2 (Nat.le_refl _) (fun k hk => by cases hk)))
 unfold OwnV
 rw [List.length_replicate]
 have : (madeCells (Value.cells z) (n * 1)).toList = List.replicate n z := by
  rw [Nat.mul_one, hty.hz]; exact toList_madeCells_one _ _
 rw [← this]
 exact h1
end walk
structure Wr (w : World) (base : Nat) (k : IntKind) (p : Option Addr) (xs : List Nat) : Prop where
 rd : Rd w k p xs
 fr : ∀ j, j < xs.length → w.frozen? (at_ p j) = false
 from_ : 0 < xs.length → base ≤ blk p
theorem Own.wr {w : World} {base : Nat} {k : IntKind} {e : TypeId} {p : Option Addr} {c : Nat} {xs : List Nat} (h : Own w base k e p c xs) : Wr w base k p xs :=
 ⟨h.rd, fun j hj => f0x h j hj, fun h0 => (h.blk_lt (h.rd.solid h0).1).1⟩
theorem Wr.mono {w : World} {base b' : Nat} {k : IntKind} {p : Option Addr} {xs : List Nat} (h : Wr w base k p xs) (hb : b' ≤ base) : Wr w b' k p xs := ⟨h.rd, h.fr, fun h0 => Nat.le_trans hb (h.from_ h0)⟩
theorem Wr.same {w w' : World} {base : Nat} {k : IntKind} {p : Option Addr} {xs : List Nat} (h : Wr w base k p xs) (hb : 0 < xs.length → w'.heap[blk p]? = w.heap[blk p]?) : Wr w' base k p xs :=
 ⟨h.rd.same hb, fun j hj => by rw [World.frozen?_of_block (w := w) (a := at_ p j) (hb (by omega))]; exact h.fr j hj, h.from_⟩
theorem Wr.past {w w' : World} {base : Nat} {k : IntKind} {p : Option Addr} {xs : List Nat} (h : Wr w base k p xs) (hb : Below w.heap.size w w') : Wr w' base k p xs :=
 h.same fun h0 => hb.block _ (h.rd.lt h0)
theorem Wr.drew {w : World} {base : Nat} {k : IntKind} {p : Option Addr} {xs : List Nat} (h : Wr w base k p xs) : Wr w.drew base k p xs := h.same fun _ => rfl
theorem f1a {p : Option Addr} {i j : Nat} (h : i ≠ j) : at_ p i ≠ at_ p j := by
 unfold at_
 intro e
 simp only [Addr.mk.injEq, true_and, and_true] at e
 omega
theorem Wr.set {w : World} {base : Nat} {k : IntKind} {p : Option Addr} {xs : List Nat} (h : Wr w base k p xs) (j : Nat) (hj : j < xs.length) (n : Nat) :
 Wr (w.setCell (at_ p j) (.int k (n : Int))) base k p (xs.set j n) ∧ w.grownBy (w.setCell (at_ p j) (.int k (n : Int))) (some (blk p)) ∧ base ≤ blk p := by
 refine ⟨⟨⟨by rw [List.length_set]; exact h.rd.solid, fun i hi => ?_⟩, fun i hi => ?_, fun _ => h.from_ (by omega)⟩, ?_, h.from_ (by omega)⟩
 · rw [List.length_set] at hi
   by_cases e : j = i
   · subst e
     rw [World.cell?_setCell_same (h := h.rd.cells j hj)]
     unfold dg
     rw [List.getElem?_set_self hj]
     rfl
   · rw [World.cell?_setCell_other (h := f1a e), h.rd.cells i hi]
     unfold dg
     rw [List.getElem?_set_ne e]
 · rw [List.length_set] at hi
   rw [World.frozen?_setCell]
   exact h.fr i hi
 · refine ⟨rfl, rfl, rfl, by simp [World.setCell], fun b _ hne => ?_⟩
   show (w.heap.modify _ _)[b]? = _
   rw [Array.getElem?_modify, if_neg (fun e => hne (by rw [← e]; rfl))]
theorem m0v (w : World) (e : TypeId) (s : ByteArray) : Wr (Lib.bytesWorld w e s) w.heap.size .u8 (some ⟨w.heap.size, 0, none⟩) (c0i s) := by
 refine ⟨m0u w e s, fun j hj => ?_, fun _ => Nat.le_refl _⟩
 have hj2 : j < s.size := by rw [← d0g]; exact hj
 unfold World.frozen? at_
 simp only [Option.getD_some, Nat.zero_add]
 rw [Lib.bytesWorld_at_new]
 have : s.size ≤ (Lib.bytesCells w e s).size := by
  unfold Lib.bytesCells
  rw [Array.size_append, Array.size_map]
  exact Nat.le_add_right _ _
 simp only [Bool.and_eq_false_iff, decide_eq_false_iff_not]
 left
 omega
section walk
variable {P : Program} {ops : Array Oper} {rest : List Oper} {o : Oper} {a : Act} {K : Act → World → Prop} {Q : Exit → Act → World → Prop} {w : World}
theorem v0v (d : Option Tmp) (hd : o.dst = d) (x : Operand) (src dst : TypeId) (ho : o.op = .convert src dst x) {e : TypeId} (hs : P.underlying src = some .string) (hdt : P.underlying dst = some (.slice e)) (he : P.underlying e = some (.int .u8))
 (s : ByteArray) (hx : a.eval x = .string s) (hw : Region.wanted o (yielded ops a.tmps) = true)
 (h : ∀ p' c' w', Wr w' w.heap.size .u8 p' (c0i s) → Below w.heap.size w w' → K (a.put d (.slice p' s.size c')) w') : OpW P ops Q o K a w := by
 subst hd
 refine ⟨?_⟩
 rw [if_pos hw]
 unfold Oper.wp execOp
 simp only [ho, hx]
 have hr := Lib.run_convert_string_bytes (P := P) w src dst e s hs hdt he
 simp [hr, Oper.upon]
 exact h _ _ _ (m0v w e s) (i0p (Nat.le_refl _) e s)
end walk
section
variable {P : Program} {ops : Array Oper} {Q : Exit → Act → World → Prop} {a : Act} {w : World} {rest : List Oper} {o : Oper}
theorem f1b {x y : Operand} {t ts : TypeId} {k : IntKind} {bytes : Nat} (hty : j0w P ts t (.int k 0) bytes)
 (base : Nat) (p : Option Addr) (c : Nat) (xs : List Nat) (hown : Own w base k t p c xs) (j : Nat) (hj : j < xs.length) (n : Nat)
 (h : ∀ w', Own w' base k t p c (xs.set j n) → Below base w w' → WpL P ops Q rest (a.put none undef) w')
 (hx : a.eval x = .pointer (some (at_ p j)) := by kernel_rfl) (hy : a.eval y = .int k (n : Int) := by kernel_rfl)
 (ho : o.op = .store t x y := by rfl) (hd : o.dst = none := by kernel_rfl) (hw : Region.wanted o (yielded ops a.tmps) = true := by kernel_rfl) : WpL P ops Q (o :: rest) a w :=
 b0z (c1g none hd x y t ho hty base p c _ hown.v j (by rw [List.length_map]; exact hj) (.int k (n : Int)) rfl rfl hx hy hw fun w' h1 _ h2 => h w' (r0s (by rw [List.map_set]; exact h1)) h2)
theorem sby (d : Nat) {x : Operand} {src dst : TypeId} {e : TypeId} (hs : P.underlying src = some .string) (hdt : P.underlying dst = some (.slice e)) (he : P.underlying e = some (.int .u8)) (s : ByteArray)
 (h : ∀ p' c' w', Wr w' w.heap.size .u8 p' (c0i s) → Below w.heap.size w w' → WpL P ops Q rest (a.put (some d) (.slice p' s.size c')) w')
 (hx : a.eval x = .string s := by kernel_rfl)
 (ho : o.op = .convert src dst x := by rfl) (hd : o.dst = some d := by kernel_rfl) (hw : Region.wanted o (yielded ops a.tmps) = true := by kernel_rfl) : WpL P ops Q (o :: rest) a w :=
 b0z (v0v (some d) hd x src dst ho hs hdt he s hx hw h)
end
section
variable {P : Program} {a : Act} {w : World} {dst : Option Tmp} {t2 : TypeId} {pos : String} {af : Array Edge} {g : Option (Nat × Bool)} {x y : Operand}
theorem r0t {src dt e : TypeId} (hs : P.underlying src = some (.slice e)) (he : P.underlying e = some (.int .u8)) (hd : P.underlying dt = some .string) {p : Option Addr} {n c : Nat} {xs : List Nat} (hr : Rd w .u8 p xs) (hn : n = xs.length)
 (hx : a.eval x = .slice p n c) : (execOp a.eval ⟨dst, .convert src dt x, t2, pos, af, g⟩).run P w = .ok (.value (.string (b0a xs))) w := by
 unfold execOp
 simp only [hx]
 simp [j0b (P := P) w src dt e hs he hd p n c xs hr hn]
theorem l0g {P : Program} {t e : TypeId} {z : Value} {bytes : Nat} (hty : j0w P t e z bytes) (w : World) : (sizeOf (P.elem t)).run P w = .ok 1 w := by
 obtain ⟨i, hi, -, hs, -⟩ := hty.hi
 rw [m0s hty.ht]
 simp [sizeOf, typeInfo, hi, hs]
theorem r0u {P : Program} {t e : TypeId} {z : Value} {bytes : Nat} (hty : j0w P t e z bytes) : P.underlying t = some (.slice (P.elem t)) := by
 rw [m0s hty.ht]; exact hty.ht
theorem r0v {t : TypeId} {e : TypeId} {z : Value} {bytes : Nat} (hty : j0w P t e z bytes) {p : Option Addr} {n c m : Nat}
 (hp : g0s p n) (hx : a.eval x = .slice p n c) (hy : a.eval y = .int .i64 (m : Int)) (hm : m < n) : (execOp a.eval ⟨dst, .indexAddr t x y, t2, pos, af, g⟩).run P w = .ok (.value (.pointer (some (at_ p m)))) w := by
 unfold execOp
 simp only [hx, hy, Sem.run_bind, run_indexAt_solid w t p n c .i64 m (r0u hty) hp, if_pos (show (0 : Int) ≤ (m : Int) ∧ (m : Int) < (n : Int) by omega), l0g hty, Result.andThen_ok, Sem.run_pure, Int.toNat_natCast, Nat.mul_one]
variable {k : IntKind} {X Y : Int} {xT yT : TypeId}
theorem r0w (m : Int) (hx : a.eval x = .int k X) (hy : a.eval y = .int k Y) (hm : bits .and k X Y = m) : (execOp a.eval ⟨dst, .binOp .and xT x y yT, t2, pos, af, g⟩).run P w = .ok (.value (.int k m)) w := by
 unfold execOp
 simp only [hx, hy]
 subst hm
 simp [binOp, eqGuard, intBits_and]
theorem c1h (m : Int) (hx : a.eval x = .int k X) (hy : a.eval y = .int k Y) (hm : bits .or k X Y = m) : (execOp a.eval ⟨dst, .binOp .or xT x y yT, t2, pos, af, g⟩).run P w = .ok (.value (.int k m)) w := by
 unfold execOp
 simp only [hx, hy]
 subst hm
 simp [binOp, eqGuard, intBits_or]
end
theorem Bx.e9 {w : World} {b : Nat} {v0 v1 v2 v3 v4 v5 v6 v7 v8 : Value} (h : Bx w b #[v0, v1, v2, v3, v4, v5, v6, v7, v8]) : w.cell? ⟨b, 0, none⟩ = some v0 ∧ w.cell? ⟨b, 1, none⟩ = some v1 ∧ w.cell? ⟨b, 2, none⟩ = some v2 ∧ w.cell? ⟨b, 3, none⟩ = some v3 ∧ w.cell? ⟨b, 4, none⟩ = some v4 ∧ w.cell? ⟨b, 5, none⟩ = some v5 ∧ w.cell? ⟨b, 6, none⟩ = some v6 ∧ w.cell? ⟨b, 7, none⟩ = some v7 ∧ w.cell? ⟨b, 8, none⟩ = some v8 := ⟨h.c 0 rfl, h.c 1 rfl, h.c 2 rfl, h.c 3 rfl, h.c 4 rfl, h.c 5 rfl, h.c 6 rfl, h.c 7 rfl, h.c 8 rfl⟩
theorem j0x {x E : Nat} (hx : x < 2 ^ 63) (hE : E ≤ 60) : bits .and .i64 (x : Int) ((2 ^ E - 1 : Nat) : Int) = ((x % 2 ^ E : Nat) : Int) := by
 have p1 : 2 ^ E ≤ 2 ^ 60 := Nat.pow_le_pow_right (by omega) hE
 have h2 : (BitVec.ofInt 64 (x : Int)).toNat = x := by rw [BitVec.ofInt_natCast, BitVec.toNat_ofNat, Nat.mod_eq_of_lt (by omega)]
 have h1 : (BitVec.ofInt 64 ((2 ^ E - 1 : Nat) : Int)).toNat = 2 ^ E - 1 := by rw [BitVec.ofInt_natCast, BitVec.toNat_ofNat, Nat.mod_eq_of_lt (by omega)]
 have key : (BitVec.ofInt 64 (x : Int) &&& BitVec.ofInt 64 ((2 ^ E - 1 : Nat) : Int)).toNat = x % 2 ^ E := by
  rw [BitVec.toNat_and, h2, h1, Nat.and_two_pow_sub_one_eq_mod]
 show IntKind.i64.wrap ((BitVec.ofInt 64 (x : Int) &&& BitVec.ofInt 64 ((2 ^ E - 1 : Nat) : Int)).toNat : Nat) = _
 rw [key]
 have : x % 2 ^ E < 2 ^ E := Nat.mod_lt _ (Nat.pow_pos (by omega))
 exact iwo
theorem t0k {x E : Nat} (hx : x < 2 ^ E) (hE : E ≤ 60) : bits .or .i64 (x : Int) ((2 ^ E : Nat) : Int) = ((2 ^ E + x : Nat) : Int) := by
 have p1 : 2 ^ E ≤ 2 ^ 60 := Nat.pow_le_pow_right (by omega) hE
 have h2 : (BitVec.ofInt 64 (x : Int)).toNat = x := by rw [BitVec.ofInt_natCast, BitVec.toNat_ofNat, Nat.mod_eq_of_lt (by omega)]
 have h1 : (BitVec.ofInt 64 ((2 ^ E : Nat) : Int)).toNat = 2 ^ E := by rw [BitVec.ofInt_natCast, BitVec.toNat_ofNat, Nat.mod_eq_of_lt (by omega)]
 have key : (BitVec.ofInt 64 (x : Int) ||| BitVec.ofInt 64 ((2 ^ E : Nat) : Int)).toNat = 2 ^ E + x := by
  rw [BitVec.toNat_or, h2, h1, Nat.or_comm]
  have := Nat.two_pow_add_eq_or_of_lt hx 1
  rw [Nat.mul_one] at this
  exact this.symm
 show IntKind.i64.wrap ((BitVec.ofInt 64 (x : Int) ||| BitVec.ofInt 64 ((2 ^ E : Nat) : Int)).toNat : Nat) = _
 rw [key]
 exact iwo
theorem m0w {E : Nat} (hE : E ≤ 60) : IntKind.i64.wrap (1 * 2 ^ (min (E : Int).toNat IntKind.i64.bits)) = ((2 ^ E : Nat) : Int) := by
 have p1 : 2 ^ E ≤ 2 ^ 60 := Nat.pow_le_pow_right (by omega) hE
 rw [Int.toNat_natCast, show IntKind.i64.bits = 64 from rfl, Nat.min_eq_left (by omega), Int.one_mul, show ((2 : Int) ^ E) = ((2 ^ E : Nat) : Int) by norm_cast]
 generalize 2 ^ E = T at *
 exact iwo
theorem v0w {x E : Nat} (hE : E ≤ 60) : (x : Int).fdiv (2 ^ (min (E : Int).toNat IntKind.i64.bits)) = ((x / 2 ^ E : Nat) : Int) := by
 rw [Int.toNat_natCast, show IntKind.i64.bits = 64 from rfl, Nat.min_eq_left (by omega), show ((2 : Int) ^ E) = ((2 ^ E : Nat) : Int) by norm_cast, Int.fdiv_eq_ediv_of_nonneg _ (Int.natCast_nonneg _)]
 rfl
def v0x (fn : Func) : Code := match fn.body with | some c => c | none => .skip
def cfg0 (fn : Func) (fr : List SV) (bx : List Box) : Cfg := ⟨fr ++ List.replicate (fn.ntmps - fr.length) (.v undef), bx, .off, [.code (v0x fn)]⟩
theorem a0c {P : Program} {E : List Nat} {w : World} {A : List Nat} {bx : List Box} {fs : List PF} {f : FuncId} {fn : Func} {args : Array Value} {R : Ending → World → Prop} (fr : List SV) (_ : Inv E w A bx fs w) (hf : P.funcs[f]? = some fn)
 (h : G P (bodyPost P fn R) A (cfg0 fn fr bx) w) (hb : fn.body.isSome = true := by kernel_rfl) (ha : fr.map (SV.r A) = args.toList := by kernel_rfl) : Calls P f args w R := by
 have hb2 : fn.body = some (v0x fn) := by
  unfold v0x
  cases h : fn.body with
  | none => rw [h] at hb; cases hb
  | some c => rfl
 refine calls_of_wp hf hb2 ?_
 have hl : fr.length = args.size := by rw [← Array.length_toList, ← ha, List.length_map]
 have e : (⟨args ++ Array.replicate (fn.ntmps - args.size) undef, []⟩ : Act) = act A (cfg0 fn fr bx).fr := by
  unfold act cfg0
  simp only [Act.mk.injEq, and_true]
  rw [List.map_append, ha, List.map_replicate, hl]
  apply Array.toList_inj.1
  simp [SV.r]
 rw [e]
 exact h.out
/-! ### What is handed in -/
def btL (w : World) (A0 : List Nat) : List Nat → List Box → Prop
 | a :: A, b :: bx => Bt w a b.t (b.row A0) ∧ btL w A0 A bx
 | [], [] => True
 | _, _ => False
theorem q0g {w : World} {A0 : List Nat} : ∀ {A : List Nat} {bx : List Box}, btL w A0 A bx → A.length = bx.length ∧ ∀ k, k < bx.length → Bt w (lk 0 A k) (lk bx0 bx k).t ((lk bx0 bx k).row A0)
 | [], [], _ => ⟨rfl, fun _ h => by simp at h⟩
 | a :: A, b :: bx, h => by
  have ih := q0g h.2
  refine ⟨by simp [ih.1], fun k hk => ?_⟩
  cases k with
  | zero => exact h.1
  | succ k => exact ih.2 k (by simpa using hk)
 | [], _ :: _, h => h.elim
 | _ :: _, [], h => h.elim
def y0w : List Box → Bool
 | [] => true
 | b :: l => match b.ro with | true => y0w l | false => false
theorem j0y : ∀ {l : List Box}, y0w l = true → ∀ k, k < l.length → (lk bx0 l k).ro = true
 | [], _, _, h => by simp at h
 | b :: l, h, k, hk => by
  unfold y0w at h
  split at h
  · rename_i hb
    cases k with
    | zero => exact hb
    | succ k => exact j0y h k (by simpa using hk)
  · cases h
theorem Inv.startR (w : World) (A : List Nat) (bx : List Box) (fs : List PF) (hb : btL w A A bx) (hf : PF.all w fs) (hr : y0w bx = true := by kernel_rfl) : Inv [] w A bx fs w := by
 have hF : ∀ a, Fa A bx a → False := fun a ⟨k, hk, h, _⟩ => by rw [j0y hr k hk] at h; cases h
 exact ⟨Kp.refl _ _, fun a h => (hF a h).elim, fun i j hi _ h => (by rw [j0y hr i hi] at h; cases h), (q0g hb).1, List.nil_prefix, (q0g hb).2, hf, fun a h => (hF a h).elim⟩
theorem Inv.startW (w : World) (b : Nat) (t : TypeId) (cs : List SV) (fs : List PF) {row : Array Value} (hb : Bt w b t row) (hf : PF.all w fs) (hfar : PF.far b fs) (hrow : row = (cs.map (SV.r [b])).toArray := by kernel_rfl) : Inv [b] w [b] [⟨t, cs, false⟩] fs w := by
 have hF : ∀ a, Fa [b] [⟨t, cs, false⟩] a → a = b := fun a ⟨k, hk, _, e⟩ => by
  obtain rfl : k = 0 := by simpa using hk
  exact e
 refine ⟨Kp.refl _ _, fun a h => .inr (by rw [hF a h]; simp), fun i j hi hj _ hn => ?_, rfl, List.prefix_refl _, fun k hk => ?_, hf, fun a h => by rw [hF a h]; exact hfar⟩
 · simp at hi hj
   omega
 · obtain rfl : k = 0 := by simpa using hk
   rw [hrow] at hb
   exact hb
/-! ### Facts -/
def ownF (b : Nat) (k : IntKind) (e : TypeId) (p : Option Addr) (c : Nat) (xs : List Nat) : PF :=
 ⟨fun w => Own w b k e p c xs, fun a => p.isSome = true ∧ blk p = a, fun _ _ h hb _ => h.same fun hp => hb _ (h.blk_lt hp).2 ⟨hp, rfl⟩, fun _ _ h hf => hf.2 ▸ (h.blk_lt hf.1).2⟩
def rdF (k : IntKind) (p : Option Addr) (xs : List Nat) : PF :=
 ⟨fun w => Rd w k p xs, fun a => 0 < xs.length ∧ blk p = a, fun _ _ h hb _ => h.same fun hp => hb _ (h.lt hp) ⟨hp, rfl⟩, fun _ _ h hf => hf.2 ▸ h.lt hf.1⟩
theorem OwnV.far {w : World} {base : Nat} {e : TypeId} {p : Option Addr} {c : Nat} {xs : List Value} (h : OwnV w base e p c xs) {b : Nat} {t : TypeId} {vs : Array Value} (hX : Bt w b t vs) (hne : Nat.beq t e = false) (hp : p.isSome = true) : blk p ≠ b := by
 rcases h.2 with ⟨h1, h2⟩ | ⟨g, cap, cur, hv, hb, hg, _⟩
 · simp only [Value.slice.injEq] at h1
   rw [h1.1] at hp; cases hp
 · simp only [Value.slice.injEq] at hv
   intro hE
   rw [hv.1] at hE
   have hE2 : g = b := hE
   subst hE2
   have hE3 := hg.symm.trans hX
   simp only [Option.some.injEq, Obj.cells.injEq] at hE3
   rw [hE3.2.1] at hne
   simp at hne
def t0l (e : TypeId) : List Box → Bool
 | [] => true
 | b :: l => match Nat.beq b.t e with | true => false | false => t0l e l
theorem j0z {e : TypeId} : ∀ {l : List Box}, t0l e l = true → ∀ k, k < l.length → Nat.beq (lk bx0 l k).t e = false
 | [], _, _, h => by simp at h
 | b :: l, h, k, hk => by
  unfold t0l at h
  split at h
  · cases h
  · rename_i hb
    cases k with
    | zero => exact hb
    | succ k => exact j0z h k (by simpa using hk)
section
variable {E : List Nat} {w0 : World} {A : List Nat} {bx : List Box} {fs : List PF} {W : World}
def c1i (bx : List Box) (k : Nat) (A : List Nat) : Option (TypeId × Array Value) := match Nat.ble (k + 1) bx.length with | true => some ((lk bx0 bx k).t, (lk bx0 bx k).row A) | false => none
theorem Inv.box (I : Inv E w0 A bx fs W) (k : Nat) (t : TypeId) (vs : Array Value) (h : c1i bx k A = some (t, vs) := by kernel_rfl) : Bt W (lk 0 A k) t vs := by
 unfold c1i at h
 split at h
 · rename_i hk
   simp only [Option.some.injEq, Prod.mk.injEq] at h
   have := I.bt k (f0n hk)
   rw [h.1, h.2] at this
   exact this
 · cases h
theorem Inv.boxE {b : Nat} (I : Inv (b :: E) w0 A bx fs W) (t : TypeId) (vs : Array Value) (h : c1i bx 0 A = some (t, vs) := by kernel_rfl) : Bt W b t vs := by
 have := I.box 0 t vs h
 rw [r0r I.pre (k := 0) (by simp)] at this
 exact this
theorem Inv.geB (I : Inv [] w0 A bx fs W) (k : Nat) (h : Nat.ble (k + 1) bx.length = true := by kernel_rfl) (hr : (lk bx0 bx k).ro = false := by kernel_rfl) : w0.heap.size ≤ lk 0 A k :=
 (I.ge _ ⟨k, f0n h, hr, rfl⟩).resolve_right (by simp)
theorem Inv.own (I : Inv E w0 A bx fs W) {b : Nat} {k : IntKind} {e : TypeId} {p : Option Addr} {c : Nat} {xs : List Nat} (o : Own W b k e p c xs) (hb : w0.heap.size ≤ b := by first | exact Nat.le_refl _ | assumption | omega) (hne : t0l e bx = true := by kernel_rfl) :
 Inv E w0 A bx (ownF w0.heap.size k e p c xs :: fs) W :=
 I.add (ownF w0.heap.size k e p c xs) (o.mono hb) fun a ha hf => by
  obtain ⟨j, hj, _, rfl⟩ := ha
  exact o.far (I.bt j hj) (j0z hne j hj) hf.1 hf.2
theorem Inv.ownB (I : Inv E w0 A bx fs W) (B : Nat) {b : Nat} {k : IntKind} {e : TypeId} {p : Option Addr} {c : Nat} {xs : List Nat} (o : Own W b k e p c xs) (hb : B ≤ b := by first | exact Nat.le_refl _ | assumption | omega) (hne : t0l e bx = true := by kernel_rfl) :
 Inv E w0 A bx (ownF B k e p c xs :: fs) W :=
 I.add (ownF B k e p c xs) (o.mono hb) fun a ha hf => by
  obtain ⟨j, hj, _, rfl⟩ := ha
  exact o.far (I.bt j hj) (j0z hne j hj) hf.1 hf.2
def v0y (k : IntKind) : SV → Bool
 | .v (.int k' _) => !(decide (k' = k))
 | _ => true
def r0x (k : IntKind) : List Box → Bool
 | [] => true
 | b :: l => match b.cs.all (v0y k) with | true => r0x k l | false => false
theorem l0h {k : IntKind} : ∀ {l : List Box}, r0x k l = true → ∀ j, j < l.length → (lk bx0 l j).cs.all (v0y k) = true
 | [], _, _, h => by simp at h
 | b :: l, h, j, hj => by
  unfold r0x at h
  split at h
  · rename_i hb
    cases j with
    | zero => exact hb
    | succ j => exact l0h h j (by simpa using hj)
  · cases h
theorem v0z {k : IntKind} (A : List Nat) {l : List SV} (h : l.all (v0y k) = true) : v0c k (l.map (SV.r A)).toArray = true := by
 unfold v0c
 rw [List.all_toArray, List.all_map]
 rw [List.all_eq_true] at h ⊢
 intro x hx
 have := h x hx
 cases x with
 | v x => cases x <;> first | exact this | rfl
 | _ => rfl
theorem Inv.rd (I : Inv E w0 A bx fs W) {k : IntKind} {p : Option Addr} {xs : List Nat} (r : Rd W k p xs) (hne : r0x k bx = true := by kernel_rfl) : Inv E w0 A bx (rdF k p xs :: fs) W :=
 I.add (rdF k p xs) r fun a ha hf => by
  obtain ⟨j, hj, _, rfl⟩ := ha
  exact r.far (I.bt j hj) (v0z A (l0h hne j hj)) hf.1 hf.2
end
section
variable {P : Program} {Q : Exit → Act → World → Prop} {E : List Nat} {w0 : World} {A : List Nat} {fs : List PF} {W : World} {c : Cfg}
theorem zqo (I : Inv E w0 A c.bx fs W) {f : FuncId} {args : List Nat → World → Array Value} {v : Option Addr → Nat → Value} {k : IntKind} {t : TypeId} {xs : List Nat} {b : World → Nat}
 (hc : ∀ A W, Inv E w0 A (zr P none c).bx fs W → Calls P f (args A W) W fun e w' => ∃ p c, e = .returned (v p c) ∧ Own w' (b W) k t p c xs ∧ Below W.heap.size W w')
 (h : ∀ A W p d, Inv E w0 A (putc (zr P none c) (.v (v p d))).bx (ownF w0.heap.size k t p d xs :: fs) W → G P Q A (putc (zr P none c) (.v (v p d))) W)
 (ho : ∀ A w, j0v P (zr P none c) A w = some (.ok (.enter f (args A w)) w) := by intro _ _; kernel_rfl)
 (hr : ∀ A w, (zms P none 5000 c A w).map (·.1) = (zms P none 5000 c A w).map (·.2) := by intro _ _; kernel_rfl)
 (hm : ok1 (zr P none c).rg (zr P none c).bx = ok2 (zr P none c).rg := by kernel_rfl)
 (hne : t0l t (zr P none c).bx = true := by kernel_rfl) (hbb : ∀ V, w0.heap.size ≤ V.heap.size → w0.heap.size ≤ b V := by intro _ h; first | exact h | exact Nat.le_refl _ | assumption | omega) : G P Q A c W :=
 zg I hc (fun A V _ hz _ _ hK _ W ⟨p, d, h1, h2, h3⟩ => ⟨v p d, h1, hK _ W h3 fun I => h A W p d (I.own h2 (hbb V hz) hne)⟩) ho hr hm
end
def pick : List Nat → List PF → List PF
 | [], _ => []
 | i :: is, fs => lk ⟨fun _ => True, fun _ => False, fun _ _ h _ _ => h, fun _ _ _ h => h.elim⟩ fs i :: pick is fs
section
variable {E : List Nat} {w0 : World} {A : List Nat} {bx : List Box} {fs : List PF} {W : World}
theorem PF.all_lk {W : World} (d : PF) (hd : d.prop W) : ∀ {fs : List PF} (i : Nat), PF.all W fs → (lk d fs i).prop W
 | [], _, _ => hd
 | _ :: _, 0, h => h.1
 | _ :: _, i + 1, h => PF.all_lk d hd i h.2
theorem PF.far_lk {a : Nat} (d : PF) (hd : ¬ d.foot a) : ∀ {fs : List PF} (i : Nat), PF.far a fs → ¬ (lk d fs i).foot a
 | [], _, _ => hd
 | _ :: _, 0, h => h.1
 | _ :: _, i + 1, h => PF.far_lk d hd i h.2
theorem Inv.pick (I : Inv E w0 A bx fs W) (is : List Nat) : Inv E w0 A bx (pick is fs) W := by
 refine ⟨I.bel, I.ge, I.nd, I.len, I.pre, I.bt, ?_, fun a ha => ?_⟩
 · have := I.fa
   induction is with
   | nil => exact True.intro
   | cons i is ih => exact ⟨PF.all_lk _ True.intro i this, ih⟩
 · have := I.far a ha
   induction is with
   | nil => exact True.intro
   | cons i is ih => exact ⟨PF.far_lk _ id i this, ih⟩
end
/-! ### Values of two -/
section
variable {P : Program} {t : TypeId} {x y : Operand} {W : World}
theorem b0u (k : IntKind) (X : Int) (k2 : IntKind) (Y m : Int) (h0 : 0 ≤ Y) (hm : k.wrap (X * 2 ^ (min Y.toNat k.bits)) = m) : (do eqGuard .shl t x y (.int k X) (.int k2 Y); binOp .shl t (.int k X) (.int k2 Y) : Sem Value).run P W = .ok (.int k m) W := by
 simp [binOp, eqGuard, Op.shift, show ¬ Y < 0 by omega, hm]
theorem q0h (k : IntKind) (X Y m : Int) (h0 : Y ≠ 0) (hm : k.wrap (X.tdiv Y) = m) : (do eqGuard .quo t x y (.int k X) (.int k Y); binOp .quo t (.int k X) (.int k Y) : Sem Value).run P W = .ok (.int k m) W := by
 simp [binOp, eqGuard, Op.intDiv, h0, hm]
theorem c1j (k : IntKind) (X Y m : Int) (h0 : Y ≠ 0) (hm : X.tmod Y = m) : (do eqGuard .rem t x y (.int k X) (.int k Y); binOp .rem t (.int k X) (.int k Y) : Sem Value).run P W = .ok (.int k m) W := by
 simp [binOp, eqGuard, Op.intDiv, h0, hm]
theorem w0a (k : IntKind) (X Y m : Int) (hm : bits .and k X Y = m) : (do eqGuard .and t x y (.int k X) (.int k Y); binOp .and t (.int k X) (.int k Y) : Sem Value).run P W = .ok (.int k m) W := by
 subst hm
 simp [binOp, eqGuard, intBits_and]
theorem b1b (k : IntKind) (X Y m : Int) (hm : bits .or k X Y = m) : (do eqGuard .or t x y (.int k X) (.int k Y); binOp .or t (.int k X) (.int k Y) : Sem Value).run P W = .ok (.int k m) W := by
 subst hm
 simp [binOp, eqGuard, intBits_or]
theorem w0b (s : ByteArray) : (do eqGuard .eql t x y (.string s) (.string s); binOp .eql t (.string s) (.string s) : Sem Value).run P W = .ok (.bool true) W := by
 simp [go_sem, eqGuard]
end
/-! ### Rows of others -/
theorem tyV {P : Program} {t e : TypeId} {z : Value} {bytes : Nat} (h1 : P.underlying t = some (.slice e))
 (h2 : (P.info? e).map (fun i => (i.zero, i.size, i.bytes)) = some (some z, 1, bytes)) (h3 : bytes ≤ 16) (h4 : z.cells = #[z]) (h5 : z.oneCell' = true) : j0w P t e z bytes := by
 refine ⟨h1, ?_, h4, h5, h3⟩
 cases h : P.info? e with
 | none => rw [h] at h2; simp at h2
 | some i => rw [h] at h2; simp at h2; exact ⟨i, rfl, h2.1, h2.2.1, h2.2.2⟩
section
variable {P : Program} {w : World}
theorem b1c {t : TypeId} {e : TypeId} {z : Value} {bytes : Nat} (hty : j0w P t e z bytes) {p : Option Addr} {n c m : Nat} (hp : g0s p n) (hm : m < n) : (VO.ix t (.slice p n c) (.int .i64 (m : Int))).sem.run P w = .ok (.pointer (some (at_ p m))) w := by
 show (Instr.indexAt _ _ _).run P w = _
 rw [run_indexAt_solid w t p n c .i64 m (r0u hty) hp, if_pos (show (0 : Int) ≤ (m : Int) ∧ (m : Int) < (n : Int) by omega)]
 simp only [l0g hty, Result.andThen_ok, Int.toNat_natCast, Nat.mul_one]
end
/-! ### What calls leave -/
section
variable {P : Program} {f : FuncId} {args : Array Value} {w : World}
end
end Go.Slip
namespace Go.Proofs.YtmacohmclpnphaaDoor
open Go.RowKit Go.Slip
theorem TabW.same {w w' : World} (h : TabW w) (hb : w'.heap[0]? = w.heap[0]?) (hs : w.heap.size ≤ w'.heap.size) : TabW w' :=
 ⟨fun j hj => by
   have := h.1 j hj
   unfold World.cell? at this ⊢
   rw [show w'.heap[(⟨0, j, none⟩ : Addr).block]? = w.heap[(⟨0, j, none⟩ : Addr).block]? from hb]
   exact this, Nat.lt_of_lt_of_le h.2 hs⟩
def tabF : PF := ⟨TabW, fun a => 0 = a, fun _ _ h hb hs => h.same (hb 0 h.2 rfl) hs, fun _ _ h hf => hf ▸ h.2⟩
end Go.Proofs.YtmacohmclpnphaaDoor
namespace Go.Slip
open Go.RowKit
/-! ### Slices of structs -/
def OwnS (w : World) (base : Nat) (e : TypeId) (s : Nat) (p : Option Addr) (c n : Nat) (vs : List Value) : Prop := w.ownsRow base e s (.slice p n c) n vs
theorem OwnS.nil (w : World) (base : Nat) (e : TypeId) (s : Nat) : OwnS w base e s none 0 0 [] := World.ownsRow_nil w base e s
section
variable {w w' : World} {base : Nat} {e : TypeId} {s : Nat} {p : Option Addr} {c n : Nat} {vs : List Value}
theorem OwnS.form (h : OwnS w base e s p c n vs) : (p = none ∧ c = 0 ∧ n = 0 ∧ vs = []) ∨ ∃ g, p = some ⟨g, 0, none⟩ ∧ base ≤ g ∧ g < w.heap.size ∧ n ≤ c ∧ c ≤ maxLen := by
 rcases h.2 with ⟨h1, h2⟩ | ⟨g, cap, cur, hv, hb, hg, hn, hc, _, _⟩
 · left
   simp only [Value.slice.injEq] at h1
   refine ⟨h1.1, h1.2.2, h2, List.eq_nil_of_length_eq_zero ?_⟩
   rw [h.1, h2, Nat.zero_mul]
 · right
   simp only [Value.slice.injEq] at hv
   obtain ⟨rfl, _, rfl⟩ := hv
   exact ⟨g, rfl, hb, (Array.getElem?_eq_some_iff.1 hg).1, hn, hc⟩
theorem OwnS.blk_lt (h : OwnS w base e s p c n vs) (hp : p.isSome = true) : base ≤ blk p ∧ blk p < w.heap.size := by
 rcases h.form with ⟨rfl, _, _, rfl⟩ | ⟨g, rfl, h1, h2, _⟩
 · simp at hp
 · exact ⟨h1, h2⟩
theorem OwnS.mono {b' : Nat} (h : OwnS w base e s p c n vs) (hb : b' ≤ base) : OwnS w b' e s p c n vs := by
 refine ⟨h.1, ?_⟩
 rcases h.2 with h1 | ⟨g, cap, cur, hv, hbg, r⟩
 · exact .inl h1
 · exact .inr ⟨g, cap, cur, hv, by omega, r⟩
theorem OwnS.same (h : OwnS w base e s p c n vs) (hb : p.isSome = true → w'.heap[blk p]? = w.heap[blk p]?) : OwnS w' base e s p c n vs := by
 refine ⟨h.1, ?_⟩
 rcases h.2 with h1 | ⟨g, cap, cur, hv, hbg, hg, r⟩
 · exact .inl h1
 · simp only [Value.slice.injEq] at hv
   obtain ⟨rfl, h2, rfl⟩ := hv
   exact .inr ⟨g, c, cur, rfl, hbg, by rw [← hg]; exact hb rfl, r⟩
theorem OwnS.cell (h : OwnS w base e s p c n vs) {j : Nat} {u : Value} (hu : vs[j]? = some u) : w.cell? (at_ p j) = some u := by
 rcases h.form with ⟨_, _, _, rfl⟩ | ⟨g, rfl, _⟩
 · simp at hu
 · have := World.ownsRow.cells h (g := g) rfl j u hu
   rw [← this]
   unfold at_ Addr.add
   split <;> simp_all
theorem OwnS.solid (h : OwnS w base e s p c n vs) : g0s p n := by
 rcases h.form with ⟨_, _, rfl, _⟩ | ⟨g, rfl, _⟩
 · exact fun h => by simp at h
 · exact fun _ => ⟨rfl, rfl⟩
theorem OwnS.far (h : OwnS w base e s p c n vs) {b : Nat} {t : TypeId} {us : Array Value} (hX : Bt w b t us) (hne : Nat.beq t e = false) (hp : p.isSome = true) : blk p ≠ b := by
 rcases h.2 with ⟨h1, h2⟩ | ⟨g, cap, cur, hv, hb, hg, _⟩
 · simp only [Value.slice.injEq] at h1
   rw [h1.1] at hp; cases hp
 · simp only [Value.slice.injEq] at hv
   intro hE
   rw [hv.1] at hE
   have hE2 : g = b := hE
   subst hE2
   have hE3 := hg.symm.trans hX
   simp only [Option.some.injEq, Obj.cells.injEq] at hE3
   rw [hE3.2.1] at hne
   simp at hne
end
def f1c (b : Nat) (e : TypeId) (s : Nat) (p : Option Addr) (c n : Nat) (vs : List Value) : PF :=
 ⟨fun w => OwnS w b e s p c n vs, fun a => p.isSome = true ∧ blk p = a, fun _ _ h hb _ => h.same fun hp => hb _ (h.blk_lt hp).2 ⟨hp, rfl⟩, fun _ _ h hf => hf.2 ▸ (h.blk_lt hf.1).2⟩
section
variable {P : Program} {w : World}
end
section
variable {P : Program} {ops : Array Oper} {rest : List Oper} {o : Oper} {a : Act} {Q : Exit → Act → World → Prop} {w : World} {K : Act → World → Prop}
end
/-! ### A block that was handed in -/
theorem Bt.far {w : World} {b b' : Nat} {t t' : TypeId} {vs us : Array Value} (h : Bt w b t vs) (hX : Bt w b' t' us) (hne : Nat.beq t t' = false) : ¬ (b = b') := by
 intro e
 subst e
 have := h.symm.trans hX
 simp only [Option.some.injEq, Obj.cells.injEq] at this
 rw [this.2.1] at hne
 simp at hne
/-! ### Steps -/
def y0x : List Box → Bool
 | [] => true
 | b :: l => match b.ro with | true => false | false => y0x l
theorem o0k : ∀ {l : List Box}, y0x l = true → ∀ k, k < l.length → (lk bx0 l k).ro = false
 | [], _, _, h => by simp at h
 | b :: l, h, k, hk => by
  unfold y0x at h
  split at h
  · cases h
  · rename_i hb
    cases k with
    | zero => exact hb
    | succ k => exact o0k h k (by simpa using hk)
section
variable {P : Program} {Q : Exit → Act → World → Prop} {E : List Nat} {w0 : World} {A : List Nat} {fs : List PF} {W V : World} {c : Cfg}
theorem Inv.grown {W' : World} {bx : List Box} {b : Nat} {e : TypeId} {s : Nat} {p p' : Option Addr} {cc c' n n' : Nat} {vs vs' : List Value} (I : Inv E w0 A bx (f1c b e s p cc n vs :: fs) W) (hb : w0.heap.size ≤ b) (hrw : y0x bx = true)
 (hO : OwnS W' b e s p' c' n' vs') (hg : W.grownBy W' (p.map (·.block))) (hat : p'.isSome = true → (p.isSome = true ∧ blk p' = blk p) ∨ blk p' = W.heap.size) (hfar : p.isSome = true → PF.far (blk p) fs) :
 Inv E w0 A bx (f1c b e s p' c' n' vs' :: fs) W' := by
 have hrow := I.fa.1
 have hne : ∀ k, p.map (·.block) = some k → p.isSome = true ∧ blk p = k := fun k h => by
  cases p with
  | none => cases h
  | some a => exact ⟨rfl, Option.some.inj h⟩
 have keep : ∀ k, k < W.heap.size → (p.isSome = true → blk p ≠ k) → W'.heap[k]? = W.heap[k]? := fun k hk h => hg.block k hk fun e => by
  obtain ⟨h1, h2⟩ := hne k e.symm
  exact h h1 h2
 refine ⟨⟨hg.os.trans I.bel.os, hg.tape.trans I.bel.tape, hg.output.trans I.bel.output, Nat.le_trans I.bel.size hg.size, fun k hk hkE => ?_⟩, I.ge, I.nd, I.len, I.pre, fun k hk => ?_, ⟨hO, ?_⟩, fun a ha => ⟨fun hf => ?_, (I.far a ha).2⟩⟩
 · rw [keep k (Nat.lt_of_lt_of_le hk I.bel.size) fun hp => by have := (hrow.blk_lt hp).1; omega]
   exact I.bel.block k hk hkE
 · have hF : Fa A bx (lk 0 A k) := ⟨k, hk, o0k hrw k hk, rfl⟩
   have h1 := I.bt k hk
   unfold Bt at h1 ⊢
   rw [keep _ (I.lt _ hF) fun hp e => (I.far _ hF).1 ⟨hp, e⟩]
   exact h1
 · refine PF.all_keep hg.size I.fa.2 fun k hk ha => keep k hk fun hp => ha _ (hfar hp)
 · rcases hat hf.1 with ⟨hp, h⟩ | h
   · exact (I.far a ha).1 ⟨hp, h.symm.trans hf.2⟩
   · have := I.lt a ha
     have := hf.2
     omega
theorem Inv.newb {bx : List Box} (I : Inv E w0 A bx fs V) (hb : Below V.heap.size V W) {b : Nat} {t : TypeId} {cs : List SV} (hge : V.heap.size ≤ b) (hB : Bt W b t (cs.map (SV.r A)).toArray) (h1 : wfL bx.length cs = true) (h2 : wfB bx.length bx = true) :
 Inv E w0 (A ++ [b]) (bx ++ [⟨t, cs, false⟩]) fs W := by
 have I' := I.past hb
 have hl : ∀ k, k < bx.length → lk 0 (A ++ [b]) k = lk 0 A k ∧ lk bx0 (bx ++ [⟨t, cs, false⟩]) k = lk bx0 bx k := fun k h => ⟨c0k 0 (by rw [I.len]; exact h), c0k bx0 h⟩
 have hn : lk 0 (A ++ [b]) bx.length = b ∧ lk bx0 (bx ++ [⟨t, cs, false⟩]) bx.length = ⟨t, cs, false⟩ := ⟨by rw [← I.len, c0u], c0u _⟩
 have hF : ∀ a, Fa (A ++ [b]) (bx ++ [⟨t, cs, false⟩]) a → Fa A bx a ∨ a = b := fun a ⟨k, hk, hr, e⟩ => by
  rw [List.length_append, List.length_singleton] at hk
  by_cases h : k < bx.length
  · rw [(hl k h).2] at hr
    rw [(hl k h).1] at e
    exact .inl ⟨k, h, hr, e⟩
  · obtain rfl : k = bx.length := by omega
    exact .inr (e.trans hn.1)
 refine ⟨I'.bel, fun a ha => ?_, fun i j hi hj hr hne => ?_, by simp [I.len], I.pre.trans (List.prefix_append _ _), fun k hk => ?_, I'.fa, fun a ha => ?_⟩
 · rcases hF a ha with h | rfl
   · exact I.ge a h
   · exact .inl (Nat.le_trans I.bel.size hge)
 · rw [List.length_append, List.length_singleton] at hi hj
   by_cases h : i < bx.length
   · rw [(hl i h).2] at hr
     by_cases h' : j < bx.length
     · rw [(hl i h).1, (hl j h').1]
       exact I.nd i j h h' hr hne
     · obtain rfl : j = bx.length := by omega
       rw [(hl i h).1, hn.1]
       have := (I.bt i h).lt
       omega
   · obtain rfl : i = bx.length := by omega
     have h' : j < bx.length := by omega
     rw [(hl j h').1, hn.1]
     have := (I.bt j h').lt
     omega
 · rw [List.length_append, List.length_singleton] at hk
   by_cases h : k < bx.length
   · rw [(hl k h).1, (hl k h).2]
     have := I'.bt k h
     unfold Box.row at this ⊢
     rw [o0i _ I.len (m0m h2 k)]
     exact this
   · obtain rfl : k = bx.length := by omega
     rw [hn.1, hn.2]
     unfold Box.row
     simp only
     rw [o0i _ I.len h1]
     exact hB
 · rcases hF a ha with h | rfl
   · exact I'.far a h
   · have : ∀ {l : List PF}, PF.all V l → PF.far a l := fun {l} hl => by
      induction l with
      | nil => exact True.intro
      | cons f l ih => exact ⟨fun hf => by have := f.lt V _ hl.1 hf; omega, ih hl.2⟩
     exact this I.fa
theorem f1d {A' : List Nat} {c' : Cfg} (hA : A <+: A') (he : act A c.fr = act A' c'.fr) (h1 : c'.rg = c.rg) (h2 : c'.ks = c.ks) (h : G P Q A' c' W) : G P Q A c W := by
 refine ⟨?_⟩
 have h := h.out
 unfold a1x at *
 obtain ⟨fr, bx, rg, ks⟩ := c
 obtain ⟨fr', bx', rg', ks'⟩ := c'
 simp only at *
 subst h1 h2
 rw [he]
 cases rg' with
 | off => exact h
 | pl => exact h
 | dr ops A0 m fuel listed => exact fun pre => h (pre.on hA)
 | one ops A0 m fuel listed i => exact fun pre => h (pre.on hA)
 | ret => exact h
theorem f1e {bxv : List Box} (I : Inv E w0 A bxv fs V) (hb : Below V.heap.size V W) (k b : Nat) (t : TypeId) (cs : List Value) (hge : V.heap.size ≤ b) (hB : Bt W b t cs.toArray)
 (h : ∀ A', lk 0 A' k = b → Inv E w0 A' (c.bx ++ [⟨t, cs.map .v, false⟩]) fs W → G P Q A' ⟨c.fr, c.bx ++ [⟨t, cs.map .v, false⟩], c.rg, c.ks⟩ W)
 (hbv : bxv = c.bx := by kernel_rfl) (hk : c.bx.length = k := by kernel_rfl) (h1 : wfL c.bx.length (cs.map SV.v) = true := by kernel_rfl) (h2 : wfB c.bx.length c.bx = true := by kernel_rfl) (h3 : wfL c.bx.length c.fr = true := by kernel_rfl) : G P Q A c W := by
 subst hbv
 have hcs : ∀ A, (cs.map SV.v).map (SV.r A) = cs := fun A => by
  rw [List.map_map]
  exact List.map_id _
 have I2 := I.newb hb (cs := cs.map SV.v) hge (by rw [hcs]; exact hB) h1 h2
 refine f1d (A' := A ++ [b]) (c' := ⟨c.fr, c.bx ++ [⟨t, cs.map .v, false⟩], c.rg, c.ks⟩) (List.prefix_append _ _) ?_ rfl rfl (h _ ?_ I2)
 · unfold act
   simp only
   rw [o0i _ I.len h3]
 · rw [← hk, ← I.len, c0u]
theorem f1f (I : Inv E w0 A c.bx fs W) (d k b : Nat) (hk : lk 0 A k = b) (h : ∀ A W, Inv E w0 A (putc (zr P (some d) c) (.p k 0)).bx fs W → G P Q A (putc (zr P (some d) c) (.p k 0)) W)
 (hkl : Nat.ble (k + 1) c.bx.length = true := by kernel_rfl)
 (hv : t0i P (zr P (some d) c) = some (.val (.v (.pointer (some ⟨b, 0, none⟩)))) := by kernel_rfl)
 (hc : ∀ A w, (e0t P (zr P (some d) c) A w).map (·.1) = (e0t P (zr P (some d) c) A w).map (·.2) := by intro _ _; kernel_rfl)
 (hr : ∀ A w, (zms P (some d) 5000 c A w).map (·.1) = (zms P (some d) 5000 c A w).map (·.2) := by intro _ _; kernel_rfl)
 (hm : ok1 (zr P (some d) c).rg (zr P (some d) c).bx = ok2 (zr P (some d) c).rg := by kernel_rfl) : G P Q A c W := by
 refine i0e 5000 I (fun A w => e0g (hr A w)) fun A' W' hA I' => ?_
 rw [← e1o] at I' ⊢
 refine e1r I' _ (.p k 0) ?_ (h A' W') hv (fun A w => e0g (hc A w)) hm
 show Value.pointer (some ⟨b, 0, none⟩) = .pointer (some ⟨lk 0 A' k, 0, none⟩)
 rw [r0r hA (by rw [I.len]; exact f0n hkl), hk]
end
end Go.Slip
namespace Go.Proofs.YtmacohmclpnphaaDoor
open Go.RowKit Go.Slip
theorem TabW.far {w : World} {b : Nat} {t : TypeId} {vs : Array Value} (h : TabW w) (hX : Bt w b t vs) (hne : (match vs[0]? with | some (.int .u8 _) => false | _ => true) = true) : ¬ (0 = b) := by
 intro e
 subst e
 have h1 := h.1 0 (by omega)
 rw [hX.bx.cell 0] at h1
 rw [h1] at hne
 cases hne
end Go.Proofs.YtmacohmclpnphaaDoor
namespace Go.Slip
def be (l : List Nat) : Nat := l.foldl (fun a c => a * 256 + c) 0
def vb (l : List Bool) : Nat := l.foldl (fun a b => 2 * a + b.toNat) 0
def h0n (c : Nat) : List Bool := [c / 128 % 2 == 1, c / 64 % 2 == 1, c / 32 % 2 == 1, c / 16 % 2 == 1, c / 8 % 2 == 1, c / 4 % 2 == 1, c / 2 % 2 == 1, c / 1 % 2 == 1]
def w0c : List Nat → List Bool
 | [] => []
 | c :: r => h0n c ++ w0c r
theorem w0d (l : List Bool) : ∀ a : Nat, l.foldl (fun a b => 2 * a + b.toNat) a = a * 2 ^ l.length + vb l := by
 induction l with
 | nil => intro a; simp [vb]
 | cons x r ih =>
  intro a
  unfold vb
  simp only [List.foldl_cons, List.length_cons]
  rw [ih, ih (2 * 0 + x.toNat), Nat.pow_succ, Nat.mul_zero, Nat.zero_add, Nat.add_mul]
  have h1 : 2 * a * 2 ^ r.length = a * (2 ^ r.length * 2) := by rw [Nat.mul_comm 2 a, Nat.mul_assoc, Nat.mul_comm 2]
  omega
theorem f1g : vb [] = 0 := rfl
theorem k0a (x : Bool) (r : List Bool) : vb (x :: r) = x.toNat * 2 ^ r.length + vb r := by
 show List.foldl _ _ r = _
 rw [w0d]
 simp
theorem f0p (x y : List Bool) : vb (x ++ y) = vb x * 2 ^ y.length + vb y := by
 show List.foldl _ _ (x ++ y) = _
 rw [List.foldl_append, w0d]
 rfl
theorem c1k (x : List Bool) (b : Bool) : vb (x ++ [b]) = 2 * vb x + b.toNat := by
 rw [f0p, k0a, f1g]
 simp
 omega
theorem q0i : ∀ l : List Bool, vb l < 2 ^ l.length
 | [] => by simp [vb]
 | x :: r => by
  have h := q0i r
  rw [k0a, List.length_cons, Nat.pow_succ]
  have h2 : x.toNat ≤ 1 := by cases x <;> decide
  have h3 : x.toNat * 2 ^ r.length ≤ 1 * 2 ^ r.length := Nat.mul_le_mul_right _ h2
  omega
theorem c1l : ∀ c, c < 256 → vb (h0n c) = c := by decide +kernel
theorem o0l (c : Nat) : (h0n c).length = 8 := rfl
theorem k0b : ∀ l : List Nat, (w0c l).length = 8 * l.length
 | [] => rfl
 | c :: r => by
  show (h0n c ++ w0c r).length = _
  rw [List.length_append, o0l, k0b r, List.length_cons]
  omega
theorem c1m (l : List Nat) : ∀ a : Nat, l.foldl (fun a c => a * 256 + c) a = a * 256 ^ l.length + be l := by
 induction l with
 | nil => intro a; simp [be]
 | cons x r ih =>
  intro a
  unfold be
  simp only [List.foldl_cons, List.length_cons]
  rw [ih, ih (0 * 256 + x), Nat.pow_succ, Nat.zero_mul, Nat.zero_add, Nat.add_mul, Nat.mul_assoc, Nat.mul_comm 256]
  omega
theorem c1n (x : Nat) (r : List Nat) : be (x :: r) = x * 256 ^ r.length + be r := by
 show List.foldl _ _ r = _
 rw [c1m]
 simp
theorem w0e (l : List Nat) (c : Nat) : be (l ++ [c]) = be l * 256 + c := by
 show List.foldl _ _ (l ++ [c]) = _
 rw [List.foldl_append]
 rfl
theorem w0f : ∀ l : List Nat, (∀ c ∈ l, c < 256) → vb (w0c l) = be l
 | [], _ => rfl
 | c :: r, h => by
  show vb (h0n c ++ w0c r) = _
  rw [f0p, c1l c (h c (List.mem_cons_self ..)), w0f r (fun d hd => h d (List.mem_cons_of_mem _ hd)), c1n, k0b, Nat.pow_mul]
theorem f1h (l : List Nat) (h : ∀ c ∈ l, c < 256) : be l < 2 ^ (8 * l.length) := by
 rw [← w0f l h, ← k0b]
 exact q0i _
theorem c1o (b : List Bool) (k : Nat) : vb (b.take k) = vb b / 2 ^ (b.length - k) := by
 have h := f0p (b.take k) (b.drop k)
 rw [List.take_append_drop, List.length_drop] at h
 have h2 := q0i (b.drop k)
 rw [List.length_drop] at h2
 rw [h, Nat.mul_comm, Nat.mul_add_div (Nat.pow_pos (by omega)), Nat.div_eq_of_lt h2]
 omega
theorem c1p (b : List Bool) (k : Nat) : vb (b.drop k) = vb b % 2 ^ (b.length - k) := by
 have h := f0p (b.take k) (b.drop k)
 rw [List.take_append_drop, List.length_drop] at h
 have h2 := q0i (b.drop k)
 rw [List.length_drop] at h2
 rw [h, Nat.mul_comm, Nat.mul_add_mod, Nat.mod_eq_of_lt h2]
theorem f1i (x : Bool) (r : List Bool) : (vb (x :: r) / 2 ^ r.length == 1) = x := by
 have h := q0i r
 rw [k0a, Nat.mul_comm, Nat.mul_add_div (Nat.pow_pos (by omega)), Nat.div_eq_of_lt h]
 cases x <;> simp
theorem c1q (x : Bool) (r : List Bool) : vb (x :: r) % 2 ^ r.length = vb r := by
 have h := q0i r
 rw [k0a, Nat.mul_comm, Nat.mul_add_mod, Nat.mod_eq_of_lt h]
theorem q0j {m z w : Nat} (h : 2 ^ z ∣ m) : m / 2 ^ z * 2 ^ (z % w) = m / 2 ^ (z / w * w) := by
 obtain ⟨q, rfl⟩ := h
 have e : 2 ^ z = 2 ^ (z / w * w) * 2 ^ (z % w) := by
  rw [← Nat.pow_add]
  congr 1
  have := Nat.div_add_mod z w
  rw [Nat.mul_comm] at this
  omega
 rw [Nat.mul_div_cancel_left _ (Nat.pow_pos (by omega))]
 rw [e, Nat.mul_assoc, Nat.mul_div_cancel_left _ (Nat.pow_pos (by omega)), Nat.mul_comm]
theorem t0m (p : Int) (z w : Nat) (hw : w = 1 ∨ w = 4) (h1 : -19999 ≤ p) (h2 : p ≤ 19999) : ((w : Int) * p + z + 80000).tdiv w - (80000 : Int).tdiv w = p + ((z / w : Nat) : Int) := by
 rcases hw with rfl | rfl
 · rw [Int.tdiv_eq_ediv_of_nonneg (by omega), Int.tdiv_eq_ediv_of_nonneg (by omega)]
   omega
 · rw [Int.tdiv_eq_ediv_of_nonneg (by omega), Int.tdiv_eq_ediv_of_nonneg (by omega)]
   omega
structure Gd where
 rad : Int
 digs : Int
 lo : Int
 hi : Int
 grad : Bool
def wid (g : Gd) : Nat := if g.rad = 16 then 4 else 1
def most (g : Gd) : Int := if g.rad = 16 then 4000 else 17000
def farG (g : Gd) (n : Int) : Prop := n < -most g ∨ most g < n
instance (g : Gd) (n : Int) : Decidable (farG g n) := by unfold farG; exact inferInstance
def errG (g : Gd) : Int :=
 if g.rad ≠ 2 ∧ g.rad ≠ 16 then 6 else if g.digs < 1 ∨ 120 < g.digs ∨ farG g g.lo ∨ farG g g.hi ∨ g.hi < g.lo then 3 else 0
structure e0v (g : Gd) : Prop where
 rad : g.rad = 2 ∨ g.rad = 16
 d1 : 1 ≤ g.digs
 d2 : g.digs ≤ 120
 l1 : -17000 ≤ g.lo
 l2 : g.lo ≤ 17000
 h1 : -17000 ≤ g.hi
 h2 : g.hi ≤ 17000
 le : g.lo ≤ g.hi
theorem b0i {g : Gd} (h : errG g = 0) : e0v g := by
 unfold errG at h
 by_cases h1 : g.rad ≠ 2 ∧ g.rad ≠ 16
 · rw [if_pos h1] at h; simp at h
 · rw [if_neg h1] at h
   by_cases h2 : g.digs < 1 ∨ 120 < g.digs ∨ farG g g.lo ∨ farG g g.hi ∨ g.hi < g.lo
   · rw [if_pos h2] at h; simp at h
   · unfold farG most at h2
     split at h2 <;> constructor <;> omega
theorem a0r (g : Gd) : 1 ≤ wid g ∧ wid g ≤ 4 := by unfold wid; split <;> omega
def numP (num : Nat) (n : Int) : Nat := num * 2 ^ n.toNat
def denP (den : Nat) (n : Int) : Nat := den * 2 ^ (-n).toNat
def qP (num den : Nat) (n : Int) : Nat := numP num n / denP den n
def rP (num den : Nat) (n : Int) : Nat := numP num n % denP den n
theorem i0v {den : Nat} (h : 0 < den) (n : Int) : 0 < denP den n := Nat.mul_pos h (Nat.pow_pos (by omega))
def e0l (num den : Nat) (e : Int) (w D : Nat) (k : Int) : Prop := 2 ^ (w * (D - 1)) ≤ qP num den (e - w * k)
instance (num den : Nat) (e : Int) (w D : Nat) (k : Int) : Decidable (e0l num den e w D k) := by unfold e0l; exact inferInstance
theorem f0q {num den : Nat} (hd : 0 < den) (e : Int) (w D : Nat) (k : Int) (u v : Nat) (huv : (u : Int) - v = w * k + (w * (D - 1) : Nat) - e) :
 e0l num den e w D k ↔ den * 2 ^ u ≤ num * 2 ^ v := by
 unfold e0l qP
 rw [Nat.le_div_iff_mul_le (i0v hd _)]
 unfold numP denP
 have h2 : ∀ n : Nat, 0 < 2 ^ n := fun n => Nat.pow_pos (by omega)
 generalize hj : w * (D - 1) = j at *
 have e1 : ∃ c : Nat, (2 : Nat) ^ j * 2 ^ (-(e - w * k)).toNat * 2 ^ c = 2 ^ u * 2 ^ (c - 0) * 1 ∨ True := ⟨0, .inr trivial⟩
 clear e1
 by_cases hn : 0 ≤ e - w * k
 · obtain ⟨a, ha⟩ : ∃ a : Nat, e - w * k = a := ⟨(e - w * k).toNat, by omega⟩
   rw [ha]
   have t1 : (-(a : Int)).toNat = 0 := by omega
   have t2 : ((a : Int)).toNat = a := by omega
   rw [t1, t2]
   have t3 : u + a = v + j := by omega
   constructor
   · intro h
     have := Nat.mul_le_mul_right (2 ^ v) h
     have e2 : (2 ^ j * (den * 2 ^ 0)) * 2 ^ v = den * 2 ^ u * 2 ^ a := by
      have : 2 ^ j * 2 ^ v = 2 ^ u * 2 ^ a := by rw [← Nat.pow_add, ← Nat.pow_add]; congr 1; omega
      simp only [Nat.pow_zero, Nat.mul_one]
      grind
     rw [e2] at this
     have e3 : num * 2 ^ a * 2 ^ v = num * 2 ^ v * 2 ^ a := by grind
     rw [e3] at this
     exact Nat.le_of_mul_le_mul_right this (h2 a)
   · intro h
     have := Nat.mul_le_mul_right (2 ^ a) h
     have e2 : den * 2 ^ u * 2 ^ a = (2 ^ j * (den * 2 ^ 0)) * 2 ^ v := by
      have : 2 ^ j * 2 ^ v = 2 ^ u * 2 ^ a := by rw [← Nat.pow_add, ← Nat.pow_add]; congr 1; omega
      simp only [Nat.pow_zero, Nat.mul_one]
      grind
     rw [e2] at this
     have e3 : num * 2 ^ v * 2 ^ a = num * 2 ^ a * 2 ^ v := by grind
     rw [e3] at this
     exact Nat.le_of_mul_le_mul_right this (h2 v)
 · obtain ⟨a, ha⟩ : ∃ a : Nat, e - w * k = -(a : Int) := ⟨(-(e - w * k)).toNat, by omega⟩
   rw [ha]
   have t1 : (-(-(a : Int))).toNat = a := by omega
   have t2 : (-(a : Int)).toNat = 0 := by omega
   rw [t1, t2]
   have t3 : u = v + j + a := by omega
   subst t3
   have e2 : den * 2 ^ (v + j + a) = (2 ^ j * (den * 2 ^ a)) * 2 ^ v := by rw [Nat.pow_add, Nat.pow_add]; grind
   rw [e2, Nat.pow_zero, Nat.mul_one]
   constructor
   · intro h; exact Nat.mul_le_mul_right _ h
   · intro h; exact Nat.le_of_mul_le_mul_right h (h2 v)
theorem l0i {num den : Nat} (hd : 0 < den) {e : Int} {w D : Nat} {k k' : Int} (h : e0l num den e w D k) (hk : k' ≤ k) : e0l num den e w D k' := by
 have hw : (w : Int) * k' ≤ w * k := Int.mul_le_mul_of_nonneg_left hk (by omega)
 obtain ⟨v, hv⟩ : ∃ v : Nat, 0 ≤ (w : Int) * k' + (w * (D - 1) : Nat) - e + v := ⟨(-((w : Int) * k' + (w * (D - 1) : Nat) - e)).toNat, by omega⟩
 have h1 := (f0q hd e w D k ((w : Int) * k + (w * (D - 1) : Nat) - e + v).toNat v (by omega)).1 h
 refine (f0q hd e w D k' ((w : Int) * k' + (w * (D - 1) : Nat) - e + v).toNat v (by omega)).2 (Nat.le_trans ?_ h1)
 exact Nat.mul_le_mul_left _ (Nat.pow_le_pow_right (by omega) (by omega))
structure IsK (num den : Nat) (e : Int) (w D : Nat) (K : Int) : Prop where
 yes : e0l num den e w D K
 no : ¬ e0l num den e w D (K + 1)
theorem IsK.le {num den : Nat} (hd : 0 < den) {e : Int} {w D : Nat} {K k : Int} (h : IsK num den e w D K) (hk : e0l num den e w D k) : k ≤ K := by
 rcases Int.lt_or_le K k with h1 | h1
 · exact absurd (l0i hd hk (by omega)) h.no
 · exact h1
theorem IsK.unique {num den : Nat} (hd : 0 < den) {e : Int} {w D : Nat} {K K' : Int} (h : IsK num den e w D K) (h' : IsK num den e w D K') : K = K' := by
 have h1 := h.le hd h'.yes
 have h2 := h'.le hd h.yes
 omega
theorem e0c (n : Int) (w : Nat) (hw : 0 < w) : (w : Int) * (n / w) ≤ n ∧ n < w * (n / w) + w := by
 have h1 := Int.emod_nonneg n (show (w : Int) ≠ 0 by omega)
 have h2 := Int.emod_lt_of_pos n (show (0 : Int) < w by omega)
 have h3 := Int.mul_ediv_add_emod n w
 omega
theorem r0y {num den : Nat} (hn : 0 < num) (hd : 0 < den) (e : Int) {w D : Nat} (hw : 0 < w) (hD : 1 ≤ D) (x : Int) (hx : x = (blen num : Int) - blen den + e) :
 e0l num den e w D (x / w - D) ∧ ¬ e0l num den e w D (x / w - D + 2) := by
 obtain ⟨b1, b2⟩ := e0c x w hw
 generalize x / (w : Int) = f at *
 have hn1 := f0c num hn
 have hn2 : num < 2 ^ blen num := (a0x num _).1 (Nat.le_refl _)
 have hd1 := f0c den hd
 have hd2 : den < 2 ^ blen den := (a0x den _).1 (Nat.le_refl _)
 have hbn := (c0o num).2 hn
 have hbd := (c0o den).2 hd
 have eD : (w : Int) * (f - D) + (w * (D - 1) : Nat) = w * f - w := by
  obtain ⟨d, rfl⟩ : ∃ d, D = d + 1 := ⟨D - 1, by omega⟩
  simp only [Nat.add_sub_cancel, Int.natCast_mul, Int.natCast_add]
  grind
 have eD2 : (w : Int) * (f - D + 2) + (w * (D - 1) : Nat) = w * f + w := by
  have : (w : Int) * (f - D + 2) = w * (f - D) + w * 2 := by grind
  omega
 constructor
 · obtain ⟨v, hv⟩ : ∃ v : Nat, 0 ≤ (w : Int) * f - w - e + v := ⟨(-((w : Int) * f - w - e)).toNat, by omega⟩
   refine (f0q hd e w D (f - D) ((w : Int) * f - w - e + v).toNat v (by omega)).2 ?_
   refine Nat.le_trans (Nat.mul_le_mul_right _ (Nat.le_of_lt hd2)) (Nat.le_trans ?_ (Nat.mul_le_mul_right _ hn1))
   rw [← Nat.pow_add, ← Nat.pow_add]
   exact Nat.pow_le_pow_right (by omega) (by omega)
 · obtain ⟨v, hv⟩ : ∃ v : Nat, 0 ≤ (w : Int) * f + w - e + v := ⟨(-((w : Int) * f + w - e)).toNat, by omega⟩
   intro h
   have h1 := (f0q hd e w D (f - D + 2) ((w : Int) * f + w - e + v).toNat v (by omega)).1 h
   have h2 : num * 2 ^ v < 2 ^ blen num * 2 ^ v := Nat.mul_lt_mul_of_pos_right hn2 (Nat.pow_pos (by omega))
   have h3 := Nat.mul_le_mul_right (2 ^ ((w : Int) * f + w - e + v).toNat) hd1
   rw [← Nat.pow_add] at h2 h3
   have h4 : 2 ^ (blen num + v) ≤ 2 ^ (blen den - 1 + ((w : Int) * f + w - e + v).toNat) := Nat.pow_le_pow_right (by omega) (by omega)
   omega
structure Pl where
 neg : Bool
 d : Nat
 pow : Int
 exact : Bool
 over : Bool
 under : Bool
def f0r (way : Int) (neg odd : Bool) (half : Int) : Bool :=
 if way = 1 then decide (0 < half) || (decide (half = 0) && odd) else if way = 2 then decide (0 ≤ half) else if way = 4 then !neg else if way = 5 then neg else false
def powK (g : Gd) (K : Int) : Int := if K < g.lo ∧ g.grad = true then g.lo else K
def upP (neg : Bool) (num den : Nat) (e : Int) (w : Nat) (way k : Int) : Bool :=
 decide (rP num den (e - w * k) ≠ 0) && f0r way neg (decide (qP num den (e - w * k) % 2 = 1)) (cmpN (rP num den (e - w * k) * 2) (denP den (e - w * k)))
def dUp (neg : Bool) (num den : Nat) (e : Int) (w : Nat) (way k : Int) : Nat := qP num den (e - w * k) + if upP neg num den e w way k then 1 else 0
def g0g (neg : Bool) (num den : Nat) (e : Int) (w D : Nat) (way k : Int) : Prop := upP neg num den e w way k = true ∧ w * D < blen (dUp neg num den e w way k)
instance (neg : Bool) (num den : Nat) (e : Int) (w D : Nat) (way k : Int) : Decidable (g0g neg num den e w D way k) := by unfold g0g; exact inferInstance
def digP (neg : Bool) (num den : Nat) (e : Int) (w D : Nat) (way k : Int) : Nat := if g0g neg num den e w D way k then 2 ^ (w * (D - 1)) else dUp neg num den e w way k
def powP (neg : Bool) (num den : Nat) (e : Int) (w D : Nat) (way k : Int) : Int := if g0g neg num den e w D way k then k + 1 else k
def fitK (neg : Bool) (num den : Nat) (e : Int) (g : Gd) (way K : Int) : Pl :=
 ⟨neg, digP neg num den e (wid g) g.digs.toNat way (powK g K),
  if digP neg num den e (wid g) g.digs.toNat way (powK g K) = 0 then 0 else powP neg num den e (wid g) g.digs.toNat way (powK g K),
  decide (rP num den (e - wid g * powK g K) = 0), decide (g.hi < powP neg num den e (wid g) g.digs.toNat way (powK g K)), decide (K < g.lo)⟩
theorem i0f {neg : Bool} {num den : Nat} {e : Int} {w D : Nat} {way k : Int} {X N : Nat} {ub : Bool} (h1 : upP neg num den e w way k = ub) (h2 : qP num den (e - w * k) = X) (h3 : N = w * (D - 1)) :
 digP neg num den e w D way k = (if ub = true ∧ w * D < blen (X + if ub then 1 else 0) then 2 ^ N else X + if ub then 1 else 0) ∧ powP neg num den e w D way k = if ub = true ∧ w * D < blen (X + if ub then 1 else 0) then k + 1 else k := by
 subst h1 h2 h3
 unfold digP powP
 by_cases h : g0g neg num den e w D way k
 · have h' : upP neg num den e w way k = true ∧ w * D < blen (qP num den (e - w * k) + if upP neg num den e w way k then 1 else 0) := h
   rw [if_pos h, if_pos h, if_pos h', if_pos h']; exact ⟨rfl, rfl⟩
 · have h' : ¬ (upP neg num den e w way k = true ∧ w * D < blen (qP num den (e - w * k) + if upP neg num den e w way k then 1 else 0)) := h
   rw [if_neg h, if_neg h, if_neg h', if_neg h']; exact ⟨rfl, rfl⟩
theorem c1r {neg : Bool} {num den : Nat} {e : Int} {g : Gd} {way K : Int} {wd D : Nat} {k1 : Int} {dd Y : Nat} {k2 : Int} (h5 : wid g = wd) (hD : g.digs.toNat = D) (h4 : powK g K = k1)
 (h2 : digP neg num den e wd D way k1 = dd) (h3 : powP neg num den e wd D way k1 = k2) (h8 : rP num den (e - wd * k1) = Y) :
 fitK neg num den e g way K = ⟨neg, dd, if dd = 0 then 0 else k2, decide (Y = 0), decide (g.hi < k2), decide (K < g.lo)⟩ := by
 subst h5 hD h4 h2 h3 h8
 rfl
def theK (num den : Nat) (e : Int) (w D : Nat) : Int :=
 if e0l num den e w D (((blen num : Int) - blen den + e) / w - D + 1) then ((blen num : Int) - blen den + e) / w - D + 1 else ((blen num : Int) - blen den + e) / w - D
theorem i0g {num den : Nat} (hn : 0 < num) (hd : 0 < den) (e : Int) {w D : Nat} (hw : 0 < w) (hD : 1 ≤ D) : IsK num den e w D (theK num den e w D) := by
 obtain ⟨h1, h2⟩ := r0y hn hd e hw hD _ rfl
 unfold theK
 by_cases h3 : e0l num den e w D (((blen num : Int) - blen den + e) / w - D + 1)
 · rw [if_pos h3]
   exact ⟨h3, by rw [show ∀ z : Int, z + 1 + 1 = z + 2 by omega]; exact h2⟩
 · rw [if_neg h3]
   exact ⟨h1, h3⟩
theorem c1s {num den : Nat} (hn : 0 < num) (hd : 0 < den) {e : Int} {w D : Nat} (hw : 0 < w) (hD : 1 ≤ D) {K : Int} (h : IsK num den e w D K) : theK num den e w D = K :=
 (i0g hn hd e hw hD).unique hd h
def a0j (neg : Bool) (num den : Nat) (e : Int) (g : Gd) (way : Int) : Pl :=
 if num = 0 then ⟨false, 0, 0, true, false, false⟩ else fitK neg num den e g way (theK num den e (wid g) g.digs.toNat)
theorem d0t {n : Nat} (h : n ≤ 480) : (dig B32 (2 ^ n)).length ≤ 16 := by
 have h1 := congrArg List.length (r0h (B := B32) (w := 32) (by decide) (by omega) n)
 rw [List.length_set, List.length_replicate] at h1
 omega
theorem c1t (z : Int) {e : Int} (hz : z ≠ 0) : e ≤ (norm z e).e := by
 unfold norm bare ofZ
 simp only
 rw [if_neg (by omega)]
 simp only
 omega
def upK (a : Dv) (w D : Nat) : Int := (topD a - 1) / w - D + 1
theorem q0k {m : Nat} (hm : 0 < m) (e : Int) {w D : Nat} (hw : 1 ≤ w) (hD : 1 ≤ D) : IsK m 1 e w D ((e + blen m - 1) / w - D + 1) := by
 have key : ∀ k : Int, e0l m 1 e w D k ↔ k ≤ (e + blen m - 1) / w - D + 1 := by
  intro k
  have hb := e0c (e + blen m - 1) w hw
  have hbm := (c0o m).2 hm
  obtain ⟨v, hv⟩ : ∃ v : Nat, 0 ≤ (w : Int) * k + (w * (D - 1) : Nat) - e + v := ⟨(-((w : Int) * k + (w * (D - 1) : Nat) - e)).toNat, by omega⟩
  rw [f0q (by omega) e w D k ((w : Int) * k + (w * (D - 1) : Nat) - e + v).toNat v (by omega), Nat.one_mul]
  have h1 : 2 ^ ((w : Int) * k + (w * (D - 1) : Nat) - e + v).toNat ≤ m * 2 ^ v ↔ ((w : Int) * k + (w * (D - 1) : Nat) - e + v).toNat < blen m + v := by
   have h2 := e0n hm v
   have h3 := a0x (m * 2 ^ v) ((w : Int) * k + (w * (D - 1) : Nat) - e + v).toNat
   omega
  rw [h1]
  have e1 : ((w * (D - 1) : Nat) : Int) = w * D - w := by
   obtain ⟨d, rfl⟩ : ∃ d, D = d + 1 := ⟨D - 1, by omega⟩
   simp only [Nat.add_sub_cancel, Int.natCast_mul, Int.natCast_add]; grind
  generalize (e + blen m - 1) / (w : Int) = f at *
  have e2 : (w : Int) * (f - D + 1) = w * f - w * D + w := by grind
  have e3 : (w : Int) * (k - 1) = w * k - w := by grind
  constructor
  · intro h
    rcases Int.lt_or_le (f - D + 1) k with h4 | h4
    · have h5 : (w : Int) * (f - D + 1 + 1) ≤ w * k := Int.mul_le_mul_of_nonneg_left (by omega) (by omega)
      have e4 : (w : Int) * (f - D + 1 + 1) = w * f - w * D + w + w := by grind
      omega
    · exact h4
  · intro h
    have h5 : (w : Int) * k ≤ w * (f - D + 1) := Int.mul_le_mul_of_nonneg_left h (by omega)
    omega
 exact ⟨(key _).2 (Int.le_refl _), fun h => by have := (key _).1 h; omega⟩
def a0k (a : Dv) (g : Gd) : Bool :=
 if a.m = 0 then true else
 if a.e < wid g * g.lo ∨ wid g * (g.hi + g.digs) < topD a then false else
 if upK a (wid g) g.digs.toNat < g.lo then (if g.grad then decide (wid g * g.lo ≤ a.e) else false) else decide (wid g * upK a (wid g) g.digs.toNat ≤ a.e)
def g0l (a : Dv) (g : Gd) : Bool :=
 if a.m = 0 then true else
 (fitK a.neg a.m 1 a.e g 3 (upK a (wid g) g.digs.toNat)).exact && !(fitK a.neg a.m 1 a.e g 3 (upK a (wid g) g.digs.toNat)).over && (!(fitK a.neg a.m 1 a.e g 3 (upK a (wid g) g.digs.toNat)).under || g.grad)
theorem m0x (neg : Bool) (num den : Nat) (e : Int) (w : Nat) (k : Int) : upP neg num den e w 3 k = false := by
 unfold upP f0r
 simp
theorem k0c (neg : Bool) (num den : Nat) (e : Int) (w D : Nat) (k : Int) : powP neg num den e w D 3 k = k := by
 unfold powP
 rw [if_neg]
 unfold g0g
 rw [m0x]
 simp
theorem w0g (neg : Bool) (num den : Nat) (e : Int) (w D : Nat) (k : Int) : digP neg num den e w D 3 k = qP num den (e - w * k) := by
 unfold digP
 rw [if_neg]
 · unfold dUp; rw [m0x]; simp
 · unfold g0g; rw [m0x]; simp
theorem o0m {m : Nat} (hm : m % 2 = 1) (n : Int) : rP m 1 n = 0 ↔ 0 ≤ n := by
 unfold rP numP denP
 by_cases h : 0 ≤ n
 · have e1 : (-n).toNat = 0 := by omega
   rw [e1]
   simp [h, Nat.mod_one]
 · have e1 : n.toNat = 0 := by omega
   rw [e1, Nat.pow_zero, Nat.mul_one, Nat.one_mul]
   have := b1r (n := (-n).toNat) hm (by omega)
   constructor
   · intro h2; exact absurd h2 this
   · intro h2; exact absurd h2 h
theorem m0y {a : Dv} (ha : Bare a) {g : Gd} (G : e0v g) : g0l a g = a0k a g := by
 unfold g0l a0k
 by_cases h0 : a.m = 0
 · rw [if_pos h0, if_pos h0]
 · rw [if_neg h0, if_neg h0]
   have hodd : a.m % 2 = 1 := by
    rcases ha with h | h
    · exact h
    · rw [h] at h0; simp at h0
   have wp := a0r g
   have hd := G.d1
   have hle := G.le
   have hb := e0c (topD a - 1) (wid g) (by omega)
   obtain ⟨D, hD⟩ : ∃ D : Nat, g.digs = D := ⟨g.digs.toNat, by omega⟩
   have hDt : g.digs.toNat = D := by omega
   rw [hDt, hD]
   have eU : upK a (wid g) D = (topD a - 1) / (wid g : Int) - D + 1 := rfl
   obtain ⟨K, hK⟩ : ∃ K, upK a (wid g) D = K := ⟨_, rfl⟩
   rw [hK] at eU ⊢
   generalize (topD a - 1) / (wid g : Int) = f at *
   show (decide (rP a.m 1 (a.e - wid g * powK g K) = 0) && !decide (g.hi < powP a.neg a.m 1 a.e (wid g) g.digs.toNat 3 (powK g K)) && (!decide (K < g.lo) || g.grad)) = _
   rw [k0c]
   have hx : decide (rP a.m 1 (a.e - wid g * powK g K) = 0) = decide (wid g * powK g K ≤ a.e) := by
    have := o0m hodd (a.e - wid g * powK g K)
    by_cases h : (wid g : Int) * powK g K ≤ a.e
    · rw [decide_eq_true h, decide_eq_true (this.2 (by omega))]
    · rw [decide_eq_false h, decide_eq_false (fun h2 => h (by have := this.1 h2; omega))]
   rw [hx]
   have w0 : 0 ≤ (wid g : Int) := by omega
   have eh : (wid g : Int) * (g.hi + D) = wid g * g.hi + wid g * D := Int.mul_add _ _ _
   have eK : (wid g : Int) * K = wid g * f - wid g * D + wid g := by rw [eU]; grind
   have hll : (wid g : Int) * g.lo ≤ wid g * g.hi := Int.mul_le_mul_of_nonneg_left hle w0
   rw [eh]
   have hKh : K ≤ g.hi ↔ topD a ≤ wid g * g.hi + wid g * D := by
    constructor
    · intro h
      have := Int.mul_le_mul_of_nonneg_left h w0
      omega
    · intro h
      rcases Int.lt_or_le g.hi K with h1 | h1
      · have h2 : (wid g : Int) * (g.hi + 1) ≤ wid g * K := Int.mul_le_mul_of_nonneg_left (by omega) w0
        rw [Int.mul_add] at h2
        omega
      · exact h1
   unfold powK
   by_cases hu : K < g.lo
   · have hh := hKh.1 (by omega)
     cases hg : g.grad
     · simp [hu]
     · simp only [hu, true_and, if_true, decide_true, Bool.not_true, Bool.false_or, Bool.and_true]
       rw [decide_eq_false (by omega : ¬ g.hi < g.lo)]
       by_cases h1 : (wid g : Int) * g.lo ≤ a.e
       · rw [if_neg (by omega)]; simp [h1]
       · rw [if_pos (by omega)]; simp [h1]
   · rw [if_neg (by omega), if_neg hu, decide_eq_false hu]
     simp only [Bool.not_false, Bool.true_or, Bool.and_true]
     have h3 : (wid g : Int) * g.lo ≤ wid g * K := Int.mul_le_mul_of_nonneg_left (by omega) w0
     by_cases h1 : (wid g : Int) * K ≤ a.e
     · by_cases h2 : g.hi < K
       · rw [if_pos (.inr (by have := hKh.2; omega)), decide_eq_true h2]; simp
       · rw [if_neg (by have := hKh.1 (by omega); omega), decide_eq_false h2]; simp
     · rw [decide_eq_false h1]
       split <;> simp
theorem l0j {z : Int} (hz : z ≠ 0) (e : Int) : (norm z e).m ≠ 0 := by
 unfold norm ofZ bare
 simp only
 rw [if_neg (by omega)]
 have := (b0r z.natAbs (by omega)).2
 simp only
 omega
theorem r0z {z : Int} (hz : z ≠ 0) (e : Int) : topD (norm z e) = e + blen z.natAbs := by
 unfold norm ofZ bare topD
 simp only
 rw [if_neg (by omega)]
 have h := (b0r z.natAbs (by omega)).1
 have h2 := (b0r z.natAbs (by omega)).2
 have h4 : 0 < z.natAbs / 2 ^ tz z.natAbs := by
  generalize z.natAbs / 2 ^ tz z.natAbs = q at *
  omega
 have h3 := e0n h4 (tz z.natAbs)
 rw [Nat.mul_comm, h] at h3
 simp only
 omega
def stepK (a : Dv) (g : Gd) : Int := max g.lo (upK a (wid g) g.digs.toNat)
theorem g0z {g : Gd} (G : e0v g) {D : Nat} (hD : g.digs = D) {z : Int} {k : Int} (h1 : z.natAbs < 2 ^ (wid g * D)) (h2 : z = 0 ∨ 2 ^ (wid g * (D - 1)) ≤ z.natAbs ∨ (g.grad = true ∧ k = g.lo)) (hk : g.lo ≤ k) (hk2 : k ≤ g.hi) : a0k (norm z (wid g * k)) g = true := by
 by_cases hz : z = 0
 · subst hz; rfl
 · have wp := a0r g
   have hd := G.d1
   have w0 : 0 ≤ (wid g : Int) := by omega
   have ht := r0z hz (wid g * k)
   have he := c1t z (e := wid g * k) hz
   have hm := l0j hz (wid g * k)
   generalize norm z (wid g * k) = a at *
   have hDt : g.digs.toNat = D := by omega
   have hb1 : blen z.natAbs ≤ wid g * D := (a0x _ _).2 h1
   have hb0 := (c0o z.natAbs).2 (by omega)
   unfold a0k
   rw [if_neg hm, hDt, hD]
   have e1 : ((wid g * D : Nat) : Int) = wid g * D := Int.natCast_mul _ _
   have a1 : (wid g : Int) * g.lo ≤ wid g * k := Int.mul_le_mul_of_nonneg_left hk w0
   have a2 : (wid g : Int) * k ≤ wid g * g.hi := Int.mul_le_mul_of_nonneg_left hk2 w0
   have e2 : (wid g : Int) * (g.hi + D) = wid g * g.hi + wid g * D := Int.mul_add _ _ _
   rw [if_neg (by omega)]
   have hb := e0c (topD a - 1) (wid g) (by omega)
   have eU : upK a (wid g) D = (topD a - 1) / (wid g : Int) - D + 1 := rfl
   generalize upK a (wid g) D = K at *
   generalize (topD a - 1) / (wid g : Int) = f at *
   have eK : (wid g : Int) * K = wid g * f - wid g * D + wid g := by rw [eU]; grind
   have hKk : K ≤ k := by
    rcases Int.lt_or_le k K with h | h
    · have h3 : (wid g : Int) * (k + 1) ≤ wid g * K := Int.mul_le_mul_of_nonneg_left (by omega) w0
      rw [Int.mul_add] at h3
      omega
    · exact h
   have a3 : (wid g : Int) * K ≤ wid g * k := Int.mul_le_mul_of_nonneg_left hKk w0
   by_cases hu : K < g.lo
   · rw [if_pos hu]
     rcases h2 with h2 | h2 | ⟨h2, _⟩
     · exact absurd h2 hz
     · exfalso
       have h3 : wid g * (D - 1) < blen z.natAbs := by
        rcases Nat.lt_or_ge (wid g * (D - 1)) (blen z.natAbs) with h | h
        · exact h
        · have := (a0x _ _).1 h; omega
       have e3 : ((wid g * (D - 1) : Nat) : Int) = wid g * D - wid g := by
        obtain ⟨d, rfl⟩ : ∃ d, D = d + 1 := ⟨D - 1, by omega⟩
        simp only [Nat.add_sub_cancel, Int.natCast_mul, Int.natCast_add]; grind
       have h4 : (wid g : Int) * (K + 1) ≤ wid g * k := Int.mul_le_mul_of_nonneg_left (by omega) w0
       rw [Int.mul_add] at h4
       omega
     · rw [if_pos h2]; exact dTr (by omega)
   · rw [if_neg hu]; exact dTr (by omega)
theorem w0h {a : Dv} {g : Gd} (G : e0v g) (hin : a0k a g = true) (h0 : a.m ≠ 0) :
 wid g * stepK a g ≤ a.e ∧ a.e ≤ wid g * stepK a g + 484 ∧ g.lo ≤ stepK a g ∧ stepK a g ≤ g.hi := by
 have wp := a0r g
 have hd := G.d1
 have hd2 := G.d2
 have hle := G.le
 have w0 : (0 : Int) ≤ wid g := by omega
 obtain ⟨D, hD⟩ : ∃ D : Nat, g.digs = D := ⟨g.digs.toNat, by omega⟩
 have hDt : g.digs.toNat = D := by omega
 have hwD : wid g * D ≤ 4 * 120 := Nat.mul_le_mul wp.2 (by omega)
 have ewD : ((wid g * D : Nat) : Int) = wid g * D := Int.natCast_mul _ _
 unfold stepK
 unfold a0k at hin
 rw [if_neg h0, hDt, hD] at hin
 rw [hDt]
 have hb := e0c (topD a - 1) (wid g) (by omega)
 have eU : upK a (wid g) D = (topD a - 1) / (wid g : Int) - D + 1 := rfl
 have etop : topD a = a.e + blen a.m := rfl
 have hbm := (c0o a.m).2 (by omega)
 generalize topD a = T at *
 generalize upK a (wid g) D = K at *
 generalize (T - 1) / (wid g : Int) = f at *
 have eK : (wid g : Int) * K = wid g * f - wid g * D + wid g := by rw [eU]; grind
 have ehi : (wid g : Int) * (g.hi + D) = wid g * g.hi + wid g * D := Int.mul_add _ _ _
 by_cases h1 : a.e < wid g * g.lo ∨ wid g * (g.hi + D) < T
 · rw [if_pos h1] at hin; simp at hin
 · rw [if_neg h1] at hin
   by_cases hu : K < g.lo
   · rw [if_pos hu] at hin
     have hm : max g.lo K = g.lo := by omega
     rw [hm]
     have h2 : (wid g : Int) * (K + 1) ≤ wid g * g.lo := Int.mul_le_mul_of_nonneg_left (by omega) w0
     rw [Int.mul_add] at h2
     exact ⟨by omega, by omega, by omega, by omega⟩
   · rw [if_neg hu] at hin
     have hm : max g.lo K = K := by omega
     have h2 := oTr hin
     rw [hm]
     have h3 : K ≤ g.hi := by
      rcases Int.lt_or_le g.hi K with h | h
      · have h4 : (wid g : Int) * (g.hi + 1) ≤ wid g * K := Int.mul_le_mul_of_nonneg_left (by omega) w0
        rw [Int.mul_add] at h4
        omega
      · exact h
     exact ⟨by omega, by omega, by omega, h3⟩
def le2 (a : Nat) (x : Int) (b : Nat) (y : Int) : Prop := a * 2 ^ (x - min x y).toNat ≤ b * 2 ^ (y - min x y).toNat
theorem h0a {a b : Nat} {x y : Int} (s : Int) (h1 : s ≤ x) (h2 : s ≤ y) : le2 a x b y ↔ a * 2 ^ (x - s).toNat ≤ b * 2 ^ (y - s).toNat := by
 unfold le2
 rw [show (x - s).toNat = (x - min x y).toNat + (min x y - s).toNat by omega, show (y - s).toNat = (y - min x y).toNat + (min x y - s).toNat by omega, Nat.pow_add, Nat.pow_add, ← Nat.mul_assoc, ← Nat.mul_assoc]
 have hp : 0 < 2 ^ (min x y - s).toNat := Nat.pow_pos (by omega)
 exact ⟨fun h => Nat.mul_le_mul_right _ h, fun h => Nat.le_of_mul_le_mul_right h hp⟩
theorem h0o {a b c : Nat} {x y z : Int} (h : le2 a x b y) (k : le2 b y c z) : le2 a x c z := by
 obtain ⟨s, h1, h2, h3⟩ : ∃ s : Int, s ≤ x ∧ s ≤ y ∧ s ≤ z := ⟨min x (min y z), by omega, by omega, by omega⟩
 rw [h0a s h1 h2] at h
 rw [h0a s h2 h3] at k
 rw [h0a s h1 h3]
 exact Nat.le_trans h k
theorem m0z {a b : Nat} {x : Int} : le2 a x b x ↔ a ≤ b := by
 unfold le2
 rw [show (x - min x x).toNat = 0 by omega]
 omega
theorem k0d {a : Nat} {x : Int} (n : Nat) : le2 (a * 2 ^ n) x a (x + n) ∧ le2 a (x + n) (a * 2 ^ n) x := by
 rw [h0a x (Int.le_refl _) (by omega), h0a x (by omega) (Int.le_refl _)]
 rw [show (x - x).toNat = 0 by omega, show (x + (n : Int) - x).toNat = n by omega]
 simp
theorem s0a {num den : Nat} (hd : 0 < den) (e k : Int) (m : Nat) : m ≤ qP num den (e - k) ↔ le2 (m * den) k num e := by
 unfold qP
 rw [Nat.le_div_iff_mul_le (i0v hd _)]
 unfold numP denP le2
 rcases Int.le_total k e with h | h
 · rw [show (-(e - k)).toNat = 0 by omega, show (k - min k e).toNat = 0 by omega, show (e - min k e).toNat = (e - k).toNat by omega]
   simp only [Nat.pow_zero, Nat.mul_one]
 · rw [show (e - k).toNat = 0 by omega, show (k - min k e).toNat = (-(e - k)).toNat by omega, show (e - min k e).toNat = 0 by omega]
   simp only [Nat.pow_zero, Nat.mul_one, Nat.mul_assoc]
theorem f1j {num den : Nat} (_hd : 0 < den) (e k : Int) : rP num den (e - k) = 0 ↔ le2 num e (qP num den (e - k) * den) k := by
 have h1 := Nat.div_add_mod (numP num (e - k)) (denP den (e - k))
 have e0 : le2 num e (qP num den (e - k) * den) k ↔ numP num (e - k) ≤ denP den (e - k) * qP num den (e - k) := by
  unfold le2 numP denP
  rcases Int.le_total k e with h | h
  · rw [show (-(e - k)).toNat = 0 by omega, show (k - min e k).toNat = 0 by omega, show (e - min e k).toNat = (e - k).toNat by omega]
    simp only [Nat.pow_zero, Nat.mul_one]
    rw [Nat.mul_comm (qP num den (e - k)) den]
  · rw [show (e - k).toNat = 0 by omega, show (k - min e k).toNat = (-(e - k)).toNat by omega, show (e - min e k).toNat = 0 by omega]
    simp only [Nat.pow_zero, Nat.mul_one]
    rw [show qP num den (e - k) * den * 2 ^ (-(e - k)).toNat = den * 2 ^ (-(e - k)).toNat * qP num den (e - k) by grind]
 rw [e0]
 unfold rP qP
 omega
theorem w0i {num den : Nat} (hd : 0 < den) (e : Int) (w D : Nat) (k : Int) : e0l num den e w D k ↔ le2 (2 ^ (w * (D - 1)) * den) (w * k) num e := by
 unfold e0l; exact s0a hd e _ _
theorem q_lt {num den : Nat} (hd : 0 < den) {e : Int} {w D : Nat} (hD : 1 ≤ D) {k : Int} (h : ¬ e0l num den e w D (k + 1)) : qP num den (e - w * k) < 2 ^ (w * D) := by
 rcases Nat.lt_or_ge (qP num den (e - w * k)) (2 ^ (w * D)) with h1 | h1
 · exact h1
 · exfalso
   refine h ((w0i hd e w D (k + 1)).2 ?_)
   have h2 := (s0a hd e ((w : Int) * k) _).1 h1
   have e1 : w * D = w * (D - 1) + w := by
    obtain ⟨c, rfl⟩ : ∃ c, D = c + 1 := ⟨D - 1, by omega⟩
    simp only [Nat.add_sub_cancel]; grind
   have e2 : 2 ^ (w * D) * den = 2 ^ (w * (D - 1)) * den * 2 ^ w := by rw [e1, Nat.pow_add]; grind
   rw [e2] at h2
   have h3 := (k0d (a := 2 ^ (w * (D - 1)) * den) (x := (w : Int) * k) w).2
   rw [show (w : Int) * (k + 1) = w * k + w by rw [Int.mul_add]; simp]
   exact h0o h3 h2
theorem q0l (g : Gd) (K : Int) : K ≤ powK g K := by unfold powK; split <;> omega
theorem q0m {num den : Nat} (hd : 0 < den) {e : Int} {w D : Nat} {K : Int} (hK : IsK num den e w D K) {k : Int} (hk : K ≤ k) : ¬ e0l num den e w D (k + 1) := fun h => by
 have := hK.le hd h
 omega
theorem l0k {g : Gd} (h : errG g = 0) : -17000 ≤ wid g * g.lo ∧ wid g * g.hi ≤ 17000 ∧ (wid g : Int) * g.digs ≤ 480 := by
 have G := b0i h
 have d1 := G.d1
 have d2 := G.d2
 unfold errG at h
 by_cases h1 : g.rad ≠ 2 ∧ g.rad ≠ 16
 · rw [if_pos h1] at h; simp at h
 · rw [if_neg h1] at h
   by_cases h2 : g.digs < 1 ∨ 120 < g.digs ∨ farG g g.lo ∨ farG g g.hi ∨ g.hi < g.lo
   · rw [if_pos h2] at h; simp at h
   · unfold farG most at h2
     unfold wid
     by_cases h3 : g.rad = 16
     · simp only [if_pos h3] at *; omega
     · simp only [if_neg h3] at *; omega
theorem s0b {neg : Bool} {num den : Nat} {e : Int} {g : Gd} {way K : Int} (hd : 0 < den) (G : e0v g) (hK : IsK num den e (wid g) g.digs.toNat K) : (fitK neg num den e g way K).d < 2 ^ (wid g * g.digs.toNat) := by
 have hD : 1 ≤ g.digs.toNat := by have := G.d1; omega
 have hq := q_lt hd hD (q0m hd hK (q0l g K))
 have hww : wid g * (g.digs.toNat - 1) < wid g * g.digs.toNat := Nat.mul_lt_mul_of_pos_left (by omega) (a0r g).1
 show digP neg num den e (wid g) g.digs.toNat way (powK g K) < _
 unfold digP
 by_cases hl : g0g neg num den e (wid g) g.digs.toNat way (powK g K)
 · rw [if_pos hl]; exact Nat.pow_lt_pow_right (by omega) hww
 · rw [if_neg hl]
   unfold g0g at hl
   by_cases hu : upP neg num den e (wid g) way (powK g K) = true
   · exact (a0x _ _).1 (by have : ¬ wid g * g.digs.toNat < blen (dUp neg num den e (wid g) way (powK g K)) := fun h => hl ⟨hu, h⟩; omega)
   · have : upP neg num den e (wid g) way (powK g K) = false := by simpa using hu
     unfold dUp; rw [this]; simpa using hq
theorem y0y {a : Dv} {g : Gd} (hg : errG g = 0) (hB : Bare a) (hin : a0k a g = true) : -17000 ≤ a.e ∧ a.e ≤ 17480 := by
 have G := b0i hg
 obtain ⟨w1, w2, w3⟩ := l0k hg
 by_cases h0 : a.m = 0
 · rw [hB.zero h0]; simp
 · unfold a0k at hin
   rw [if_neg h0] at hin
   by_cases h1 : a.e < wid g * g.lo ∨ wid g * (g.hi + g.digs) < topD a
   · rw [if_pos h1] at hin; simp at hin
   · have ht : topD a = a.e + blen a.m := rfl
     rw [Int.mul_add] at h1
     omega
structure Fm where
 size : Nat
 E : Nat
 F : Nat
 g : Gd
 fam : Nat
 ext : Bool
def fmt (n : Int) : Fm :=
 if n = 1 then ⟨4, 8, 23, ⟨2, 24, -149, 104, true⟩, 1, false⟩
 else if n = 2 then ⟨8, 11, 52, ⟨2, 53, -1074, 971, true⟩, 1, false⟩
 else if n = 3 then ⟨10, 15, 64, ⟨2, 64, -16445, 16320, true⟩, 1, true⟩
 else if n = 4 then ⟨4, 7, 24, ⟨16, 6, -70, 57, false⟩, 2, false⟩
 else if n = 5 then ⟨8, 7, 56, ⟨16, 14, -78, 49, false⟩, 2, false⟩
 else if n = 6 then ⟨4, 8, 23, ⟨2, 24, -151, 103, false⟩, 3, false⟩
 else if n = 7 then ⟨8, 8, 55, ⟨2, 56, -183, 71, false⟩, 3, false⟩
 else if n = 8 then ⟨8, 11, 52, ⟨2, 53, -1076, 970, false⟩, 3, false⟩
 else ⟨0, 0, 0, ⟨0, 0, 0, 0, false⟩, 0, false⟩
def IsFm (n : Int) : Prop := 1 ≤ n ∧ n ≤ 8
instance (n : Int) : Decidable (IsFm n) := by unfold IsFm; exact inferInstance
def Fm.hid (f : Fm) : Bool := !(f.fam == 2) && !f.ext
def Fm.inf (f : Fm) : Bool := f.fam == 1
def Fm.res (f : Fm) : Bool := f.fam == 3
def Fm.ord (f : Fm) : Nat := if f.ext then 2 else if f.fam = 3 then 1 else 0
structure b0l (f : Fm) : Prop where
 bits : 1 + f.E + f.F = 8 * f.size
 sz : f.size = 4 ∨ f.size = 8 ∨ f.size = 10
 e1 : 7 ≤ f.E
 e2 : f.E ≤ 15
 f1 : 23 ≤ f.F
 f2 : f.F ≤ 64
 g : errG f.g = 0
 fam : f.fam = 1 ∨ f.fam = 2 ∨ f.fam = 3
 ext : f.ext = true → f.fam = 1 ∧ f.F = 64 ∧ f.g.digs = 64
 w : wid f.g = if f.fam = 2 then 4 else 1
 rad : f.g.rad = if f.fam = 2 then 16 else 2
 grad : f.g.grad = decide (f.fam = 1)
 lo : -16445 ≤ f.g.lo ∧ f.g.lo ≤ -70
 hi : f.g.hi ≤ 16320
 hi1 : f.fam = 1 → f.g.hi = f.g.lo + (2 ^ f.E : Nat) - 3
 hi2 : f.fam = 2 → f.g.hi = f.g.lo + (2 ^ f.E : Nat) - 1
 hi3 : f.fam = 3 → f.g.hi = f.g.lo + (2 ^ f.E : Nat) - 2
 d2 : f.fam = 2 → 4 * f.g.digs = f.F
 d1 : f.fam ≠ 2 → f.ext = false → f.g.digs = f.F + 1
theorem i0w {n : Int} (h : IsFm n) : n = 1 ∨ n = 2 ∨ n = 3 ∨ n = 4 ∨ n = 5 ∨ n = 6 ∨ n = 7 ∨ n = 8 := by unfold IsFm at h; omega
theorem c0j {n : Int} (h : IsFm n) : b0l (fmt n) := by
 rcases i0w h with rfl | rfl | rfl | rfl | rfl | rfl | rfl | rfl <;> exact ⟨by decide, by decide, by decide, by decide, by decide, by decide, by decide, by decide, by decide, by decide, by decide, by decide, by decide, by decide, by decide, by decide, by decide, by decide, by decide⟩
def plc (o n i : Nat) : Nat := if o = 2 then n - 1 - i else if o = 1 then i + 1 - 2 * (i % 2) else i
def ordL (o : Nat) (xs : List Nat) : List Nat := (List.range xs.length).map fun i => dg xs (plc o xs.length i)
theorem b0m (o : Nat) (xs : List Nat) : (ordL o xs).length = xs.length := by simp [ordL]
theorem k0e {o : Nat} {xs : List Nat} {i : Nat} (h : i < xs.length) : dg (ordL o xs) i = dg xs (plc o xs.length i) := by
 unfold ordL
 rw [dg, List.getElem?_map, List.getElem?_range h]
 rfl
theorem l0l {xs ys : List Nat} (hl : xs.length = ys.length) (h : ∀ i, i < xs.length → dg xs i = dg ys i) : xs = ys := by
 apply List.ext_getElem hl
 intro i h1 h2
 have := h i h1
 unfold dg at this
 rw [List.getElem?_eq_getElem h1, List.getElem?_eq_getElem h2] at this
 simpa using this
theorem b1d {o n i : Nat} (ho : o = 1 → n % 2 = 0) (h : i < n) : plc o n i < n := by
 unfold plc
 split
 · omega
 · split
   · rename_i k
     have := ho k
     omega
   · exact h
theorem c1u {o n i : Nat} (h : i < n) : plc o n (plc o n i) = i := by
 unfold plc
 split
 · omega
 · split
   · omega
   · rfl
theorem l0m {o : Nat} {xs : List Nat} (ho : o = 1 → xs.length % 2 = 0) (h : ∀ x ∈ xs, x < 256) : ∀ x ∈ ordL o xs, x < 256 := by
 intro x hx
 unfold ordL at hx
 rw [List.mem_map] at hx
 obtain ⟨i, hi, rfl⟩ := hx
 rw [List.mem_range] at hi
 have k := b1d ho hi
 unfold dg
 rw [List.getElem?_eq_getElem k]
 exact h _ (List.getElem_mem k)
theorem w0j {o : Nat} {xs : List Nat} (ho : o = 1 → xs.length % 2 = 0) : ordL o (ordL o xs) = xs := by
 apply l0l (by rw [b0m, b0m])
 intro i hi
 rw [b0m, b0m] at hi
 rw [k0e (by rw [b0m]; exact hi), k0e (by rw [b0m]; exact b1d ho hi), b0m, c1u hi]
theorem w0k (xs : List Nat) : ordL 0 xs = xs := l0l (b0m _ _) fun i hi => by rw [b0m] at hi; rw [k0e hi]; rfl
theorem y0z (xs : List Nat) : ordL 2 xs = xs.reverse := l0l (by rw [b0m, List.length_reverse]) fun i hi => by rw [b0m] at hi; rw [k0e hi, k0x hi]; rfl
/-! ### What a pattern's number is -/
def Fm.neg (f : Fm) (N : Nat) : Bool := N / 2 ^ f.F / 2 ^ f.E == 1
def Fm.exp (f : Fm) (N : Nat) : Nat := N / 2 ^ f.F % 2 ^ f.E
def Fm.frac (f : Fm) (N : Nat) : Nat := N % 2 ^ f.F
structure Dc where
 cls : Nat
 m : Nat
 p : Int
def Fm.dec (f : Fm) (neg : Bool) (e frac : Nat) : Dc :=
 if f.fam = 2 then ⟨2, frac, f.g.lo + e⟩
 else if f.fam = 1 ∧ e = 2 ^ f.E - 1 then (if (f.ext = false ∧ frac = 0) ∨ (f.ext = true ∧ frac = 2 ^ 63) then ⟨3, 0, 0⟩ else ⟨4, 0, 0⟩)
 else if f.fam = 3 ∧ e = 0 then (if neg then ⟨5, 0, 0⟩ else ⟨1, 0, 0⟩)
 else if e = 0 then ⟨2, frac, f.g.lo⟩
 else if f.ext = false then ⟨2, frac + 2 ^ f.F, f.g.lo + e - 1⟩
 else if frac < 2 ^ 63 then ⟨4, 0, 0⟩
 else ⟨2, frac, f.g.lo + e - 1⟩
def Dc.c (d : Dc) : Nat := if d.cls = 2 ∧ d.m = 0 then 1 else d.cls
theorem w0l (f : Fm) (neg : Bool) (e frac : Nat) : (f.dec neg e frac).cls = 1 ∨ (f.dec neg e frac).cls = 2 ∨ (f.dec neg e frac).cls = 3 ∨ (f.dec neg e frac).cls = 4 ∨ (f.dec neg e frac).cls = 5 := by
 unfold Fm.dec
 repeat' split
 all_goals simp
theorem z0a {f : Fm} (neg : Bool) {e frac : Nat} (h : frac < 2 ^ f.F) : (f.dec neg e frac).m < 2 ^ (f.F + 1) := by
 have h1 : 2 ^ (f.F + 1) = 2 * 2 ^ f.F := by rw [Nat.pow_succ]; omega
 have h2 : 0 < 2 ^ f.F := Nat.pow_pos (by omega)
 unfold Fm.dec
 repeat' split
 all_goals simp only
 all_goals omega
theorem c1v {f : Fm} (G : b0l f) (neg : Bool) {e frac : Nat} (h : e < 2 ^ f.E) : -16445 ≤ (f.dec neg e frac).p ∧ (f.dec neg e frac).p ≤ 16323 := by
 have h1 := G.lo
 have h2 := G.hi
 have h3 := G.hi1
 have h4 := G.hi2
 have h5 := G.hi3
 have h6 := G.fam
 unfold Fm.dec
 generalize 2 ^ f.E = T at *
 repeat' split
 all_goals simp only
 all_goals omega
structure Vl where
 cls : Nat
 neg : Bool
 d : Nat
 pow : Int
structure Vr where
 cls : Nat
 neg : Bool
 x : Dv
def Fm.vl (f : Fm) (neg : Bool) (d : Dc) : Vl := ⟨d.c, if d.c ≤ 3 then neg else false, if d.c = 2 then d.m / 2 ^ (tz d.m / wid f.g * wid f.g) else 0, if d.c = 2 then d.p + (tz d.m / wid f.g : Nat) else 0⟩
def Fm.vr (f : Fm) (neg : Bool) (d : Dc) : Vr := ⟨d.c, if d.c ≤ 3 then neg else false, if d.c = 2 then bare ⟨neg, d.m, wid f.g * d.p⟩ else ⟨false, 0, 0⟩⟩
def Fm.decN (f : Fm) (N : Nat) : Dc := f.dec (f.neg N) (f.exp N) (f.frac N)
def Fm.valN (f : Fm) (N : Nat) : Vl := f.vl (f.neg N) (f.decN N)
def Fm.refN (f : Fm) (N : Nat) : Vr := f.vr (f.neg N) (f.decN N)
def Fm.powR (f : Fm) (x : Dv) : Int := (x.e + 80000).tdiv (wid f.g) - (80000 : Int).tdiv (wid f.g)
def Fm.toV (f : Fm) (v : Vr) : Vl := ⟨v.cls, v.neg, if v.cls = 2 then a1p ⟨false, v.x.m, v.x.e - wid f.g * f.powR v.x⟩ else 0, if v.cls = 2 then f.powR v.x else 0⟩
theorem z0b (f : Fm) (neg : Bool) (d : Dc) (h1 : -19999 ≤ d.p) (h2 : d.p ≤ 19999) : f.toV (f.vr neg d) = f.vl neg d := by
 by_cases h : d.c = 2
 · have hm : d.m ≠ 0 := by
    intro h0
    unfold Dc.c at h
    split at h
    · omega
    · rename_i k
      exact k ⟨h, h0⟩
   have hw : wid f.g = 1 ∨ wid f.g = 4 := by unfold wid; split <;> simp
   have hx : bare ⟨neg, d.m, wid f.g * d.p⟩ = ⟨neg, d.m / 2 ^ tz d.m, wid f.g * d.p + tz d.m⟩ := by unfold bare; rw [if_neg hm]
   have hk : f.powR (bare ⟨neg, d.m, wid f.g * d.p⟩) = d.p + (tz d.m / wid f.g : Nat) := by
    unfold Fm.powR
    rw [hx]
    exact t0m d.p (tz d.m) (wid f.g) hw h1 h2
   unfold Fm.toV Fm.vr Fm.vl
   simp only [if_pos h, hk]
   rw [hx]
   simp only [Vl.mk.injEq, true_and, and_true]
   have e : (wid f.g : Int) * d.p + tz d.m - wid f.g * (d.p + (tz d.m / wid f.g : Nat)) = ((tz d.m % wid f.g : Nat) : Int) := by
    rw [Int.mul_add]
    have := Nat.div_add_mod (tz d.m) (wid f.g)
    have k : (wid f.g : Int) * ((tz d.m / wid f.g : Nat) : Int) = ((wid f.g * (tz d.m / wid f.g) : Nat) : Int) := by rw [Int.natCast_mul]
    rw [k]
    omega
   unfold a1p
   simp only
   rw [e, if_pos (by omega), Int.toNat_natCast]
   exact q0j (w := wid f.g) ⟨d.m / 2 ^ tz d.m, ((b0r d.m (by omega)).1).symm⟩
 · unfold Fm.toV Fm.vr Fm.vl
   simp only [if_neg h]
theorem z0c {f : Fm} {x : Bool} {r : List Bool} (h : r.length = f.E + f.F) : f.neg (vb (x :: r)) = x := by
 unfold Fm.neg
 rw [Nat.div_div_eq_div_mul, ← Nat.pow_add, Nat.add_comm f.F, ← h]
 exact f1i x r
theorem z0d {f : Fm} {x : Bool} {r : List Bool} (h : r.length = f.E + f.F) : vb (x :: r) / 2 ^ f.F = vb (x :: r.take f.E) := by
 have := c1o (x :: r) (1 + f.E)
 rw [List.length_cons, h, show f.E + f.F + 1 - (1 + f.E) = f.F by omega, Nat.add_comm 1, List.take_succ_cons] at this
 exact this.symm
theorem z0e {f : Fm} {x : Bool} {r : List Bool} (h : r.length = f.E + f.F) : f.exp (vb (x :: r)) = vb (r.take f.E) := by
 unfold Fm.exp
 rw [z0d h]
 have h2 : (r.take f.E).length = f.E := by rw [List.length_take]; omega
 have := c1q x (r.take f.E)
 rw [h2] at this
 exact this
theorem w0m {f : Fm} {x : Bool} {r : List Bool} (h : r.length = f.E + f.F) : f.frac (vb (x :: r)) = vb (r.drop f.E) := by
 unfold Fm.frac
 have := c1p (x :: r) (f.E + 1)
 rw [List.length_cons, h, show f.E + f.F + 1 - (f.E + 1) = f.F by omega, List.drop_succ_cons] at this
 exact this.symm
def k0v : Nat → Nat → List Bool
 | _, 0 => []
 | a, n + 1 => k0v (a / 2) n ++ [a % 2 == 1]
theorem c0m : ∀ (n a : Nat), (k0v a n).length = n
 | 0, _ => rfl
 | n + 1, a => by rw [k0v, List.length_append, c0m n]; rfl
theorem h0p : ∀ (n a : Nat), vb (k0v a n) = a % 2 ^ n
 | 0, a => by simp [k0v, vb, Nat.mod_one]
 | n + 1, a => by
  rw [k0v, c1k, h0p n]
  have h1 : a % 2 ^ (n + 1) = a % 2 + 2 * (a / 2 % 2 ^ n) := by
   rw [Nat.pow_succ, Nat.mul_comm (2 ^ n) 2, Nat.mod_mul]
  have h2 : (a % 2 == 1).toNat = a % 2 := by
   rcases Nat.mod_two_eq_zero_or_one a with h | h <;> rw [h] <;> rfl
  omega
def Fm.pat (f : Fm) (neg : Bool) (e frac : Nat) : Nat := (neg.toNat * 2 ^ f.E + e) * 2 ^ f.F + frac
def c0z : Nat → Nat → List Nat
 | _, 0 => []
 | a, n + 1 => c0z (a / 256) n ++ [a % 256]
theorem c0v : ∀ (n a : Nat), (c0z a n).length = n
 | 0, _ => rfl
 | n + 1, a => by rw [c0z, List.length_append, c0v n]; rfl
theorem o0n : ∀ (n a : Nat), ∀ x ∈ c0z a n, x < 256
 | 0, _, x, h => by simp [c0z] at h
 | n + 1, a, x, h => by
  rw [c0z, List.mem_append] at h
  rcases h with h | h
  · exact o0n n _ x h
  · rw [List.mem_singleton] at h
    omega
theorem o0o : ∀ (n a : Nat), be (c0z a n) = a % 2 ^ (8 * n)
 | 0, a => by simp [c0z, be, Nat.mod_one]
 | n + 1, a => by
  rw [c0z, w0e, o0o n]
  rw [show 8 * (n + 1) = 8 * n + 8 by omega, Nat.pow_add, Nat.mul_comm (2 ^ (8 * n)), Nat.mod_mul]
  rw [show (2 : Nat) ^ 8 = 256 from rfl]
  omega
theorem t0n (l : List Nat) (x i : Nat) (h : i < l.length) : dg (l ++ [x]) i = dg l i := by
 unfold dg
 rw [List.getElem?_append_left h]
theorem o0p : ∀ (n a i : Nat), i < n → dg (c0z a n) i = a / 2 ^ (8 * (n - 1 - i)) % 256
 | 0, _, _, h => by omega
 | n + 1, a, i, h => by
  rw [c0z]
  by_cases h2 : i < n
  · rw [t0n _ _ _ (by rw [c0v]; exact h2), o0p n _ i h2, Nat.div_div_eq_div_mul]
    congr 2
    rw [show (256 : Nat) = 2 ^ 8 from rfl, ← Nat.pow_add]
    congr 1
    omega
  · obtain rfl : i = n := by omega
    unfold dg
    rw [List.getElem?_append_right (by rw [c0v]; exact Nat.le_refl _), c0v]
    simp
def Fm.str (f : Fm) (neg : Bool) (e frac : Nat) : List Nat := ordL f.ord (c0z (f.pat neg e frac) f.size)
def Fm.bits (f : Fm) (neg : Bool) (e frac : Nat) : List Bool := neg :: (k0v e f.E ++ k0v frac f.F)
theorem z0f (f : Fm) (neg : Bool) (e frac : Nat) : (f.bits neg e frac).length = 1 + f.E + f.F := by
 unfold Fm.bits
 rw [List.length_cons, List.length_append, c0m, c0m]
 omega
theorem s0c {f : Fm} {neg : Bool} {e frac : Nat} (he : e < 2 ^ f.E) (hf : frac < 2 ^ f.F) : vb (f.bits neg e frac) = f.pat neg e frac := by
 unfold Fm.bits Fm.pat
 rw [k0a, f0p, h0p, h0p, c0m, List.length_append, c0m, c0m, Nat.mod_eq_of_lt he, Nat.mod_eq_of_lt hf, Nat.pow_add, Nat.add_mul, Nat.mul_assoc]
 omega
theorem c1w (f : Fm) (neg : Bool) (e frac : Nat) : (f.str neg e frac).length = f.size := by unfold Fm.str; rw [b0m, c0v]
theorem b1e {f : Fm} (G : b0l f) {neg : Bool} {e frac : Nat} (he : e < 2 ^ f.E) (hf : frac < 2 ^ f.F) : f.pat neg e frac < 2 ^ (8 * f.size) := by
 rw [← G.bits, ← s0c he hf, ← z0f f neg e frac]
 exact q0i _
theorem f1k {f : Fm} (G : b0l f) {neg : Bool} {e frac : Nat} (he : e < 2 ^ f.E) (hf : frac < 2 ^ f.F) : be (ordL f.ord (f.str neg e frac)) = f.pat neg e frac := by
 have ho : f.ord = 1 → f.size % 2 = 0 := fun _ => by have := G.sz; omega
 unfold Fm.str
 rw [w0j (by rw [c0v]; exact ho), o0o, Nat.mod_eq_of_lt (b1e G he hf)]
theorem w0n {f : Fm} {neg : Bool} {e frac : Nat} (he : e < 2 ^ f.E) (hf : frac < 2 ^ f.F) : f.neg (f.pat neg e frac) = neg ∧ f.exp (f.pat neg e frac) = e ∧ f.frac (f.pat neg e frac) = frac := by
 rw [← s0c he hf]
 unfold Fm.bits
 have hl : (k0v e f.E ++ k0v frac f.F).length = f.E + f.F := by rw [List.length_append, c0m, c0m]
 refine ⟨z0c hl, ?_, ?_⟩
 · rw [z0e hl, List.take_left' (c0m _ _), h0p, Nat.mod_eq_of_lt he]
 · rw [w0m hl, List.drop_left' (c0m _ _), h0p, Nat.mod_eq_of_lt hf]
end Go.Slip
namespace Go.Proofs.YtmacohmclpnphaaDoor
open Go.RowKit Go.Slip
theorem w0o (p : Option Addr) (n c : Nat) (a d : Nat) (w : World) (hp : Rd w .u32 p (dig B32 a)) (hn : n = (dig B32 a).length) (hl : (dig B32 a).length ≤ 1000000000) (hd0 : 0 < d) (hd1 : d < 4294967296) :
 Calls Tryd.prog 149 #[.slice p n c, .int .u32 d] w fun e w' => ∃ p' c', e = .returned (.tuple #[.slice p' (dig B32 (a / d)).length c', .int .u32 (a % d : Nat)]) ∧
  Own w' w.heap.size .u32 76 p' c' (dig B32 (a / d)) ∧ Below w.heap.size w w' := by
 subst hn
 have HA := hi0 (a0z a0a a)
 have HXL := hi0 (b0v a0a a)
 generalize dig B32 a = xs at hp hl HA HXL ⊢
 have hsx := hp.solid
 go_enter Tryd.func149, Tryd.ntmps149
 go_wp2_with (refine l0z rfl _ _ _ rfl b0k .i64 .i64 xs.length _ _ rfl rfl ?_ ?_ ?_ ?_; omega; omega; omega; intro p1 c1 w1 ho1 hb1 hz1)
 go_loopw [7, 8] (fun rv iv wr => ∃ (k r : Nat) (L : List Nat), iv = .int .i64 ((k : Int) - 1) ∧ rv = .int .u64 r ∧ k ≤ xs.length ∧ r < d ∧ Hid (L.length = xs.length) ∧ Own wr w.heap.size .u32 76 p1 c1 L ∧ Below w.heap.size w wr ∧ Hid (SmallRel B32 L xs d k r))
  (fun _ iv _ => (intOf iv + 1).toNat)
 case atStart => exact ⟨xs.length, 0, _, rfl, rfl, Nat.le_refl _, hd0, List.length_replicate, ho1, hb1, (show SmallRel B32 _ xs d xs.length 0 from ⟨fun x hx => by rw [(List.mem_replicate.1 hx).2]; exact b0n, hd0, by simp⟩)⟩
 case round =>
  obtain ⟨k, r, L, rfl, rfl, hk, hrd, hL, hoL, hbL, HR⟩ := hrel
  have hpL := hp.past hbL
  have hsL := hoL.solid
  rw [hL.out] at hsL
  by_cases h0 : 0 < k
  · obtain ⟨k, rfl⟩ : ∃ j, k = j + 1 := ⟨k - 1, by omega⟩
    have hc1 := hpL.cells k (by omega)
    have hxd := a0n (B := 4294967296) (by omega) xs HXL.out k
    have hor := or32 r (dg xs k) (by omega) hxd
    obtain ⟨HS, HQ⟩ := HR.out.step (by omega) (by rw [hL.out]; omega) (by unfold B32; exact hxd)
    have HS := hi0 HS
    have ej : ((k + 1 : Nat) : Int) - 1 = k := by omega
    rw [ej]
    unfold B32 at HQ
    obtain ⟨t, ht⟩ : ∃ t, t = r * 4294967296 + dg xs k := ⟨_, rfl⟩
    have et : (r : Int) * 4294967296 + (dg xs k : Nat) = (t : Nat) := by omega
    have htb : t < 18446744073709551616 := by omega
    rw [et] at hor
    rw [← ht] at HQ
    have HT := hi0 ht
    have hq0 : (0 : Int) ≤ (t : Int) / (d : Int) := Int.ediv_nonneg (by omega) (by omega)
    have hq1 : (t : Int) / (d : Int) < 4294967296 := by have : ((t / d : Nat) : Int) = (t : Int) / (d : Int) := rfl; omega
    have hd2 : (1 : Int) ≤ (d : Int) := by omega
    have k0 : (0 : Int) ≤ (k : Int) := by omega
    have k1 : (k : Int) < (xs.length : Int) := by omega
    clear ht et hc1
    have hc1 := hpL.cells k (by omega)
    go_wp2_with fail
    clear hc1 hor ej
    have e1 : IntKind.u64.wrap (d : Int) = (d : Int) := IntWalk.u64_in _ (by omega)
    have e2 : ¬ d = 0 := by omega
    have e3 : IntKind.u64.wrap ((t : Int) / (d : Int)) = (t : Int) / (d : Int) := IntWalk.u64_in _ (by omega)
    have e4 : IntKind.u32.wrap ((t : Int) / (d : Int)) = (t : Int) / (d : Int) := IntWalk.u32_in _ (by omega)
    have e5 : (t : Int).tmod (d : Int) = (t : Int) % (d : Int) := Int.tmod_eq_emod_of_nonneg (by omega)
    have hcL := hoL.rd.cells k (by rw [hL.out]; omega)
    have hfL := f0x hoL k (by rw [hL.out]; omega)
    go_region
    obtain ⟨ho3, hg3, hb3⟩ := h0y hoL k (by rw [hL.out]; omega) (t / d)
    clear e1 e2 e3 e4 e5 hcL hfL
    have hb3 := hbL.trans (b0j hg3 hbL.size (fun j hj => by cases hj; exact hb3))
    have ho3 := ho3.drew
    have hb3 := hb3.drew
    have eq : ((t / d : Nat) : Int) = (t : Int) / (d : Int) := rfl
    rw [eq] at ho3 hb3 hg3
    generalize (wr.setCell (at_ p1 k) (.int .u32 ((t : Int) / (d : Int)))).drew = w3 at ho3 hb3 ⊢
    clear eq hg3
    go_wp2
    go_roundw
    case rel =>
     have e6 : r * B32 + dg xs k = t := by rw [HT.out]; rfl
     rw [e6] at HS
     exact ⟨k, t % d, _, rfl, rfl, by omega, Nat.mod_lt _ hd0, (by show (List.set _ _ _).length = _; rw [List.length_set]; exact hL.out), ho3, hb3, HS⟩
    case measure => first | (simp [intOf]; done) | (simp [intOf]; omega)
  · obtain rfl : k = 0 := by omega
    obtain ⟨hv, hm⟩ := HR.out.done HA.out
    have HM := hi0 hm
    have HV := hi0 hv
    clear hv hm
    go_wp2_with (go_at_call 131; refine (d0r _ _ _ L _ hoL.rd hL.out.symm hoL.le_cap HR.out.1 (by rw [hL.out]; omega)).mono ?_; rintro e w3 ⟨rfl, rfl⟩)
    go_ret2
    have ht := b0h a0a L HR.out.1
    have ho2 := hoL.take (dig B32 (val B32 L)).length
    rw [ht, HV.out] at ho2
    refine ⟨p1, c1, ?_, ho2, hbL⟩
    rw [HV.out, ← HM.out]
    rfl
end Go.Proofs.YtmacohmclpnphaaDoor
namespace Go.Slip
def WRel (L xs : List Nat) (i : Nat) : Prop := L.length = xs.length ∧ i % 2 = 0 ∧ i ≤ xs.length ∧ ∀ t, t < xs.length → dg L t = if t < i then dg xs (plc 1 xs.length t) else dg xs t
theorem WRel.start (xs : List Nat) : WRel xs xs 0 := ⟨rfl, rfl, by omega, fun t _ => by simp⟩
theorem WRel.step {L xs : List Nat} {i : Nat} (h : WRel L xs i) (hi : i + 1 < xs.length) : WRel ((L.set i (dg L (i + 1))).set (i + 1) (dg L i)) xs (i + 2) := by
 obtain ⟨h1, h2, h3, h4⟩ := h
 refine ⟨by simp [h1], by omega, by omega, fun t ht => ?_⟩
 have e1 := h4 (i + 1) hi
 have e2 := h4 i (by omega)
 rw [if_neg (by omega)] at e1 e2
 by_cases a : t = i + 1
 · subst a
   rw [a0w (by simp; omega), if_pos (by omega), e2]
   unfold plc
   rw [if_neg (by omega), if_pos rfl]
   congr 1
   omega
 · rw [b0d (by omega)]
   by_cases b : t = i
   · subst b
     rw [a0w (by omega), if_pos (by omega), e1]
     unfold plc
     rw [if_neg (by omega), if_pos rfl]
     congr 1
     omega
   · rw [b0d (by omega), h4 t ht]
     by_cases c : t < i
     · rw [if_pos c, if_pos (by omega)]
     · rw [if_neg c, if_neg (by omega)]
theorem WRel.done {L xs : List Nat} {i : Nat} (h : WRel L xs i) (hi : ¬ i + 1 < xs.length) (h2 : xs.length % 2 = 0) : L = ordL 1 xs := by
 obtain ⟨k1, k2, k3, k4⟩ := h
 refine l0l (by rw [b0m, k1]) fun t ht => ?_
 rw [k1] at ht
 rw [k0e ht, k4 t ht, if_pos (by omega)]
end Go.Slip
namespace Go.Proofs.YtmacohmclpnphaaDoor
open Go.RowKit Go.Slip
def ordF (f : Fm) : Nat := if f.ext then 122 else if f.fam = 3 then 124 else 121
theorem o0q (base : Nat) (p : Option Addr) (n c : Nat) (xs : List Nat) (w : World) (ho : Wr w base .u8 p xs) (hn : n = xs.length) (hl : xs.length ≤ 4000000000) (h0 : 0 < xs.length) :
 Calls Tryd.prog 122 #[.slice p n c] w fun e w' => e = .returned (.tuple #[]) ∧ Wr w' base .u8 p xs.reverse ∧ Below base w w' := by
 subst hn
 have HR0 := hi0 (h0f.start xs h0)
 have hsx := ho.rd.solid
 go_enter Tryd.func122, Tryd.ntmps122
 go_wp2
 go_loopw [2, 3] (fun iv jv wr => ∃ (i j : Nat) (L : List Nat), iv = .int .i64 i ∧ jv = .int .i64 j ∧ i ≤ xs.length ∧ j < xs.length ∧ Wr wr base .u8 p L ∧ Below base w wr ∧ Hid (h0f L xs i j))
  (fun iv _ _ => xs.length - (intOf iv).toNat)
 case atStart => exact ⟨0, xs.length - 1, xs, rfl, by go_num, Nat.zero_le _, by omega, ho, Below.refl _ _, HR0⟩
 case round =>
  obtain ⟨i, j, L, rfl, rfl, hi, hj, hoL, hbL, HR⟩ := hrel
  by_cases hij : i < j
  · have hLl := hi0 HR.out.1
    have ci := hoL.rd.cells i (by rw [hLl.out]; omega)
    have cj := hoL.rd.cells j (by rw [hLl.out]; omega)
    have fi := hoL.fr i (by rw [hLl.out]; omega)
    have s1 := hoL.set i (by rw [hLl.out]; omega) (dg L j)
    have fj := s1.1.fr j (by rw [List.length_set, hLl.out]; omega)
    have cj2 := s1.1.rd.cells j (by rw [List.length_set, hLl.out]; omega)
    rw [b0d (by omega)] at cj2
    have s2 := s1.1.set j (by rw [List.length_set, hLl.out]; omega) (dg L i)
    have HS := hi0 (HR.out.step hij)
    have i1 : (i : Int) < (xs.length : Int) := by omega
    have j1 : (j : Int) < (xs.length : Int) := by omega
    have i0 : (0 : Int) ≤ (i : Int) := by omega
    have j0 : (0 : Int) ≤ (j : Int) := by omega
    have hb3 : Below base w ((wr.setCell (at_ p i) (.int .u8 (dg L j : Nat))).setCell (at_ p j) (.int .u8 (dg L i : Nat))) :=
     (hbL.setCell (by exact s1.2.2) _).setCell (by exact s1.2.2) _
    have S2 := hi0 s2
    have HB := hi0 hb3
    clear s1 s2 hb3
    go_wp2_with fail
    go_region
    have ho3 := S2.out.1.drew
    have hb3 := HB.out.drew
    clear ci cj fi fj cj2 S2 HB
    generalize ((wr.setCell (at_ p i) (.int .u8 (dg L j : Nat))).setCell (at_ p j) (.int .u8 (dg L i : Nat))).drew = w3 at ho3 hb3 ⊢
    go_wp2
    go_roundw
    case rel => exact ⟨i + 1, j - 1, _, by go_num, by go_num, by omega, by omega, ho3, hb3, HS⟩
    case measure => first | (simp [intOf]; done) | (simp [intOf]; omega)
  · have HD := hi0 (HR.out.done hij)
    go_wp2
    go_end0
    exact ⟨rfl, HD.out ▸ hoL, hbL⟩
theorem w0p (base : Nat) (p : Option Addr) (n c : Nat) (xs : List Nat) (w : World) (ho : Wr w base .u8 p xs) (hn : n = xs.length) (hl : xs.length ≤ 4000000000) (h2 : xs.length % 2 = 0) :
 Calls Tryd.prog 124 #[.slice p n c] w fun e w' => e = .returned (.tuple #[]) ∧ Wr w' base .u8 p (ordL 1 xs) ∧ Below base w w' := by
 subst hn
 have HR0 := hi0 (WRel.start xs)
 have HE := hi0 h2
 clear h2
 have hsx := ho.rd.solid
 go_enter Tryd.func124, Tryd.ntmps124
 go_wp2
 go_loopw [2] (fun iv wr => ∃ (i : Nat) (L : List Nat), iv = .int .i64 i ∧ i ≤ xs.length ∧ Wr wr base .u8 p L ∧ Below base w wr ∧ Hid (WRel L xs i))
  (fun iv _ => xs.length - (intOf iv).toNat)
 case atStart => exact ⟨0, xs, rfl, Nat.zero_le _, ho, Below.refl _ _, HR0⟩
 case round =>
  obtain ⟨i, L, rfl, hi, hoL, hbL, HR⟩ := hrel
  by_cases hij : i + 1 < xs.length
  · have hLl := hi0 HR.out.1
    have ci := hoL.rd.cells i (by rw [hLl.out]; omega)
    have cj := hoL.rd.cells (i + 1) (by rw [hLl.out]; omega)
    have fi := hoL.fr i (by rw [hLl.out]; omega)
    have s1 := hoL.set i (by rw [hLl.out]; omega) (dg L (i + 1))
    have fj := s1.1.fr (i + 1) (by rw [List.length_set, hLl.out]; omega)
    have cj2 := s1.1.rd.cells (i + 1) (by rw [List.length_set, hLl.out]; omega)
    rw [b0d (by omega)] at cj2
    have s2 := s1.1.set (i + 1) (by rw [List.length_set, hLl.out]; omega) (dg L i)
    have HS := hi0 (HR.out.step hij)
    have i1 : (i : Int) < (xs.length : Int) := by omega
    have j1 : ((i + 1 : Nat) : Int) < (xs.length : Int) := by omega
    have i0 : (0 : Int) ≤ (i : Int) := by omega
    have j0 : (0 : Int) ≤ ((i + 1 : Nat) : Int) := by omega
    have e1 : IntKind.i64.wrap ((i : Int) + 1) = ((i + 1 : Nat) : Int) := (iwo).trans (by omega)
    have e2 : IntKind.i64.wrap ((i : Int) + 2) = ((i + 2 : Nat) : Int) := (iwo).trans (by omega)
    have hb3 : Below base w ((wr.setCell (at_ p i) (.int .u8 (dg L (i + 1) : Nat))).setCell (at_ p (i + 1)) (.int .u8 (dg L i : Nat))) :=
     (hbL.setCell (by exact s1.2.2) _).setCell (by exact s1.2.2) _
    have S2 := hi0 s2
    have HB := hi0 hb3
    clear s1 s2 hb3
    generalize hj : i + 1 = j at *
    go_wp2_with fail
    go_region
    have ho3 := S2.out.1.drew
    have hb3 := HB.out.drew
    clear ci cj fi fj cj2 S2 HB
    generalize ((wr.setCell (at_ p i) (.int .u8 (dg L j : Nat))).setCell (at_ p j) (.int .u8 (dg L i : Nat))).drew = w3 at ho3 hb3 ⊢
    go_wp2
    go_roundw
    case rel => exact ⟨i + 2, _, by go_num, by omega, ho3, hb3, HS⟩
    case measure => first | (simp [intOf]; done) | (simp [intOf]; omega)
  · have HD := hi0 (HR.out.done hij HE.out)
    go_wp2
    go_end0
    exact ⟨rfl, HD.out ▸ hoL, hbL⟩
theorem z0g (p : Option Addr) (n c : Nat) (w : World) :
 Calls Tryd.prog 121 #[.slice p n c] w fun e w' => e = .returned (.tuple #[]) ∧ Below w.heap.size w w' := by
 refine calls_of_wp Tryd.func121 rfl ?_
 refine b0c (a' := ⟨((.slice p n c) :: undef :: []).toArray, []⟩) (by kernel_rfl) ?_
 refine wp_skip ?_
 refine yend (.tuple #[]) (res0 Tryd.results121 ) ?_
 exact ⟨rfl, (Below.refl _ _)⟩
theorem k0f (k : Nat) (hk : k = 122 ∨ k = 124 ∨ k = 121) {a : Act} {w : World} {x y : Operand} {v : Value} {dst : Option Tmp} {t2 tt : TypeId} {pos : String} {af : Array Edge} {g : Option (Nat × Bool)} (hx : a.eval x = .func (.func k) #[] #[]) (hy : a.eval y = v) :
 (execOp a.eval ⟨dst, .call { callee := .value x, args := #[y], argTypes := #[tt] }, t2, pos, af, g⟩).run Tryd.prog w = .ok (.enter k #[v]) w := by
 unfold execOp
 simp only [resolve, hx, hy, List.map_toArray, List.map_cons, List.map_nil]
 rcases hk with hk | hk | hk
 · subst hk
   kernel_rfl
 · subst hk
   kernel_rfl
 · subst hk
   kernel_rfl
theorem q0n (f : Fm) : ordF f = 122 ∨ ordF f = 124 ∨ ordF f = 121 := by
 unfold ordF
 split
 · simp
 · split <;> simp
theorem w0q (f : Fm) (base : Nat) (p : Option Addr) (n c : Nat) (xs : List Nat) (w : World) (G : b0l f) (ho : Wr w base .u8 p xs) (hn : n = xs.length) (hs : xs.length = f.size) (hb : base ≤ w.heap.size) :
 Calls Tryd.prog (ordF f) #[.slice p n c] w fun e w' => e = .returned (.tuple #[]) ∧ Wr w' base .u8 p (ordL f.ord xs) ∧ Below base w w' := by
 have hz := G.sz
 unfold ordF Fm.ord
 cases f.ext with
 | true =>
  rw [if_pos rfl, if_pos rfl, y0z]
  exact o0q base p n c xs w ho hn (by omega) (by omega)
 | false =>
  rw [if_neg (show ¬ (false = true) by simp), if_neg (show ¬ (false = true) by simp)]
  by_cases h : f.fam = 3
  · rw [if_pos h, if_pos h]
    exact w0p base p n c xs w ho hn (by omega) (by omega)
  · rw [if_neg h, if_neg h, w0k]
    exact (z0g p n c w).mono fun e w' ⟨h1, h2⟩ => ⟨h1, ho.past h2, h2.mono hb⟩
theorem d0v (d l g : Int) (gr : Bool) (w : World) : Calls Tryd.prog 120 #[.int .i64 d, .int .i64 l, .int .i64 g, .bool gr] w
 fun e w' => e = .returned (.agg #[.int .i64 2, .int .i64 d, .int .i64 l, .int .i64 g, .bool gr]) ∧ Below w.heap.size w w' := by
 have hT51 : d0z Tryd.prog 51 5 := c0f (by kernel_rfl) (by kernel_rfl)
 refine calls_of_wp Tryd.func120 rfl ?_
 refine b0c (a' := ⟨((.int .i64 d) :: (.int .i64 l) :: (.int .i64 g) :: (.bool gr) :: us 10 []).toArray, []⟩) (by kernel_rfl) ?_
 refine ye ?_
 refine yw 0 rfl 8 #[.int .i64 0, .int .i64 0, .int .i64 0, .int .i64 0, .bool false] 51 (fun V1 hbV1 hzV1 b8 => ?_)
 refine yzt 0 ?_
 refine ye ?_
 have boV2 := b8
 refine ysw 5 rfl b8 hT51 #[.int .i64 2, .int .i64 d, .int .i64 l, .int .i64 g, .bool gr] ?_
 clear b8
 intro V2 hOV2 b8
 have hzV2 := hOV2.size
 refine yzt 0 ?_
 refine wp_ret ?_
 repeat (first | with_reducible refine a0u ?_ | with_reducible refine a0p ?_)
 refine yret (.agg #[.int .i64 2, .int .i64 d, .int .i64 l, .int .i64 g, .bool gr]) (res1 Tryd.results120 (rvr b8 hT51)) ?_
 exact ⟨rfl, (hbV1.trans (hOV2.below (by omega)))⟩
theorem o0r (d l g : Int) (w : World) : Calls Tryd.prog 123 #[.int .i64 d, .int .i64 l, .int .i64 g] w
 fun e w' => e = .returned (.agg #[.int .i64 16, .int .i64 d, .int .i64 l, .int .i64 g, .bool false]) ∧ Below w.heap.size w w' := by
 have hT51 : d0z Tryd.prog 51 5 := c0f (by kernel_rfl) (by kernel_rfl)
 refine calls_of_wp Tryd.func123 rfl ?_
 refine b0c (a' := ⟨((.int .i64 d) :: (.int .i64 l) :: (.int .i64 g) :: us 8 []).toArray, []⟩) (by kernel_rfl) ?_
 refine ye ?_
 refine yw 0 rfl 6 #[.int .i64 0, .int .i64 0, .int .i64 0, .int .i64 0, .bool false] 51 (fun V1 hbV1 hzV1 b6 => ?_)
 refine yzt 0 ?_
 refine ye ?_
 have boV2 := b6
 refine ysw 4 rfl b6 hT51 #[.int .i64 16, .int .i64 d, .int .i64 l, .int .i64 g, .bool false] ?_
 clear b6
 intro V2 hOV2 b6
 have hzV2 := hOV2.size
 refine yzt 0 ?_
 refine wp_ret ?_
 repeat (first | with_reducible refine a0u ?_ | with_reducible refine a0p ?_)
 refine yret (.agg #[.int .i64 16, .int .i64 d, .int .i64 l, .int .i64 g, .bool false]) (res1 Tryd.results123 (rvr b6 hT51)) ?_
 exact ⟨rfl, (hbV1.trans (hOV2.below (by omega)))⟩
def f1l : Value := .agg #[.int .i64 0, .int .i64 0, .int .i64 0, .int .i64 0, .int .i64 0, .int .i64 0, .int .i64 0, .bool false, .bool false, .bool false, .bool false, .nilFunc]
theorem e0w (n : Int) (hn : IsFm n) (w : World) : Calls Tryd.prog 68 #[.int .i64 n] w
 fun e w' => e = .returned (.tuple #[.agg #[.int .i64 (((fmt n).size : Nat) : Int), .int .i64 (((fmt n).E : Nat) : Int), .int .i64 (((fmt n).F : Nat) : Int), .int .i64 (fmt n).g.rad, .int .i64 (fmt n).g.digs, .int .i64 (fmt n).g.lo, .int .i64 (fmt n).g.hi, .bool (fmt n).g.grad, .bool (fmt n).hid, .bool (fmt n).inf, .bool (fmt n).res, .func (.func (ordF (fmt n))) #[] #[]], .int .i64 0]) ∧ Below w.heap.size w w' := by
 rcases i0w hn with rfl | rfl | rfl | rfl | rfl | rfl | rfl | rfl
 · have hT79 : d0z Tryd.prog 79 12 := c0f (by kernel_rfl) (by kernel_rfl)
   refine calls_of_wp Tryd.func68 rfl ?_
   refine b0c (a' := ⟨((.int .i64 1) :: us 37 []).toArray, []⟩) (by kernel_rfl) ?_
   refine ye ?_
   refine yw 0 rfl 2 #[.int .i64 0, .int .i64 0, .int .i64 0, .int .i64 0, .int .i64 0, .int .i64 0, .int .i64 0, .bool false, .bool false, .bool false, .bool false, .nilFunc] 79 (fun V1 hbV1 hzV1 b2 => ?_)
   refine yzt 1 ?_
   refine wp_seq ?_
   refine yq ?_
   refine wp_block ?_
   refine yq ?_
   refine yT ?_
   refine ye ?_
   refine yc 0 rfl 7 (d0v 24 (-149) 104 true V1) (fun Gx hGx => ?_)
   rintro eV2 V2 ⟨rfl, hbV2⟩
   have hzV2 := hbV2.size
   refine ⟨_, rfl, hGx _ _ ?_⟩
   clear hGx Gx
   replace b2 := (b2.past hbV2)
   have boV3 := b2
   refine ysw 1 rfl b2 hT79 #[.int .i64 4, .int .i64 8, .int .i64 23, .int .i64 2, .int .i64 24, .int .i64 (-149), .int .i64 104, .bool true, .bool true, .bool true, .bool false, .func (.func 121) #[] #[]] ?_
   clear b2
   intro V3 hOV3 b2
   have hzV3 := hOV3.size
   refine yzt 1 ?_
   refine wp_ret ?_
   repeat (first | with_reducible refine a0u ?_ | with_reducible refine a0p ?_)
   refine yret (.tuple #[.agg #[.int .i64 4, .int .i64 8, .int .i64 23, .int .i64 2, .int .i64 24, .int .i64 (-149), .int .i64 104, .bool true, .bool true, .bool true, .bool false, .func (.func 121) #[] #[]], .int .i64 0]) (res2 Tryd.results68 (rvr b2 hT79) rvt) ?_
   exact ⟨by kernel_rfl, ((a0b hbV1 hbV2).trans (hOV3.below (by omega)))⟩
 · have hT79 : d0z Tryd.prog 79 12 := c0f (by kernel_rfl) (by kernel_rfl)
   refine calls_of_wp Tryd.func68 rfl ?_
   refine b0c (a' := ⟨((.int .i64 2) :: us 37 []).toArray, []⟩) (by kernel_rfl) ?_
   refine ye ?_
   refine yw 0 rfl 2 #[.int .i64 0, .int .i64 0, .int .i64 0, .int .i64 0, .int .i64 0, .int .i64 0, .int .i64 0, .bool false, .bool false, .bool false, .bool false, .nilFunc] 79 (fun V1 hbV1 hzV1 b2 => ?_)
   refine yzt 1 ?_
   refine wp_seq ?_
   refine yq ?_
   refine wp_block ?_
   refine yq ?_
   refine yF ?_
   refine yq ?_
   refine yT ?_
   refine ye ?_
   refine yc 0 rfl 11 (d0v 53 (-1074) 971 true V1) (fun Gx hGx => ?_)
   rintro eV2 V2 ⟨rfl, hbV2⟩
   have hzV2 := hbV2.size
   refine ⟨_, rfl, hGx _ _ ?_⟩
   clear hGx Gx
   replace b2 := (b2.past hbV2)
   have boV3 := b2
   refine ysw 1 rfl b2 hT79 #[.int .i64 8, .int .i64 11, .int .i64 52, .int .i64 2, .int .i64 53, .int .i64 (-1074), .int .i64 971, .bool true, .bool true, .bool true, .bool false, .func (.func 121) #[] #[]] ?_
   clear b2
   intro V3 hOV3 b2
   have hzV3 := hOV3.size
   refine yzt 1 ?_
   refine wp_ret ?_
   repeat (first | with_reducible refine a0u ?_ | with_reducible refine a0p ?_)
   refine yret (.tuple #[.agg #[.int .i64 8, .int .i64 11, .int .i64 52, .int .i64 2, .int .i64 53, .int .i64 (-1074), .int .i64 971, .bool true, .bool true, .bool true, .bool false, .func (.func 121) #[] #[]], .int .i64 0]) (res2 Tryd.results68 (rvr b2 hT79) rvt) ?_
   exact ⟨by kernel_rfl, ((a0b hbV1 hbV2).trans (hOV3.below (by omega)))⟩
 · have hT79 : d0z Tryd.prog 79 12 := c0f (by kernel_rfl) (by kernel_rfl)
   refine calls_of_wp Tryd.func68 rfl ?_
   refine b0c (a' := ⟨((.int .i64 3) :: us 37 []).toArray, []⟩) (by kernel_rfl) ?_
   refine ye ?_
   refine yw 0 rfl 2 #[.int .i64 0, .int .i64 0, .int .i64 0, .int .i64 0, .int .i64 0, .int .i64 0, .int .i64 0, .bool false, .bool false, .bool false, .bool false, .nilFunc] 79 (fun V1 hbV1 hzV1 b2 => ?_)
   refine yzt 1 ?_
   refine wp_seq ?_
   refine yq ?_
   refine wp_block ?_
   refine yq ?_
   refine yF ?_
   refine yq ?_
   refine yF ?_
   refine yq ?_
   refine yT ?_
   refine ye ?_
   refine yc 0 rfl 15 (d0v 64 (-16445) 16320 true V1) (fun Gx hGx => ?_)
   rintro eV2 V2 ⟨rfl, hbV2⟩
   have hzV2 := hbV2.size
   refine ⟨_, rfl, hGx _ _ ?_⟩
   clear hGx Gx
   replace b2 := (b2.past hbV2)
   have boV3 := b2
   refine ysw 1 rfl b2 hT79 #[.int .i64 10, .int .i64 15, .int .i64 64, .int .i64 2, .int .i64 64, .int .i64 (-16445), .int .i64 16320, .bool true, .bool false, .bool true, .bool false, .func (.func 122) #[] #[]] ?_
   clear b2
   intro V3 hOV3 b2
   have hzV3 := hOV3.size
   refine yzt 1 ?_
   refine wp_ret ?_
   repeat (first | with_reducible refine a0u ?_ | with_reducible refine a0p ?_)
   refine yret (.tuple #[.agg #[.int .i64 10, .int .i64 15, .int .i64 64, .int .i64 2, .int .i64 64, .int .i64 (-16445), .int .i64 16320, .bool true, .bool false, .bool true, .bool false, .func (.func 122) #[] #[]], .int .i64 0]) (res2 Tryd.results68 (rvr b2 hT79) rvt) ?_
   exact ⟨by kernel_rfl, ((a0b hbV1 hbV2).trans (hOV3.below (by omega)))⟩
 · have hT79 : d0z Tryd.prog 79 12 := c0f (by kernel_rfl) (by kernel_rfl)
   refine calls_of_wp Tryd.func68 rfl ?_
   refine b0c (a' := ⟨((.int .i64 4) :: us 37 []).toArray, []⟩) (by kernel_rfl) ?_
   refine ye ?_
   refine yw 0 rfl 2 #[.int .i64 0, .int .i64 0, .int .i64 0, .int .i64 0, .int .i64 0, .int .i64 0, .int .i64 0, .bool false, .bool false, .bool false, .bool false, .nilFunc] 79 (fun V1 hbV1 hzV1 b2 => ?_)
   refine yzt 1 ?_
   refine wp_seq ?_
   refine yq ?_
   refine wp_block ?_
   refine yq ?_
   refine yF ?_
   refine yq ?_
   refine yF ?_
   refine yq ?_
   refine yF ?_
   refine yq ?_
   refine yT ?_
   refine ye ?_
   refine yc 0 rfl 19 (o0r 6 (-70) 57 V1) (fun Gx hGx => ?_)
   rintro eV2 V2 ⟨rfl, hbV2⟩
   have hzV2 := hbV2.size
   refine ⟨_, rfl, hGx _ _ ?_⟩
   clear hGx Gx
   replace b2 := (b2.past hbV2)
   have boV3 := b2
   refine ysw 1 rfl b2 hT79 #[.int .i64 4, .int .i64 7, .int .i64 24, .int .i64 16, .int .i64 6, .int .i64 (-70), .int .i64 57, .bool false, .bool false, .bool false, .bool false, .func (.func 121) #[] #[]] ?_
   clear b2
   intro V3 hOV3 b2
   have hzV3 := hOV3.size
   refine yzt 1 ?_
   refine wp_ret ?_
   repeat (first | with_reducible refine a0u ?_ | with_reducible refine a0p ?_)
   refine yret (.tuple #[.agg #[.int .i64 4, .int .i64 7, .int .i64 24, .int .i64 16, .int .i64 6, .int .i64 (-70), .int .i64 57, .bool false, .bool false, .bool false, .bool false, .func (.func 121) #[] #[]], .int .i64 0]) (res2 Tryd.results68 (rvr b2 hT79) rvt) ?_
   exact ⟨by kernel_rfl, ((a0b hbV1 hbV2).trans (hOV3.below (by omega)))⟩
 · have hT79 : d0z Tryd.prog 79 12 := c0f (by kernel_rfl) (by kernel_rfl)
   refine calls_of_wp Tryd.func68 rfl ?_
   refine b0c (a' := ⟨((.int .i64 5) :: us 37 []).toArray, []⟩) (by kernel_rfl) ?_
   refine ye ?_
   refine yw 0 rfl 2 #[.int .i64 0, .int .i64 0, .int .i64 0, .int .i64 0, .int .i64 0, .int .i64 0, .int .i64 0, .bool false, .bool false, .bool false, .bool false, .nilFunc] 79 (fun V1 hbV1 hzV1 b2 => ?_)
   refine yzt 1 ?_
   refine wp_seq ?_
   refine yq ?_
   refine wp_block ?_
   refine yq ?_
   refine yF ?_
   refine yq ?_
   refine yF ?_
   refine yq ?_
   refine yF ?_
   refine yq ?_
   refine yF ?_
   refine yq ?_
   refine yT ?_
   refine ye ?_
   refine yc 0 rfl 23 (o0r 14 (-78) 49 V1) (fun Gx hGx => ?_)
   rintro eV2 V2 ⟨rfl, hbV2⟩
   have hzV2 := hbV2.size
   refine ⟨_, rfl, hGx _ _ ?_⟩
   clear hGx Gx
   replace b2 := (b2.past hbV2)
   have boV3 := b2
   refine ysw 1 rfl b2 hT79 #[.int .i64 8, .int .i64 7, .int .i64 56, .int .i64 16, .int .i64 14, .int .i64 (-78), .int .i64 49, .bool false, .bool false, .bool false, .bool false, .func (.func 121) #[] #[]] ?_
   clear b2
   intro V3 hOV3 b2
   have hzV3 := hOV3.size
   refine yzt 1 ?_
   refine wp_ret ?_
   repeat (first | with_reducible refine a0u ?_ | with_reducible refine a0p ?_)
   refine yret (.tuple #[.agg #[.int .i64 8, .int .i64 7, .int .i64 56, .int .i64 16, .int .i64 14, .int .i64 (-78), .int .i64 49, .bool false, .bool false, .bool false, .bool false, .func (.func 121) #[] #[]], .int .i64 0]) (res2 Tryd.results68 (rvr b2 hT79) rvt) ?_
   exact ⟨by kernel_rfl, ((a0b hbV1 hbV2).trans (hOV3.below (by omega)))⟩
 · have hT79 : d0z Tryd.prog 79 12 := c0f (by kernel_rfl) (by kernel_rfl)
   refine calls_of_wp Tryd.func68 rfl ?_
   refine b0c (a' := ⟨((.int .i64 6) :: us 37 []).toArray, []⟩) (by kernel_rfl) ?_
   refine ye ?_
   refine yw 0 rfl 2 #[.int .i64 0, .int .i64 0, .int .i64 0, .int .i64 0, .int .i64 0, .int .i64 0, .int .i64 0, .bool false, .bool false, .bool false, .bool false, .nilFunc] 79 (fun V1 hbV1 hzV1 b2 => ?_)
   refine yzt 1 ?_
   refine wp_seq ?_
   refine yq ?_
   refine wp_block ?_
   refine yq ?_
   refine yF ?_
   refine yq ?_
   refine yF ?_
   refine yq ?_
   refine yF ?_
   refine yq ?_
   refine yF ?_
   refine yq ?_
   refine yF ?_
   refine yq ?_
   refine yT ?_
   refine ye ?_
   refine yc 0 rfl 27 (d0v 24 (-151) 103 false V1) (fun Gx hGx => ?_)
   rintro eV2 V2 ⟨rfl, hbV2⟩
   have hzV2 := hbV2.size
   refine ⟨_, rfl, hGx _ _ ?_⟩
   clear hGx Gx
   replace b2 := (b2.past hbV2)
   have boV3 := b2
   refine ysw 1 rfl b2 hT79 #[.int .i64 4, .int .i64 8, .int .i64 23, .int .i64 2, .int .i64 24, .int .i64 (-151), .int .i64 103, .bool false, .bool true, .bool false, .bool true, .func (.func 124) #[] #[]] ?_
   clear b2
   intro V3 hOV3 b2
   have hzV3 := hOV3.size
   refine yzt 1 ?_
   refine wp_ret ?_
   repeat (first | with_reducible refine a0u ?_ | with_reducible refine a0p ?_)
   refine yret (.tuple #[.agg #[.int .i64 4, .int .i64 8, .int .i64 23, .int .i64 2, .int .i64 24, .int .i64 (-151), .int .i64 103, .bool false, .bool true, .bool false, .bool true, .func (.func 124) #[] #[]], .int .i64 0]) (res2 Tryd.results68 (rvr b2 hT79) rvt) ?_
   exact ⟨by kernel_rfl, ((a0b hbV1 hbV2).trans (hOV3.below (by omega)))⟩
 · have hT79 : d0z Tryd.prog 79 12 := c0f (by kernel_rfl) (by kernel_rfl)
   refine calls_of_wp Tryd.func68 rfl ?_
   refine b0c (a' := ⟨((.int .i64 7) :: us 37 []).toArray, []⟩) (by kernel_rfl) ?_
   refine ye ?_
   refine yw 0 rfl 2 #[.int .i64 0, .int .i64 0, .int .i64 0, .int .i64 0, .int .i64 0, .int .i64 0, .int .i64 0, .bool false, .bool false, .bool false, .bool false, .nilFunc] 79 (fun V1 hbV1 hzV1 b2 => ?_)
   refine yzt 1 ?_
   refine wp_seq ?_
   refine yq ?_
   refine wp_block ?_
   refine yq ?_
   refine yF ?_
   refine yq ?_
   refine yF ?_
   refine yq ?_
   refine yF ?_
   refine yq ?_
   refine yF ?_
   refine yq ?_
   refine yF ?_
   refine yq ?_
   refine yF ?_
   refine yq ?_
   refine yT ?_
   refine ye ?_
   refine yc 0 rfl 31 (d0v 56 (-183) 71 false V1) (fun Gx hGx => ?_)
   rintro eV2 V2 ⟨rfl, hbV2⟩
   have hzV2 := hbV2.size
   refine ⟨_, rfl, hGx _ _ ?_⟩
   clear hGx Gx
   replace b2 := (b2.past hbV2)
   have boV3 := b2
   refine ysw 1 rfl b2 hT79 #[.int .i64 8, .int .i64 8, .int .i64 55, .int .i64 2, .int .i64 56, .int .i64 (-183), .int .i64 71, .bool false, .bool true, .bool false, .bool true, .func (.func 124) #[] #[]] ?_
   clear b2
   intro V3 hOV3 b2
   have hzV3 := hOV3.size
   refine yzt 1 ?_
   refine wp_ret ?_
   repeat (first | with_reducible refine a0u ?_ | with_reducible refine a0p ?_)
   refine yret (.tuple #[.agg #[.int .i64 8, .int .i64 8, .int .i64 55, .int .i64 2, .int .i64 56, .int .i64 (-183), .int .i64 71, .bool false, .bool true, .bool false, .bool true, .func (.func 124) #[] #[]], .int .i64 0]) (res2 Tryd.results68 (rvr b2 hT79) rvt) ?_
   exact ⟨by kernel_rfl, ((a0b hbV1 hbV2).trans (hOV3.below (by omega)))⟩
 · have hT79 : d0z Tryd.prog 79 12 := c0f (by kernel_rfl) (by kernel_rfl)
   refine calls_of_wp Tryd.func68 rfl ?_
   refine b0c (a' := ⟨((.int .i64 8) :: us 37 []).toArray, []⟩) (by kernel_rfl) ?_
   refine ye ?_
   refine yw 0 rfl 2 #[.int .i64 0, .int .i64 0, .int .i64 0, .int .i64 0, .int .i64 0, .int .i64 0, .int .i64 0, .bool false, .bool false, .bool false, .bool false, .nilFunc] 79 (fun V1 hbV1 hzV1 b2 => ?_)
   refine yzt 1 ?_
   refine wp_seq ?_
   refine yq ?_
   refine wp_block ?_
   refine yq ?_
   refine yF ?_
   refine yq ?_
   refine yF ?_
   refine yq ?_
   refine yF ?_
   refine yq ?_
   refine yF ?_
   refine yq ?_
   refine yF ?_
   refine yq ?_
   refine yF ?_
   refine yq ?_
   refine yF ?_
   refine yq ?_
   refine yT ?_
   refine ye ?_
   refine yc 0 rfl 35 (d0v 53 (-1076) 970 false V1) (fun Gx hGx => ?_)
   rintro eV2 V2 ⟨rfl, hbV2⟩
   have hzV2 := hbV2.size
   refine ⟨_, rfl, hGx _ _ ?_⟩
   clear hGx Gx
   replace b2 := (b2.past hbV2)
   have boV3 := b2
   refine ysw 1 rfl b2 hT79 #[.int .i64 8, .int .i64 11, .int .i64 52, .int .i64 2, .int .i64 53, .int .i64 (-1076), .int .i64 970, .bool false, .bool true, .bool false, .bool true, .func (.func 124) #[] #[]] ?_
   clear b2
   intro V3 hOV3 b2
   have hzV3 := hOV3.size
   refine yzt 1 ?_
   refine wp_ret ?_
   repeat (first | with_reducible refine a0u ?_ | with_reducible refine a0p ?_)
   refine yret (.tuple #[.agg #[.int .i64 8, .int .i64 11, .int .i64 52, .int .i64 2, .int .i64 53, .int .i64 (-1076), .int .i64 970, .bool false, .bool true, .bool false, .bool true, .func (.func 124) #[] #[]], .int .i64 0]) (res2 Tryd.results68 (rvr b2 hT79) rvt) ?_
   exact ⟨by kernel_rfl, ((a0b hbV1 hbV2).trans (hOV3.below (by omega)))⟩
theorem f0s (n : Int) (hn : ¬ IsFm n) (w : World) : Calls Tryd.prog 68 #[.int .i64 n] w
 fun e w' => e = .returned (.tuple #[f1l, .int .i64 6]) ∧ Below w.heap.size w w' := by
 unfold IsFm at hn
 have hT79 : d0z Tryd.prog 79 12 := c0f (by kernel_rfl) (by kernel_rfl)
 refine calls_of_wp Tryd.func68 rfl ?_
 refine b0c (a' := ⟨((.int .i64 n) :: us 37 []).toArray, []⟩) (by kernel_rfl) ?_
 refine ye ?_
 refine yw 0 rfl 2 #[.int .i64 0, .int .i64 0, .int .i64 0, .int .i64 0, .int .i64 0, .int .i64 0, .int .i64 0, .bool false, .bool false, .bool false, .bool false, .nilFunc] 79 (fun V1 hbV1 hzV1 b2 => ?_)
 refine yzt 1 ?_
 refine wp_seq ?_
 refine yq ?_
 refine wp_block ?_
 refine ye ?_
 refine yb 0 rfl 6 (n == 1) (false) (bFn (by omega)) ?_
 refine yzt 1 ?_
 refine yF ?_
 refine ye ?_
 refine yb 0 rfl 10 (n == 2) (false) (bFn (by omega)) ?_
 refine yzt 1 ?_
 refine yF ?_
 refine ye ?_
 refine yb 0 rfl 14 (n == 3) (false) (bFn (by omega)) ?_
 refine yzt 1 ?_
 refine yF ?_
 refine ye ?_
 refine yb 0 rfl 18 (n == 4) (false) (bFn (by omega)) ?_
 refine yzt 1 ?_
 refine yF ?_
 refine ye ?_
 refine yb 0 rfl 22 (n == 5) (false) (bFn (by omega)) ?_
 refine yzt 1 ?_
 refine yF ?_
 refine ye ?_
 refine yb 0 rfl 26 (n == 6) (false) (bFn (by omega)) ?_
 refine yzt 1 ?_
 refine yF ?_
 refine ye ?_
 refine yb 0 rfl 30 (n == 7) (false) (bFn (by omega)) ?_
 refine yzt 1 ?_
 refine yF ?_
 refine ye ?_
 refine yb 0 rfl 34 (n == 8) (false) (bFn (by omega)) ?_
 refine yzt 1 ?_
 refine yF ?_
 refine wp_skip ?_
 refine d0u ?_
 refine a0y ?_
 refine ye ?_
 have boV2 := b2
 refine ysw 1 rfl b2 hT79 #[.int .i64 0, .int .i64 0, .int .i64 0, .int .i64 0, .int .i64 0, .int .i64 0, .int .i64 0, .bool false, .bool false, .bool false, .bool false, .nilFunc] ?_
 clear b2
 intro V2 hOV2 b2
 have hzV2 := hOV2.size
 refine yzt 1 ?_
 refine wp_ret ?_
 repeat (first | with_reducible refine a0u ?_ | with_reducible refine a0p ?_)
 refine yret (.tuple #[.agg #[.int .i64 0, .int .i64 0, .int .i64 0, .int .i64 0, .int .i64 0, .int .i64 0, .int .i64 0, .bool false, .bool false, .bool false, .bool false, .nilFunc], .int .i64 6]) (res2 Tryd.results68 (rvr b2 hT79) rvt) ?_
 exact ⟨by kernel_rfl, (hbV1.trans (hOV2.below (by omega)))⟩
def f0f (O : List Nat) (u N : Nat) : Prop := O ++ dig B32 u = dig B32 N
theorem f0f.len {O : List Nat} {u N : Nat} (h : f0f O u N) : O.length ≤ (dig B32 N).length := by
 have := congrArg List.length h
 simp at this; omega
theorem f0f.step {O : List Nat} {u N : Nat} (h : f0f O u N) (h0 : 0 < u) : f0f (O ++ [u % 4294967296]) (u / 4294967296) N := by
 unfold f0f at *
 rw [e0j a0a h0] at h
 rw [← h]
 simp [B32]
theorem w0r (N : Nat) (w : World) (hN : N < 9223372036854775808) : Calls Tryd.prog 77 #[.int .i64 N] w (f0a w .u32 76 (dig B32 N)) := by
 have hl : (dig B32 N).length ≤ 2 := (a0e a0a N 2).2 (by unfold B32; omega)
 go_enter Tryd.func77, Tryd.ntmps77
 go_wp2
 go_loopw [3, 4] (fun av uv wr => ∃ (u : Nat) (t : Option Addr) (e : Nat) (O : List Nat), uv = .int .u64 u ∧ av = .slice t O.length e ∧ u ≤ N ∧ Own wr w.heap.size .u32 76 t e O ∧ Below w.heap.size w wr ∧ Hid (f0f O u N))
  (fun _ uv _ => (intOf uv).toNat)
 case atStart => exact ⟨N, none, 0, [], by go_num, rfl, Nat.le_refl _, Own.nil _ _ _ _, Below.refl _ _, (show f0f [] N N from rfl)⟩
 case round =>
  obtain ⟨u, t, e, O, rfl, rfl, hu, hoO, hb, HR⟩ := hrel
  have hOl : O.length ≤ 2 := Nat.le_trans HR.out.len hl
  by_cases h0 : 0 < u
  · have HS := hi0 (HR.out.step h0)
    go_wp2_with (first
      | (refine d0c rfl _ _ rfl b0k _ ?_ rfl ?_; omega; intro p2 w2 ho2 hb2 hz2 hp2)
      | (at_builtin; refine d0b rfl _ _ _ rfl b0k _ _ _ _ _ (hoO.past hb2) rfl _ _ _ _ ho2.rd rfl rfl rfl ?_ ?_ ?_; (simp; omega); (have := hb2.size; have := hb.size; omega); intro p3 c3 w3 ho3 hg3 hb3 hn3))
    have e4 : ((u : Int) % 4294967296).toNat = u % 4294967296 := by omega
    rw [e4] at ho3
    have hb4 := hb.trans ((hb2.mono hb.size).trans hb3)
    go_roundw
    case rel => exact ⟨u / 4294967296, p3, c3, _, by go_num, by simp, by omega, ho3, hb4, HS⟩
    case measure => simp [intOf]; omega
  · obtain rfl : u = 0 := by omega
    go_wp2
    go_ret
    have := HR.out
    unfold f0f at this
    rw [a0d, List.append_nil] at this
    rw [← this]
    exact ⟨t, e, rfl, hoO, hb⟩
end Go.Proofs.YtmacohmclpnphaaDoor
namespace Go.Slip
/-! ### roots -/
def h0q (m R : Nat) : Prop := R * R ≤ m ∧ m < (R + 1) * (R + 1)
theorem h0q.unique {m R S : Nat} (h : h0q m R) (k : h0q m S) : R = S := by
 rcases Nat.lt_trichotomy R S with c | c | c
 · have := Nat.mul_le_mul c c
   have h1 := h.2; have h2 := k.1
   simp only [Nat.succ_eq_add_one] at this
   omega
 · exact c
 · have := Nat.mul_le_mul c c
   have h1 := k.2; have h2 := h.1
   simp only [Nat.succ_eq_add_one] at this
   omega
theorem h0q.half {m R : Nat} (h : h0q (m * 4) R) : h0q m (R / 2) := by
 obtain ⟨h1, h2⟩ := h
 have h3 : R = 2 * (R / 2) + R % 2 := by omega
 have h4 : R % 2 < 2 := Nat.mod_lt _ (by omega)
 generalize R / 2 = u at *
 generalize R % 2 = v at *
 subst h3
 constructor
 · have : (2 * u) * (2 * u) ≤ (2 * u + v) * (2 * u + v) := Nat.mul_le_mul (by omega) (by omega)
   have e : (2 * u) * (2 * u) = 4 * (u * u) := by grind
   omega
 · have : (2 * u + v + 1) * (2 * u + v + 1) ≤ (2 * (u + 1)) * (2 * (u + 1)) := Nat.mul_le_mul (by omega) (by omega)
   have e : (2 * (u + 1)) * (2 * (u + 1)) = 4 * ((u + 1) * (u + 1)) := by grind
   omega
theorem h0q.mono {m m' R R' : Nat} (h : h0q m R) (k : h0q m' R') (hm : m ≤ m') : R ≤ R' := by
 rcases Nat.lt_or_ge R' R with c | c
 · have := Nat.mul_le_mul c c
   have h1 := h.1; have h2 := k.2
   simp only [Nat.succ_eq_add_one] at this
   omega
 · exact c
end Go.Slip
