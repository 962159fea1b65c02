/- A walk that reckons: operations and calls that write to a row that is known. No program is in sight here. -/
import Derived.Maps.Own
import Derived.Carry
import Derived.Deep.LoopGhost
import Derived.Deep.RegionLaw
import Derived.Laws.BitsAllLaws
import Derived.Deep.RegionHeld3
import Derived.Deep.DeepCutAuto
import Derived.Outline
import Derived.Maps.AppendAt
import Derived.Test.YtgbbhlginbmghaaGreatDoorMCc1
import Derived.Test.YtgbbhlginbmghaaGreatDoorMCc2
import Derived.Test.YtgbbhlginbmghaaGreatDoorMCc3
set_option maxHeartbeats 8000000
set_option maxRecDepth 100000
namespace Go.Slip
open Go.RowKit
/-! ### Rows -/
def wrF (b : Nat) (k : IntKind) (p : OA) (xs : List Nat) : PF :=
 ⟨fun w => Wr w b k p xs, fun a => 0 < xs.length ∧ blk p = a, fun _ _ h hb _ => h.same fun hp => hb _ (h.rd.lt hp) ⟨hp, rfl⟩, fun _ _ h hf => hf.2 ▸ h.rd.lt hf.1⟩
theorem OwnV.apart {w : World} {base : Nat} {e : TypeId} {p : OA} {c : Nat} {vs : List Value} (h : OwnV w base e p c vs) {b2 : Nat} {k : IntKind} {e2 : TypeId} {q : OA} {c2 : Nat} {xs : List Nat} (o : Own w b2 k e2 q c2 xs) (hne : Nat.beq e2 e = false) (hp : p.isSome = true) : ¬ (q.isSome = true ∧ blk q = blk p) :=
 OwnS.apart (s := 1) (n := vs.length) h o hne hp
theorem u1i {w w' : World} (h : Below w.heap.size w w') (q : Option Nat) : w.grownBy w' q := ⟨h.os, h.tape, h.output, h.size, fun b hb _ => h.block b hb⟩
theorem j1r {a w w' : World} {q : Option Nat} (h : a.grownBy w q) (k : w.grownBy w' q) : a.grownBy w' q :=
 ⟨k.os.trans h.os, k.tape.trans h.tape, k.output.trans h.output, Nat.le_trans h.size k.size, fun b hb hn => (k.block b (Nat.lt_of_lt_of_le hb h.size) hn).trans (h.block b hb hn)⟩
theorem f1c {a w : World} {q : Option Nat} (h : a.grownBy w q) : a.grownBy w.drew q := ⟨h.os, h.tape, h.output, h.size, h.block⟩
theorem n1i {P : Program} {w : World} {src dt e : TypeId} (hs : P.underlying src = some (.slice e)) (he : P.underlying e = some (.int .u8)) (hd : P.underlying dt = some .string) {p : OA} {n c : Nat} {xs : List Nat} (hr : Rd w .u8 p xs) (hn : n = xs.length) :
 (VO.cv src dt (.slice p n c)).sem.run P w = .ok (.string (a0d xs)) w := f0n (P := P) w src dt e hs he hd p n c xs hr hn
theorem s1m {P : Program} {w : World} {ty : TypeId} {k : IntKind} {p : OA} {xs : List Nat} (hr : Rd w k p xs) (hT : k0k P ty) {m x : Nat} (hm : m < xs.length) (h : dg xs m = x) : (VO.ld ty (.pointer (some (at_ p m)))).sem.run P w = .ok (.int k (x : Int)) w := by
 subst h
 exact b0i hr.v hT (by rw [List.getElem?_map, List.getElem?_eq_getElem hm, a0x hm]; rfl)
theorem k0x {P : Program} (w : World) {t e : TypeId} {z : Value} {bytes : Nat} (hty : k0n P t e z bytes) (ty : TypeId) (base : Nat) (p : OA) (c : Nat) (xs : List Value) (hown : OwnV w base e p c xs)
 (q : OA) (c2 : Nat) (ys : List Value) (hrd : RdV w q ys) (hone : ys.all (·.oneCell') = true) (hb : (xs.length + ys.length) * bytes ≤ 140737488355328) (h63 : xs.length + ys.length ≤ maxLen) (hbase : base ≤ w.heap.size) :
 ∃ p' c' w', (Builtin.append_ #[t, t] ty #[.slice p xs.length c, .slice q ys.length c2]).run P w = .ok (.slice p' (xs.length + ys.length) c') w' ∧ OwnV w' base e p' c' (xs ++ ys) ∧
  w.grownBy w' (p.map (·.block)) ∧ (p'.isSome = true → (p.isSome = true ∧ blk p' = blk p) ∨ blk p' = w.heap.size) := by
 obtain ⟨i, hi, hz, hs, hbt⟩ := hty.hi
 by_cases hq : q = none
 · have h0 : ys = [] := by
    rcases Nat.eq_zero_or_pos ys.length with h | h
    · exact List.eq_nil_of_length_eq_zero h
    · have := (hrd.solid h).1; simp [hq] at this
   subst h0 hq
   refine ⟨p, c, w, ?_, by simpa using hown, ⟨rfl, rfl, rfl, Nat.le_refl _, fun _ _ _ => rfl⟩, fun h => .inl ⟨h, rfl⟩⟩
   have hle := hown.le_cap
   rcases hown.form with ⟨rfl, rfl, rfl⟩ | ⟨g, rfl, _⟩
   · simp [Builtin.append_, run_underlying hty.ht, sizeOf, typeInfo, hi, Builtin.lenOf, Builtin.firstCells]
   · simp [Builtin.append_, run_underlying hty.ht, sizeOf, typeInfo, hi, Builtin.lenOf, Builtin.firstCells, hle, storeCells]
 · obtain ⟨b, rfl⟩ := Option.ne_none_iff_exists'.1 hq
   have hnews : ∀ j u, ys[j]? = some u → w.cell? (b.add j) = some u := by
    intro j u hu
    have hj : j < ys.length := (List.getElem?_eq_some_iff.1 hu).1
    have h1 := hrd.cells j hj
    have h2 := c1t (some b) ys.length j hrd.solid (by omega)
    simp only [Option.getD_some] at h2
    rw [h2, h1, hu]
   obtain ⟨v', w', hr, ho, hg, hn, hat⟩ := run_append_own_at (P := P) w base t ty e i z 1 bytes hty.ht hi hz hs hbt (by rw [hty.hz]; rfl) (by omega) _ _ _ hown b ys.length c2 ys (by simp) hnews (fun u hu => List.all_eq_true.1 hone u hu) h63 hb hbase
   have hv : ∃ p' c', v' = .slice p' (xs.length + ys.length) c' := by
    rcases ho.2 with ⟨h1, h2⟩ | ⟨g, cap, cur, h1, _⟩
    · exact ⟨none, 0, by rw [h1]; congr 1; omega⟩
    · exact ⟨_, _, h1⟩
   obtain ⟨p', c', rfl⟩ := hv
   refine ⟨p', c', w', hr, by unfold OwnV; rw [List.length_append]; exact ho, by cases p <;> exact hg, fun hp' => ?_⟩
   cases p' with
   | none => cases hp'
   | some a' =>
    rcases hat with h1 | h1
    · cases p with
      | none => cases h1
      | some b => exact .inl ⟨rfl, Option.some.inj h1⟩
    · exact .inr (Option.some.inj h1)
section
variable {P : Program} {Q : Exit → Act → World → Prop} {E : List Nat} {w0 : World} {A : List Nat} {fs : List PF} {f : PF} {W W' : World} {c : Cfg}
theorem Inv.addNew {bx : List Box} (I : Inv E w0 A bx fs W) (hb : Below W.heap.size W W') (f : PF) (hf : f.prop W') (hfo : ∀ a, f.foot a → W.heap.size ≤ a) : Inv E w0 A bx (f :: fs) W' :=
 (I.past hb).add f hf fun a ha h => by
  have := I.lt a ha
  have := hfo a h
  omega
theorem Inv.redo {bx : List Box} (I : Inv E w0 A bx (f :: fs) W) (q : Option Nat) (hg : W.grownBy W' q) (hq : ∀ k, q = some k → f.foot k ∧ w0.heap.size ≤ k ∧ PF.far k fs) (hrw : l0z bx = true) (g : PF) (hp : g.prop W') (hfo : ∀ a, g.foot a → f.foot a ∨ W.heap.size ≤ a) : Inv E w0 A bx (g :: fs) W' := by
 refine ⟨⟨hg.os.trans I.bel.os, hg.tape.trans I.bel.tape, hg.output.trans I.bel.output, Nat.le_trans I.bel.size hg.size, fun j hj hjE => ?_⟩, I.ge, I.nd, I.len, I.pre, fun j hj => ?_, ⟨hp, ?_⟩, fun a ha => ⟨fun h => ?_, (I.far a ha).2⟩⟩
 · rw [hg.block j (Nat.lt_of_lt_of_le hj I.bel.size) fun e => by have := (hq j e.symm).2.1; omega]
   exact I.bel.block j hj hjE
 · have hF : Fa A bx (lk 0 A j) := ⟨j, hj, g0p hrw j hj, rfl⟩
   have h1 := I.bt j hj
   unfold Bt at h1 ⊢
   rw [hg.block _ (I.lt _ hF) fun e => (I.far _ hF).1 (hq _ e.symm).1]
   exact h1
 · exact PF.all_keep hg.size I.fa.2 fun b hb ha => hg.block b hb fun e => ha _ (hq _ e.symm).2.2 rfl
 · rcases hfo a h with h | h
   · exact (I.far a ha).1 h
   · have := I.lt a ha
     omega
theorem Inv.pk {bx : List Box} (I : Inv E w0 A bx (f :: fs) W) (is : List Nat) : Inv E w0 A bx (f :: Go.Slip.pick is fs) W := by
 have h1 := I.pick (0 :: is.map (· + 1))
 have : ∀ is : List Nat, Go.Slip.pick (is.map (· + 1)) (f :: fs) = Go.Slip.pick is fs := fun is => by
  induction is with
  | nil => rfl
  | cons i is ih => show _ :: _ = _ :: _; rw [ih]; rfl
 have h2 : Go.Slip.pick (0 :: is.map (· + 1)) (f :: fs) = f :: Go.Slip.pick is fs := by rw [← this is]; rfl
 rw [h2] at h1
 exact h1
/-! ### Operations that write -/
inductive WO where
 | st (t : TypeId) (x y : Value)
 | ap (t ty : TypeId) (s x : Value)
 | mk (t : TypeId) (n m : Value)
 | cv (s d : TypeId) (x : Value)
def WO.run (P : Program) (w w' : World) (v : Value) : WO → Prop
 | .st t x y => (Instr.storeAt t x y).run P w = .ok () w' ∧ v = undef
 | .ap t ty s x => (Builtin.append_ #[t, t] ty #[s, x]).run P w = .ok v w'
 | .mk t n m => (Instr.makeSlice t n m).run P w = .ok v w'
 | .cv s d x => (convert s d x).run P w = .ok v w'
def woOf (c : Cfg) (A : List Nat) : Option WO :=
 match hdOp c with
 | some ⟨_, .store t x y, _, _, _, _⟩ => some (.st t (evr A c.fr x) (evr A c.fr y))
 | some ⟨_, .makeSlice t n m, _, _, _, _⟩ => some (.mk t (evr A c.fr n) (evr A c.fr m))
 | some ⟨_, .convert s d x, _, _, _, _⟩ => some (.cv s d (evr A c.fr x))
 | some ⟨_, .call ⟨.builtin .append, ⟨[s, x]⟩, ⟨[t, t']⟩⟩, ty, _, _, _⟩ => match Nat.beq t t' with
  | true => some (.ap t ty (evr A c.fr s) (evr A c.fr x))
  | false => none
 | _ => none
theorem s1n {ops : Array Oper} {o : Oper} {a : Act} {K : Act → World → Prop} (d : Option Tmp) (hd : o.dst = d) (v : Value) (hw : Region.wanted o (yielded ops a.tmps) = true) (hr : (execOp a.eval o).run P W = .ok (.value v) W' ∨ (execOp a.eval o).run P W = .ok .skip W' ∧ v = undef) (h : K (a.put d v) W') : OpW P ops Q o K a W := by
 rcases hr with hr | ⟨hr, rfl⟩
 · subst hd
   refine ⟨?_⟩
   rw [if_pos hw]
   unfold Oper.wp
   rw [hr]
   exact h
 · exact i1l d hd hw hr h
theorem zdo {ι : Type} (I : Inv E w0 A c.bx fs W) (d : Option Nat) {wo : List Nat → WO} (v : ι → Value) (gs : ι → List PF)
 (hx : ∀ A W, Inv E w0 A (zr P d c).bx fs W → ∃ x W', (wo A).run P W W' (v x) ∧ Inv E w0 A (zr P d c).bx (gs x) W')
 (h : ∀ A W x, Inv E w0 A (putc (zr P d c) (.v (v x))).bx (gs x) W → G P Q A (putc (zr P d c) (.v (v x))) W)
 (hv : ∀ A, woOf (zr P d c) A = some (wo A))
 (hr : ∀ A w, (zms P d 5000 c A w).map (·.1) = (zms P d 5000 c A w).map (·.2))
 (hm : ok1 (zr P d c).rg (zr P d c).bx = ok2 (zr P d c).rg) : G P Q A c W :=
 b0d I hr fun A W I => by
  have hv := hv A
  obtain ⟨x, W', hx, J⟩ := hx A W I
  have h := h A W' x J
  clear hr
  generalize wo A = wo at hv hx
  generalize zr P d c = c at *
  generalize v x = v at *
  have ho : ∃ o, nxt c.rg = some o ∧ wnt (r0n c.rg) c.fr o = true ∧ ((execOp (evr A c.fr) o).run P W = .ok (.value v) W' ∨ (execOp (evr A c.fr) o).run P W = .ok .skip W' ∧ v = undef) := by
   have hh : ∀ o, hdOp c = some o → nxt c.rg = some o ∧ wnt (r0n c.rg) c.fr o = true := fun o h => by
    unfold hdOp at h
    split at h
    · split at h
      · rename_i hn _ hw
        cases h
        exact ⟨hn, hw⟩
      · cases h
    · cases h
   unfold woOf at hv
   split at hv
   · rename_i ho
     refine ⟨_, (hh _ ho).1, (hh _ ho).2, .inr ?_⟩
     cases hv
     refine ⟨?_, hx.2⟩
     unfold execOp
     simp only [Sem.run_bind, hx.1, Result.andThen_ok, Sem.run_pure]
   · rename_i ho
     refine ⟨_, (hh _ ho).1, (hh _ ho).2, .inl ?_⟩
     cases hv
     unfold execOp
     unfold WO.run at hx
     simp only [Sem.run_bind, hx, Result.andThen_ok, Sem.run_pure]
   · rename_i ho
     refine ⟨_, (hh _ ho).1, (hh _ ho).2, .inl ?_⟩
     cases hv
     unfold execOp
     unfold WO.run at hx
     simp only [Sem.run_bind, hx, Result.andThen_ok, Sem.run_pure]
   · rename_i ho
     refine ⟨_, (hh _ ho).1, (hh _ ho).2, .inl ?_⟩
     split at hv
     · rename_i hbeq
       have htt := Nat.eq_of_beq_eq_true hbeq
       subst htt
       cases hv
       unfold execOp
       unfold WO.run at hx
       simp only [resolve, invoke, builtin, Sem.run_bind, Sem.run_pure, Result.andThen_ok, List.map_toArray, List.map_cons, List.map_nil, hx]
     · cases hv
   · cases hv
  obtain ⟨o, hn, hw, ho⟩ := ho
  refine G_op (E := E) (w0 := w0) (fs := gs x) hn fun K hK => s1n o.dst rfl v (by rw [d0k]; exact hw) (by rw [b0j]; exact ho) ?_
  unfold putc at h
  rw [hn] at h
  have := hK A W' _ c.bx (List.prefix_refl _) J hm h
  rw [show v = (SV.v v).r A from rfl, c0a]
  exact this
theorem zput {e : TypeId} {p : OA} {cc : Nat} {vs us : List Value} (I : Inv E w0 A c.bx (b0z w0.heap.size e p cc vs :: fs) W) (is : List Nat) {ts : TypeId} {z : Value} {bytes : Nat} (hty : k0n P ts e z bytes) (j : Nat) (v : Value) (hj : j < vs.length) (hu : vs.set j v = us)
 (hfar : ∀ A W, Inv E w0 A (zr P none c).bx (b0z w0.heap.size e p cc vs :: fs) W → p.isSome = true → PF.far (blk p) (pick is fs))
 (h : ∀ A W, Inv E w0 A (putc (zr P none c) (.v undef)).bx (b0z w0.heap.size e p cc us :: pick is fs) W → G P Q A (putc (zr P none c) (.v undef)) W)
 (h1 : v.cells = #[v] := by rfl) (h5 : v.oneCell' = true := by rfl)
 (hv : ∀ A, woOf (zr P none c) A = some (.st e (.pointer (some (at_ p j))) v) := by intro _; kernel_rfl)
 (hr : ∀ A w, (zms P none 5000 c A w).map (·.1) = (zms P none 5000 c A w).map (·.2) := by intro _ _; kernel_rfl)
 (hrw : l0z (zr P none c).bx = true := by kernel_rfl)
 (hm : ok1 (zr P none c).rg (zr P none c).bx = ok2 (zr P none c).rg := by kernel_rfl) : G P Q A c W := by
 subst hu
 refine zdo (ι := Unit) I none (fun _ => undef) (fun _ => b0z w0.heap.size e p cc (vs.set j v) :: pick is fs) (fun A W I => ?_) (fun A W _ I => h A W I) hv hr hm
 have hown := I.fa.1
 have hs := o1s hown j hj v
 have h3 := hown.rd.cells j hj
 rw [List.getElem?_eq_getElem hj] at h3
 have hps : p.isSome = true := (hown.rd.solid (by omega)).1
 obtain ⟨i, hi, hz, hsz, hb⟩ := hty.hi
 refine ⟨(), _, ⟨?_, rfl⟩, (I.pk is).redo (some (blk p)) hs.2.1 (fun k hk => ?_) hrw _ hs.1 fun a h => .inl h⟩
 · simp only [Instr.storeAt, Instr.sureAddr]
   have ha : (at_ p j).add 0 = at_ p j := by simp [Addr.add]
   simp [storeVar, sizeOf, typeInfo, hi, hsz, h1, storeCells, ha]
   rw [run_store P W _ v _ h5, h3]
   simp [o1t hown j hj]
 · cases hk
   exact ⟨⟨hps, rfl⟩, hs.2.2, hfar A W I hps⟩
theorem zapv {e : TypeId} {p : OA} {cc : Nat} {vs us : List Value} (I : Inv E w0 A c.bx (b0z w0.heap.size e p cc vs :: fs) W) (is : List Nat) {t : TypeId} {z : Value} {bytes : Nat} (hty : k0n P t e z bytes) (ty n m l : Nat) (q : List Nat → OA) (c2 : Nat) (ys : List Value) (hn : n = vs.length) (hm2 : m = ys.length) (hl : n + m = l) (hb : l ≤ 4000000000) (hu : vs ++ ys = us)
 (hrd : ∀ A W, Inv E w0 A (zr P none c).bx (b0z w0.heap.size e p cc vs :: fs) W → RdV W (q A) ys)
 (hfar : ∀ A W, Inv E w0 A (zr P none c).bx (b0z w0.heap.size e p cc vs :: fs) W → p.isSome = true → PF.far (blk p) (pick is fs))
 (h : ∀ A W p' c', Inv E w0 A (putc (zr P none c) (.v (.slice p' l c'))).bx (b0z w0.heap.size e p' c' us :: pick is fs) W → G P Q A (putc (zr P none c) (.v (.slice p' l c'))) W)
 (hone : ys.all (·.oneCell') = true := by rfl)
 (hv : ∀ A, woOf (zr P none c) A = some (.ap t ty (.slice p n cc) (.slice (q A) m c2)) := by intro _; kernel_rfl)
 (hr : ∀ A w, (zms P none 5000 c A w).map (·.1) = (zms P none 5000 c A w).map (·.2) := by intro _ _; kernel_rfl)
 (hrw : l0z (zr P none c).bx = true := by kernel_rfl)
 (hm : ok1 (zr P none c).rg (zr P none c).bx = ok2 (zr P none c).rg := by kernel_rfl) : G P Q A c W := by
 subst hu hn hm2 hl
 refine zdo (ι := OA × Nat) I none (fun x => .slice x.1 (vs.length + ys.length) x.2) (fun x => b0z w0.heap.size e x.1 x.2 (vs ++ ys) :: pick is fs) (fun A W I => ?_) (fun A W x I => h A W x.1 x.2 I) hv hr hm
 have hown := I.fa.1
 obtain ⟨p', c', W', h1, h2, h3, h4⟩ := k0x (P := P) W hty ty w0.heap.size p cc vs hown (q A) c2 ys (hrd A W I) hone (by have := Nat.mul_le_mul hb hty.le; omega) (by simp only [maxLen]; omega) I.bel.size
 refine ⟨(p', c'), W', h1, (I.pk is).redo (p.map (·.block)) h3 (fun k hk => ?_) hrw _ h2 fun a ha => ?_⟩
 · cases p with
   | none => cases hk
   | some a =>
    cases hk
    exact ⟨⟨rfl, rfl⟩, (hown.blk_lt rfl).1, hfar A W I rfl⟩
 · rcases h4 ha.1 with h | h
   · exact .inl ⟨h.1, h.2.symm.trans ha.2⟩
   · exact .inr (Nat.le_of_eq (h.symm.trans ha.2))
theorem zmk (I : Inv E w0 A c.bx fs W) (d : Nat) {t e : TypeId} {z : Value} {bytes : Nat} (hty : k0n P t e z bytes) (n : Nat) (us : List Value) (hb : n ≤ 4000000000) (hu : List.replicate n z = us)
 (h : ∀ A W p c', Inv E w0 A (putc (zr P (some d) c) (.v (.slice p n c'))).bx (b0z w0.heap.size e p c' us :: fs) W → G P Q A (putc (zr P (some d) c) (.v (.slice p n c'))) W)
 (hv : ∀ A, woOf (zr P (some d) c) A = some (.mk t (.int .i64 (n : Int)) (.int .i64 (n : Int))) := by intro _; kernel_rfl)
 (hr : ∀ A w, (zms P (some d) 5000 c A w).map (·.1) = (zms P (some d) 5000 c A w).map (·.2) := by intro _ _; kernel_rfl)
 (hm : ok1 (zr P (some d) c).rg (zr P (some d) c).bx = ok2 (zr P (some d) c).rg := by kernel_rfl) : G P Q A c W := by
 subst hu
 refine zdo (ι := OA × Nat) I (some d) (fun x => .slice x.1 n x.2) (fun x => b0z w0.heap.size e x.1 x.2 (List.replicate n z) :: fs) (fun A W I => ?_) (fun A W x I => h A W x.1 x.2 I) hv hr hm
 obtain ⟨i, hi, hz, hs, hbt⟩ := hty.hi
 obtain ⟨W', hr, h1, h2⟩ := run_make_full (P := P) W W.heap.size t e i z 1 hty.ht hi hz hs .i64 .i64 n (by rw [hbt]; have := Nat.mul_le_mul hty.le hb; omega) (by simp only [maxLen]; omega) (Nat.le_refl _)
 have h3 : OwnV W' W.heap.size e (some ⟨W.heap.size, 0, none⟩) n (List.replicate n z) := by
  unfold OwnV
  rw [List.length_replicate]
  have : (madeCells (Value.cells z) (n * 1)).toList = List.replicate n z := by
   rw [Nat.mul_one, hty.hz]; exact toList_madeCells_one _ _
  rw [← this]
  exact h1
 exact ⟨(_, _), W', hr, I.addNew (c0w h2 (Nat.le_refl _) fun k hk => by cases hk) _ (h3.mono I.bel.size) fun a ha => ha.2 ▸ (h3.blk_lt ha.1).1⟩
theorem zby (I : Inv E w0 A c.bx fs W) (d : Nat) {src dst e : TypeId} (hs : P.underlying src = some .string) (hdt : P.underlying dst = some (.slice e)) (he : P.underlying e = some (.int .u8)) (s : ByteArray)
 (h : ∀ A W p c', Inv E w0 A (putc (zr P (some d) c) (.v (.slice p s.size c'))).bx (wrF w0.heap.size .u8 p (a0a s) :: fs) W → G P Q A (putc (zr P (some d) c) (.v (.slice p s.size c'))) W)
 (hv : ∀ A, woOf (zr P (some d) c) A = some (.cv src dst (.string s)) := by intro _; kernel_rfl)
 (hr : ∀ A w, (zms P (some d) 5000 c A w).map (·.1) = (zms P (some d) 5000 c A w).map (·.2) := by intro _ _; kernel_rfl)
 (hm : ok1 (zr P (some d) c).rg (zr P (some d) c).bx = ok2 (zr P (some d) c).rg := by kernel_rfl) : G P Q A c W := by
 refine zdo (ι := OA × Nat) I (some d) (fun x => .slice x.1 s.size x.2) (fun x => wrF w0.heap.size .u8 x.1 (a0a s) :: fs) (fun A W I => ?_) (fun A W x I => h A W x.1 x.2 I) hv hr hm
 have h3 := r0u W e s
 exact ⟨(_, _), _, Lib.run_convert_string_bytes (P := P) W src dst e s hs hdt he, I.addNew (f0b (Nat.le_refl _) e s) _ (h3.mono I.bel.size) fun a ha => ha.2 ▸ h3.from_ ha.1⟩
theorem zlo (I : Inv E w0 A c.bx fs W) (d n : Nat) (t : TypeId) (cs : List Value)
 (h : ∀ A W b, ((some ⟨b, 0, none⟩ : OA).isSome = true → PF.far b fs) → Inv E w0 A (putc (zr P (some d) c) (.v (.slice (some ⟨b, 0, none⟩) n n))).bx (b0z w0.heap.size t (some ⟨b, 0, none⟩) n cs :: fs) W → G P Q A (putc (zr P (some d) c) (.v (.slice (some ⟨b, 0, none⟩) n n))) W)
 (hn : cs.toArray.size = n := by rfl) (hl : Nat.ble n 1000 = true := by rfl)
 (ho : ∀ A w, h0n P (zr P (some d) c) A w = some (.ok (.value (.slice (some ⟨w.heap.size, 0, none⟩) n n)) (w.alloc (.cells cs.toArray t))) := by intro _ _; kernel_rfl)
 (hr : ∀ A w, (zms P (some d) 5000 c A w).map (·.1) = (zms P (some d) 5000 c A w).map (·.2) := by intro _ _; kernel_rfl)
 (hm : ok1 (zr P (some d) c).rg (zr P (some d) c).bx = ok2 (zr P (some d) c).rg := by kernel_rfl) : G P Q A c W :=
 b0d I hr fun A W I => by
  have ho := ho A W
  have h := h A
  clear hr
  generalize zr P (some d) c = c at *
  unfold h0n at ho
  split at ho
  · rename_i o hn9
    split at ho
    · rename_i hw
      refine G_op (E := E) (w0 := w0) (fs := []) hn9 fun K hK => r0k o.dst rfl (.slice (some ⟨W.heap.size, 0, none⟩) n n) cs.toArray t (by rw [d0k]; exact hw) (by rw [b0j]; exact Option.some.inj ho) fun W' hb _ hB => ?_
      have hv : OwnV W' w0.heap.size t (some ⟨W.heap.size, 0, none⟩) n cs := by
       subst hn
       unfold OwnV
       have := Nat.le_of_ble_eq_true hl
       exact ⟨by simp, .inr ⟨W.heap.size, _, cs.toArray, rfl, I.bel.size, hB, by simp, by simp only [maxLen]; omega, by simp, by simp⟩⟩
      have I2 := I.addNew hb (b0z w0.heap.size t (some ⟨W.heap.size, 0, none⟩) n cs) hv fun a ha => Nat.le_of_eq ha.2
      have h := h W' W.heap.size (fun _ => PF.far_new I.fa) I2
      unfold putc at h
      rw [hn9] at h
      have := hK A W' _ c.bx (List.prefix_refl _) (I2.pick []) hm h
      rw [show Value.slice (some ⟨W.heap.size, 0, none⟩) n n = (SV.v (.slice (some ⟨W.heap.size, 0, none⟩) n n)).r A from rfl, c0a]
      exact this
    · cases ho
  · cases ho
theorem zsp {g : PF} (I : Inv E w0 A c.bx (f :: fs) W) (is : List Nat) (q : Nat) {fn : FuncId} {args : List Nat → World → Array Value} {v : Value} (hf : ∀ args w, (callFunc fn args).run P w = .ok (.enter fn args) w)
 (hc : ∀ A W, Inv E w0 A (zr P none c).bx (f :: fs) W → Calls P fn (args A W) W fun e w' => e = .returned v ∧ g.prop w' ∧ W.grownBy w' (some q))
 (hq : ∀ A W, Inv E w0 A (zr P none c).bx (f :: fs) W → f.foot q ∧ w0.heap.size ≤ q ∧ PF.far q (pick is fs)) (hfo : ∀ a, g.foot a → f.foot a)
 (h : ∀ A W, Inv E w0 A (putc (zr P none c) (.v v)).bx (g :: pick is fs) W → G P Q A (putc (zr P none c) (.v v)) W)
 (ho : ∀ A w, t0w (zr P none c) A = some (.func (.func fn) #[] #[], args A w) := by intro _ _; kernel_rfl)
 (hr : ∀ A w, (zms P none 5000 c A w).map (·.1) = (zms P none 5000 c A w).map (·.2) := by intro _ _; kernel_rfl)
 (hrw : l0z (zr P none c).bx = true := by kernel_rfl)
 (hm : ok1 (zr P none c).rg (zr P none c).bx = ok2 (zr P none c).rg := by kernel_rfl) : G P Q A c W :=
 b0d I hr fun A V I => by
  have h := h A
  have ho := r0o (P := P) (W := V) (ho A V) (hf _)
  have hc := hc A V I
  have hq := hq A V I
  unfold h0n at ho
  split at ho
  · rename_i o hn
    split at ho
    · rename_i hw
      refine G_op (E := E) (w0 := w0) (fs := g :: pick is fs) hn fun K hK => h0t o.dst rfl fn _ (by rw [d0k]; exact hw) (by rw [b0j]; exact Option.some.inj ho) (hc.mono fun e W' hp => ?_)
      obtain ⟨rfl, h1, h2⟩ := hp
      have J := (I.pk is).redo (some q) h2 (fun k hk => by cases hk; exact hq) hrw g h1 fun a ha => .inl (hfo a ha)
      refine ⟨_, rfl, ?_⟩
      have := h W' J
      unfold putc at this
      rw [hn] at this
      have := hK A W' _ (zr P none c).bx (List.prefix_refl _) J hm this
      rw [← c0a] at this
      exact this
    · cases ho
  · cases ho
end
def vB (xs : List Nat) : List Value := xs.map fun x : Nat => Value.int .u8 (x : Int)
theorem q0j (xs : List Nat) : (vB xs).length = xs.length := List.length_map ..
theorem n1j (n : Nat) : List.replicate n (Value.int .u8 0) = vB (List.replicate n 0) := by unfold vB; rw [List.map_replicate]; rfl
theorem n1k (xs : List Nat) (i n : Nat) : (vB xs).set i (.int .u8 (n : Int)) = vB (xs.set i n) := by unfold vB; rw [List.map_set]
theorem n1l {w : World} {base : Nat} {e : TypeId} {p : OA} {c : Nat} {xs : List Nat} (h : OwnV w base e p c (vB xs)) : Own w base .u8 e p c xs := i1v h
end Go.Slip
namespace Go.Slip
open Go.RowKit Go.MapKept
section
variable {P : Program} {w : World} {ik : IntKind}
theorem i0a (ik : IntKind) (k : Int) : IsKey (.int ik) (.int ik k) := by first | rfl | (simp [IsKey]) | (cases ik <;> rfl)
theorem e0m {mt kt vt : TypeId} (hm : P.underlying mt = some (.map kt vt)) (hk : P.underlying kt = some (.int ik)) (es : Array MapEntry) (clock : Nat) (k : Int) (v : Value)
 (hf : Instr.findNow (.int ik) (.int ik k) es.toList 0 = some none) :
 (Instr.mapUpdate mt (.map (some w.heap.size)) (.int ik k) v).run P (w.alloc (.map es clock)) = .ok () (w.alloc (.map (es.push ⟨.int ik k, v, clock⟩) (clock + 1))) := by
 have hb : (w.alloc (.map es clock)).heap[w.heap.size]? = some (.map es clock) := by show (w.heap.push _)[_]? = _; simp
 simp [Instr.mapUpdate, run_underlying hm, MapKept.run_getObj_map hb, run_checkKey hk (i0a ik k), run_findKey hk hf, run_setObj_map _ hb, Result.andThen]
 have e : (w.heap.push (.map es clock)).setIfInBounds w.heap.size (.map (es.push ⟨.int ik k, v, clock⟩) (clock + 1)) = w.heap.push (.map (es.push ⟨.int ik k, v, clock⟩) (clock + 1)) := by
  apply Array.ext'
  simp
 show World.mk _ _ _ _ _ = World.mk _ _ _ _ _
 congr 1
theorem g0e {mt kt vt : TypeId} {b : Nat} {es : Array MapEntry} {clock : Nat} (hm : P.underlying mt = some (.map kt vt)) (hk : P.underlying kt = some (.int ik)) (hb : w.heap[b]? = some (.map es clock)) (k : Int)
 {i : Nat} {v : Value} (hf : Instr.findNow (.int ik) (.int ik k) es.toList 0 = some (some (i, v))) :
 (Instr.lookup mt (.map (some b)) (.int ik k) false).run P w = .ok v w := by
 simp [Instr.lookup, run_underlying hm, MapKept.run_getObj_map hb, run_checkKey hk (i0a ik k), run_findKey hk hf, Result.andThen]
theorem i0b {mt kt vt : TypeId} {b : Nat} {es : Array MapEntry} {clock : Nat} {z : Value} (hm : P.underlying mt = some (.map kt vt)) (hk : P.underlying kt = some (.int ik)) (hb : w.heap[b]? = some (.map es clock)) (k : Int)
 (hz : (zeroValue vt).run P w = .ok z w) (hf : Instr.findNow (.int ik) (.int ik k) es.toList 0 = some none) :
 (Instr.lookup mt (.map (some b)) (.int ik k) false).run P w = .ok z w := by
 simp [Instr.lookup, run_underlying hm, MapKept.run_getObj_map hb, run_checkKey hk (i0a ik k), run_findKey hk hf, Result.andThen, hz]
theorem b1j {ops : Array Oper} {rest : List Oper} {o : Oper} {a : Act} {Q : Exit → Act → World → Prop}
 (hg : o.guard = none) (m x v : Operand) (t : TypeId) (hop : o.op = Op.insert t m x v) {kt vt : TypeId} (hm : P.underlying t = some (.map kt vt)) (hk : P.underlying kt = some (.int ik)) {es : Array MapEntry} {clock : Nat} {k : Int} {val : Value}
 (h1 : a.eval m = .map (some w.heap.size)) (h2 : a.eval x = .int ik k) (h3 : a.eval v = val) (hf : Instr.findNow (.int ik) (.int ik k) es.toList 0 = some none)
 (h : wpList P ops Q rest (a.put o.dst undef) (w.alloc (.map (es.push ⟨.int ik k, val, clock⟩) (clock + 1)))) : wpList P ops Q (o :: rest) a (w.alloc (.map es clock)) := by
 refine wpList_plain hg fun K' hK' => ?_
 unfold Oper.wp
 simp [execOp, hop, h1, h2, h3, e0m hm hk es clock k val hf, Result.andThen]
 exact hK' _ _ h
end
def mapF (b : Nat) (es : Array MapEntry) (clock : Nat) : PF :=
 ⟨fun w => w.heap[b]? = some (.map es clock), fun a => b = a, fun _ _ h hb _ => (hb b (Array.getElem?_eq_some_iff.1 h).1 rfl).trans h, fun _ _ h hf => hf ▸ (Array.getElem?_eq_some_iff.1 h).1⟩
theorem s0k {w : World} {b base : Nat} {es : Array MapEntry} {clock : Nat} {k : IntKind} {e : TypeId} {q : OA} {c : Nat} {xs : List Nat} (h : w.heap[b]? = some (.map es clock)) (o : Own w base k e q c xs) : ¬ (q.isSome = true ∧ blk q = b) := by
 rintro ⟨hq, he⟩
 rcases o.2 with ⟨h1, h2⟩ | ⟨g', cap', cur', hv', hb', hg', _⟩
 · simp only [Value.slice.injEq] at h1
   rw [h1.1] at hq; cases hq
 · simp only [Value.slice.injEq] at hv'
   rw [hv'.1] at he
   have hE : g' = b := he
   subst hE
   have := h.symm.trans hg'
   simp at this
section
variable {P : Program} {ops : Array Oper} {o : Oper} {a : Act} {Q : Exit → Act → World → Prop} {w w' : World} {K : Act → World → Prop}
theorem s1o (d : Option Tmp) (hd : o.dst = d) (v : Value) (hw : Region.wanted o (yielded ops a.tmps) = true) (hr : (execOp a.eval o).run P w = .ok (.value v) w') (h : K (a.put d v) w') : OpW P ops Q o K a w := by
 subst hd
 refine ⟨?_⟩
 rw [if_pos hw]
 unfold Oper.wp
 rw [hr]
 exact h
theorem f1d (d : Option Tmp) (hd : o.dst = d) (hw : Region.wanted o (yielded ops a.tmps) = true) (hr : (execOp a.eval o).run P w = .ok .skip w') (h : K (a.put d undef) w') : OpW P ops Q o K a w := by
 subst hd
 refine ⟨?_⟩
 rw [if_pos hw]
 unfold Oper.wp
 rw [hr]
 exact h
theorem s0l {ik : IntKind} {mt kt vt : TypeId} (hm : P.underlying mt = some (.map kt vt)) (hk : P.underlying kt = some (.int ik)) {b : Nat} {es : Array MapEntry} {clock : Nat} (hb : w.heap[b]? = some (.map es clock)) (k : Int) (v : Value)
 (hf : Instr.findNow (.int ik) (.int ik k) es.toList 0 = some none) :
 (Instr.mapUpdate mt (.map (some b)) (.int ik k) v).run P w = .ok () { w with heap := w.heap.setIfInBounds b (.map (es.push ⟨.int ik k, v, clock⟩) (clock + 1)) } := by
 simp [Instr.mapUpdate, run_underlying hm, MapKept.run_getObj_map hb, run_checkKey hk (i0a ik k), run_findKey hk hf, run_setObj_map _ hb, Result.andThen]
end
section
variable {P : Program} {Q : Exit → Act → World → Prop} {E : List Nat} {w0 : World} {A : List Nat} {fs : List PF} {W V : World} {c : Cfg}
def mkOf (c : Cfg) : Option TypeId :=
 match hdOp c with
 | some ⟨_, .makeMap t none, _, _, _, _⟩ => some t
 | _ => none
theorem zmkm (I : Inv E w0 A c.bx fs W) (t : TypeId) (h : ∀ A W b, w0.heap.size ≤ b → Inv E w0 A (putc (zr P none c) (.v (.map (some b)))).bx (mapF b #[] 0 :: fs) W → G P Q A (putc (zr P none c) (.v (.map (some b)))) W)
 (ho : mkOf (zr P none c) = some t := by kernel_rfl)
 (hr : ∀ A w, (zms P none 5000 c A w).map (·.1) = (zms P none 5000 c A w).map (·.2) := by intro _ _; kernel_rfl)
 (hm : ok1 (zr P none c).rg (zr P none c).bx = ok2 (zr P none c).rg := by kernel_rfl) : G P Q A c W :=
 b0d I hr fun A W I => by
  have h2 := h A
  clear hr h
  generalize zr P none c = c at *
  unfold mkOf hdOp at ho
  split at ho
  · rename_i hn'
    split at hn'
    · rename_i o' hn
      split at hn'
      · rename_i hw
        simp only [Option.some.injEq] at hn' ho
        subst hn' ho
        have hbl : Below W.heap.size W (W.alloc (.map #[] 0)) := (Below.refl _ _).alloc (Nat.le_refl _) _
        have hb : (W.alloc (.map #[] 0)).heap[W.heap.size]? = some (.map #[] 0) := by show (W.heap.push _)[_]? = _; simp
        have I2 := (I.past hbl).add (mapF W.heap.size #[] 0) hb (fun a ha hf => by have := I.lt a ha; have hf : W.heap.size = a := hf; omega)
        refine G_op (E := E) (w0 := w0) (fs := []) hn fun K hK => s1o _ rfl (.map (some W.heap.size)) (by rw [d0k]; exact hw) (w' := W.alloc (.map #[] 0)) ?_ ?_
        · unfold execOp
          simp only [Option.map_none, run_makeMap, Sem.run_bind, Result.andThen_ok, Sem.run_pure]
        · have h := h2 _ _ I.bel.size I2
          unfold putc at h
          rw [hn] at h
          have := hK A _ _ c.bx (List.prefix_refl _) (I2.pick []) hm h
          rw [show Value.map (some W.heap.size) = (SV.v (.map (some W.heap.size))).r A from rfl, c0a]
          exact this
      · cases hn'
    · cases hn'
  · cases ho
def s1p (c : Cfg) (A : List Nat) : Option (TypeId × Value × Value × Value) :=
 match hdOp c with
 | some ⟨_, .insert t m k x, _, _, _, _⟩ => some (t, evr A c.fr m, evr A c.fr k, evr A c.fr x)
 | _ => none
theorem zins {b : Nat} {es : Array MapEntry} {clock : Nat} (I : Inv E w0 A c.bx (mapF b es clock :: fs) W) {t : TypeId} {ik : IntKind} {kt vt : TypeId} (hmt : P.underlying t = some (.map kt vt)) (hk : P.underlying kt = some (.int ik)) (k : Int) (v : Value) (hge : w0.heap.size ≤ b)
 (hfar : ∀ A W, Inv E w0 A (zr P none c).bx (mapF b es clock :: fs) W → PF.far b fs)
 (h : ∀ A W, Inv E w0 A (putc (zr P none c) (.v undef)).bx (mapF b (es.push ⟨.int ik k, v, clock⟩) (clock + 1) :: fs) W → G P Q A (putc (zr P none c) (.v undef)) W)
 (hf : Instr.findNow (.int ik) (.int ik k) es.toList 0 = some none := by kernel_rfl)
 (ho : ∀ A, s1p (zr P none c) A = some (t, .map (some b), .int ik k, v) := by intro _; kernel_rfl)
 (hr : ∀ A w, (zms P none 5000 c A w).map (·.1) = (zms P none 5000 c A w).map (·.2) := by intro _ _; kernel_rfl)
 (hrw : l0z (zr P none c).bx = true := by kernel_rfl)
 (hm : ok1 (zr P none c).rg (zr P none c).bx = ok2 (zr P none c).rg := by kernel_rfl) : G P Q A c W :=
 b0d I hr fun A W I => by
  have ho2 := ho A
  have h2 := h A
  have hfar2 := hfar A W I
  clear hr h ho hfar
  generalize zr P none c = c at *
  unfold s1p hdOp at ho2
  split at ho2
  · rename_i hn'
    simp only [Option.some.injEq, Prod.mk.injEq] at ho2
    obtain ⟨rfl, o1, o2, o3⟩ := ho2
    split at hn'
    · rename_i o' hn
      split at hn'
      · rename_i hw
        simp only [Option.some.injEq] at hn'
        subst hn'
        have hb : W.heap[b]? = some (.map es clock) := I.fa.1
        have hbl := (Array.getElem?_eq_some_iff.1 hb).1
        have keep : ∀ j, j ≠ b → (W.heap.setIfInBounds b (.map (es.push ⟨.int ik k, v, clock⟩) (clock + 1)))[j]? = W.heap[j]? := fun j hj => Array.getElem?_setIfInBounds_ne (Ne.symm hj)
        have I2 : Inv E w0 A c.bx (mapF b (es.push ⟨.int ik k, v, clock⟩) (clock + 1) :: fs) { W with heap := W.heap.setIfInBounds b (.map (es.push ⟨.int ik k, v, clock⟩) (clock + 1)) } := by
         refine ⟨⟨I.bel.os, I.bel.tape, I.bel.output, by simp only [Array.size_setIfInBounds]; exact I.bel.size, fun j hj hjE => ?_⟩, I.ge, I.nd, I.len, I.pre, fun j hj => ?_, ⟨?_, ?_⟩, fun a ha => ⟨(I.far a ha).1, (I.far a ha).2⟩⟩
         · rw [keep j (by omega)]
           exact I.bel.block j hj hjE
         · have hF : Fa A c.bx (lk 0 A j) := ⟨j, hj, g0p hrw j hj, rfl⟩
           have h1 := I.bt j hj
           unfold Bt at h1 ⊢
           rw [keep _ (fun e => (I.far _ hF).1 e.symm)]
           exact h1
         · show (W.heap.setIfInBounds b _)[b]? = _
           simp [hbl]
         · refine PF.all_keep (by simp) I.fa.2 fun j hj ha => keep j fun e => ha _ hfar2 e.symm
        refine G_op (E := E) (w0 := w0) (fs := []) hn fun K hK => f1d _ rfl (by rw [d0k]; exact hw) (w' := { W with heap := W.heap.setIfInBounds b (.map (es.push ⟨.int ik k, v, clock⟩) (clock + 1)) }) ?_ ?_
        · rw [b0j]
          unfold execOp
          simp only [o1, o2, o3, Sem.run_bind, s0l hmt hk hb k v hf, Result.andThen_ok, Sem.run_pure]
        · have h := h2 _ I2
          unfold putc at h
          rw [hn] at h
          have := hK A _ _ c.bx (List.prefix_refl _) (I2.pick []) hm h
          rw [show undef = (SV.v undef).r A from rfl, c0a]
          exact this
      · cases hn'
    · cases hn'
  · cases ho2
theorem s1q {ik : IntKind} {t kt vt : TypeId} (hm : P.underlying t = some (.map kt vt)) (hk : P.underlying kt = some (.int ik)) {b : Nat} {es : Array MapEntry} {clock : Nat} (hb : W.heap[b]? = some (.map es clock)) (k : Int) {v : Value} (hf : ∃ i, Instr.findNow (.int ik) (.int ik k) es.toList 0 = some (some (i, v))) :
 (VO.lk t (.map (some b)) (.int ik k) false).sem.run P W = .ok v W := by
 obtain ⟨i, hf⟩ := hf
 exact g0e hm hk hb k hf
end
theorem OwnV.take {w : World} {base : Nat} {e : TypeId} {p : OA} {c : Nat} {vs : List Value} (h : OwnV w base e p c vs) (n : Nat) : OwnV w base e p c (vs.take n) := by
 by_cases hn : vs.length ≤ n
 · rw [List.take_of_length_le hn]; exact h
 · refine ⟨by simp, ?_⟩
   rcases h.2 with ⟨h1, h2⟩ | ⟨g, cap, cur, hv, hbg, hg, hnc, hc, hcs, htake⟩
   · omega
   · simp only [Value.slice.injEq] at hv
     obtain ⟨rfl, _, rfl⟩ := hv
     have hl : (vs.take n).length = n := by simp; omega
     refine .inr ⟨g, c, cur, by rw [hl], hbg, hg, by omega, hc, hcs, ?_⟩
     rw [hl, Nat.mul_one, ← htake, List.take_take]
     congr 1
     omega
/-! ### A world cut off -/
def cutW (w : World) (B : Nat) : World := { w with heap := w.heap.extract 0 B }
theorem e0v {w : World} {B : Nat} (h : B ≤ w.heap.size) : (cutW w B).heap.size = B := by
 show (w.heap.extract 0 B).size = B
 simp only [Array.size_extract]
 omega
theorem y0z {w : World} {B k : Nat} (h : B ≤ w.heap.size) (hk : k < B) : (cutW w B).heap[k]? = w.heap[k]? := by
 show (w.heap.extract 0 B)[k]? = _
 rw [Array.getElem?_extract, if_pos (by omega), Nat.zero_add]
def b1k (w : World) (S : Nat → Prop) : PF :=
 ⟨fun W => w.heap.size ≤ W.heap.size ∧ ∀ b, b < w.heap.size → S b → W.heap[b]? = w.heap[b]?, fun b => b < w.heap.size ∧ S b,
  fun _ _ h hb hs => ⟨Nat.le_trans h.1 hs, fun b hl hS => (hb b (Nat.lt_of_lt_of_le hl h.1) ⟨hl, hS⟩).trans (h.2 b hl hS)⟩,
  fun _ _ h hf => Nat.lt_of_lt_of_le hf.1 h.1⟩
def offS (bw : Nat) (p : OA) (b : Nat) : Prop := b ≠ bw ∧ ¬ (p.isSome = true ∧ blk p = b)
structure Wk (T e : TypeId) (B bw : Nat) (f a g r : Int) (p : OA) (c : Nat) (vs : List Value) (w : World) : Prop where
 bt : Bt w bw T #[.int .i64 f, .int .i64 a, .int .i64 g, .int .i64 r, .slice p vs.length c]
 own : OwnV w B e p c vs
 ne : p.isSome = true → blk p ≠ bw
 ge : B ≤ bw
 pos : 0 < B
structure WkTo (bw : Nat) (p p' : OA) (w w' : World) : Prop where
 os : w'.os = w.os
 tape : w'.tape = w.tape
 output : w'.output = w.output
 size : w.heap.size ≤ w'.heap.size
 keep : ∀ b, b < w.heap.size → offS bw p b → w'.heap[b]? = w.heap[b]?
 at_ : p'.isSome = true → (p.isSome = true ∧ blk p' = blk p) ∨ w.heap.size ≤ blk p'
def PF.foots : List PF → Nat → Prop
 | [], _ => False
 | f :: l, a => f.foot a ∨ PF.foots l a
theorem PF.all_app {W : World} : ∀ {l m : List PF}, PF.all W l → PF.all W m → PF.all W (l ++ m)
 | [], _, _, h => h
 | _ :: _, _, h, k => ⟨h.1, PF.all_app h.2 k⟩
theorem PF.far_app {a : Nat} : ∀ {l m : List PF}, ¬ PF.foots l a → PF.far a m → PF.far a (l ++ m)
 | [], _, _, h => h
 | _ :: _, _, h, k => ⟨fun hf => h (.inl hf), PF.far_app (fun hf => h (.inr hf)) k⟩
theorem u0j {w : World} {b : Nat} {t : TypeId} {vs : List Value} (h : Bt w b t vs.toArray) : RdV w (some ⟨b, 0, none⟩) vs := by
 refine ⟨fun _ => ⟨rfl, rfl⟩, fun j hj => ?_⟩
 have := h.bx.cell j
 rw [show at_ (some ⟨b, 0, none⟩) j = ⟨b, j, none⟩ by simp [at_]]
 rw [this]
 simp
theorem a0v {w : World} {b a : Nat} {es : Array MapEntry} {cl : Nat} {t : TypeId} {vs : Array Value} (h : w.heap[b]? = some (.map es cl)) (k : Bt w a t vs) : ¬ a = b := fun e => by
 subst e
 unfold Bt at k
 rw [h] at k
 cases k
section
variable {P : Program} {Q : Exit → Act → World → Prop} {E : List Nat} {w0 : World} {A : List Nat} {fs : List PF} {f : PF} {W W' : World} {c : Cfg}
theorem Inv.startM {T e : TypeId} {B bw : Nat} {f a g r : Int} {p : OA} {c : Nat} {vs : List Value} {v : World} (h : Wk T e B bw f a g r p c vs v) (gs : List PF) (hg : PF.all v gs) (hf : PF.far bw gs) :
 ∃ w : World, w.heap.size = B ∧ (w.os = v.os ∧ w.tape = v.tape ∧ w.output = v.output) ∧ Inv [bw] w [bw] [⟨T, [.v (.int .i64 f), .v (.int .i64 a), .v (.int .i64 g), .v (.int .i64 r), .v (.slice p vs.length c)], false⟩] (b0z w.heap.size e p c vs :: b1k v (offS bw p) :: gs) v := by
 have hB : B ≤ v.heap.size := Nat.le_trans h.ge (Nat.le_of_lt h.bt.lt)
 have hF : ∀ (cs : List SV) a, Fa [bw] [⟨T, cs, false⟩] a → a = bw := fun cs a ⟨k, hk, _, e⟩ => by
  obtain rfl : k = 0 := by simpa using hk
  exact e
 refine ⟨cutW v B, e0v hB, ⟨rfl, rfl, rfl⟩, ⟨rfl, rfl, rfl, by rw [e0v hB]; exact hB, fun k hk _ => ?_⟩, fun a h => .inr (by rw [hF _ a h]; simp), fun i j hi hj _ hn => ?_, rfl, List.prefix_refl _, fun k hk => ?_, ⟨?_, ⟨Nat.le_refl _, fun _ _ _ => rfl⟩, hg⟩, fun a ha => ?_⟩
 · rw [e0v hB] at hk
   rw [y0z hB hk]
 · simp at hi hj
   omega
 · obtain rfl : k = 0 := by simpa using hk
   exact h.bt
 · show OwnV _ _ _ _ _ _
   rw [e0v hB]
   exact h.own
 · rw [hF _ a ha]
   exact ⟨fun hf => h.ne hf.1 hf.2, fun hf => hf.2.1 rfl, hf⟩
theorem WkTo.of {bw : Nat} {p p' : OA} {v : World} {bx : List Box} (I : Inv E w0 A bx fs W) (h0 : w0.os = v.os ∧ w0.tape = v.tape ∧ w0.output = v.output) (hk : (b1k v (offS bw p)).prop W) (hat : p'.isSome = true → (p.isSome = true ∧ blk p' = blk p) ∨ v.heap.size ≤ blk p') : WkTo bw p p' v W :=
 ⟨I.bel.os.trans h0.1, I.bel.tape.trans h0.2.1, I.bel.output.trans h0.2.2, hk.1, hk.2, hat⟩
def p1m (bw cb : Nat) (p : OA) (b : Nat) : Prop := (b ≠ bw ∧ b ≠ cb) ∧ ¬ (p.isSome = true ∧ blk p = b)
theorem Inv.startM2 {T e : TypeId} {B bw : Nat} {f a g r : Int} {p : OA} {c : Nat} {vs : List Value} {v : World} (h : Wk T e B bw f a g r p c vs v) {cb : Nat} {t2 : TypeId} (cs2 : List Value) (h2 : Bt v cb t2 cs2.toArray) (hne : cb ≠ bw) (hrow : p.isSome = true → blk p ≠ cb) (gs : List PF) (hg : PF.all v gs) (hf : PF.far bw gs) (hf2 : PF.far cb gs) :
 ∃ w : World, w.heap.size = B ∧ (w.os = v.os ∧ w.tape = v.tape ∧ w.output = v.output) ∧ Inv [bw, cb] w [bw, cb] [⟨T, [.v (.int .i64 f), .v (.int .i64 a), .v (.int .i64 g), .v (.int .i64 r), .v (.slice p vs.length c)], false⟩, ⟨t2, cs2.map .v, false⟩] (b0z w.heap.size e p c vs :: b1k v (p1m bw cb p) :: gs) v := by
 have hB : B ≤ v.heap.size := Nat.le_trans h.ge (Nat.le_of_lt h.bt.lt)
 have hF : ∀ (cs cs' : List SV) a, Fa [bw, cb] [⟨T, cs, false⟩, ⟨t2, cs', false⟩] a → a = bw ∨ a = cb := fun cs cs' a ⟨k, hk, _, e⟩ => by
  match k, hk, e with
  | 0, _, e => exact .inl e
  | 1, _, e => exact .inr e
  | k + 2, hk, _ => exact absurd (show k + 2 < 2 from hk) (by omega)
 refine ⟨cutW v B, e0v hB, ⟨rfl, rfl, rfl⟩, ⟨rfl, rfl, rfl, by rw [e0v hB]; exact hB, fun k hk _ => ?_⟩, fun a h => .inr (by rcases hF _ _ a h with rfl | rfl <;> simp), fun i j hi hj _ hn => ?_, rfl, List.prefix_refl _, fun k hk => ?_, ⟨?_, ⟨Nat.le_refl _, fun _ _ _ => rfl⟩, hg⟩, fun a ha => ?_⟩
 · rw [e0v hB] at hk
   rw [y0z hB hk]
 · match i, j, hi, hj, hn with
   | 0, 0, _, _, hn => exact (hn rfl).elim
   | 0, 1, _, _, _ => exact Ne.symm hne
   | 1, 0, _, _, _ => exact hne
   | 1, 1, _, _, hn => exact (hn rfl).elim
   | i + 2, _, hi, _, _ => exact absurd (show i + 2 < 2 from hi) (by omega)
   | 0, j + 2, _, hj, _ => exact absurd (show j + 2 < 2 from hj) (by omega)
   | 1, j + 2, _, hj, _ => exact absurd (show j + 2 < 2 from hj) (by omega)
 · match k, hk with
   | 0, _ => exact h.bt
   | 1, _ =>
    show Bt v cb t2 ((cs2.map SV.v).map (SV.r _)).toArray
    rw [List.map_map, show (cs2.map (SV.r [bw, cb] ∘ SV.v)) = cs2 from List.map_id _]
    exact h2
   | k + 2, hk => exact absurd (show k + 2 < 2 from hk) (by omega)
 · show OwnV _ _ _ _ _ _
   rw [e0v hB]
   exact h.own
 · rcases hF _ _ a ha with rfl | rfl
   · exact ⟨fun hf => h.ne hf.1 hf.2, fun hf => hf.2.1.1 rfl, hf⟩
   · exact ⟨fun hf => hrow hf.1 hf.2, fun hf => hf.2.1.2 rfl, hf2⟩
theorem WkTo.of2 {bw cb : Nat} {p p' : OA} {v : World} {bx : List Box} {t2 : TypeId} {row : Array Value} {E' : List Nat} (I : Inv (bw :: cb :: E') w0 A bx fs W) (h0 : w0.os = v.os ∧ w0.tape = v.tape ∧ w0.output = v.output) (h2 : Bt v cb t2 row) (h3 : Bt W (lk 0 A 1) t2 row) (hk : (b1k v (p1m bw cb p)).prop W) (hat : p'.isSome = true → (p.isSome = true ∧ blk p' = blk p) ∨ v.heap.size ≤ blk p') : WkTo bw p p' v W := by
 refine ⟨I.bel.os.trans h0.1, I.bel.tape.trans h0.2.1, I.bel.output.trans h0.2.2, hk.1, fun b hb hS => ?_, hat⟩
 by_cases hc : b = cb
 · subst hc
   have e1 : lk 0 A 1 = b := I.adE 1 (by simp)
   rw [e1] at h3
   exact Eq.trans h3 (Eq.symm h2)
 · exact hk.2 b hb ⟨⟨hS.1, hc⟩, hS.2⟩
theorem Inv.wk {T e : TypeId} {f a g r : Int} {p : OA} {c : Nat} {vs : List Value} {bx : List Box} {n : Nat} (I : Inv E w0 A bx (b0z w0.heap.size e p c vs :: fs) W) (k : Nat) (hpos : 0 < w0.heap.size) (hge : w0.heap.size ≤ lk 0 A k)
 (hn : n = vs.length) (h : d1z bx k A = some (T, #[.int .i64 f, .int .i64 a, .int .i64 g, .int .i64 r, .slice p n c]) := by kernel_rfl) (hr : (lk bx0 bx k).ro = false := by kernel_rfl) (hk : Nat.ble (k + 1) bx.length = true := by kernel_rfl) : Wk T e w0.heap.size (lk 0 A k) f a g r p c vs W := by
 subst hn
 exact ⟨I.box k T _ h, I.fa.1, fun hp e => (I.far _ ⟨k, Nat.le_of_ble_eq_true hk, hr, rfl⟩).1 ⟨hp, e⟩, hge, hpos⟩
theorem Inv.wkE {T e : TypeId} {bw : Nat} {f a g r : Int} {p : OA} {c : Nat} {vs : List Value} {bx : List Box} {n : Nat} {E' : List Nat} (I : Inv (bw :: E') w0 A bx (b0z w0.heap.size e p c vs :: fs) W) (hge : w0.heap.size ≤ bw) (hpos : 0 < w0.heap.size)
 (hn : n = vs.length) (h : d1z bx 0 A = some (T, #[.int .i64 f, .int .i64 a, .int .i64 g, .int .i64 r, .slice p n c]) := by kernel_rfl) (hr : (lk bx0 bx 0).ro = false := by kernel_rfl) (hk : Nat.ble (0 + 1) bx.length = true := by kernel_rfl) : Wk T e w0.heap.size bw f a g r p c vs W := by
 have e0 : lk 0 A 0 = bw := I.adE 0 (by simp)
 have h1 := I.wk 0 hpos (by rw [e0]; exact hge) hn h hr hk
 rw [e0] at h1
 exact h1
theorem Inv.takeV {bx : List Box} {b : Nat} {e : TypeId} {p : OA} {c : Nat} {vs : List Value} (I : Inv E w0 A bx (b0z b e p c vs :: fs) W) (m : Nat) : Inv E w0 A bx (b0z b e p c (vs.take m) :: fs) W :=
 ⟨I.bel, I.ge, I.nd, I.len, I.pre, I.bt, ⟨OwnV.take I.fa.1 m, I.fa.2⟩, fun a ha => ⟨(I.far a ha).1, (I.far a ha).2⟩⟩
theorem zo4 (i j l m : Nat) (I : Inv E w0 A c.bx fs W) (h : Inv E w0 A (oneC i c).bx fs W → G P Q A (oneC i c) W) (k : Inv E w0 A (oneC j c).bx fs W → G P Q A (oneC j c) W) (q : Inv E w0 A (oneC l c).bx fs W → G P Q A (oneC l c) W) (r : Inv E w0 A (oneC m c).bx fs W → G P Q A (oneC m c) W) (hr : n0v c = some [i, j, l, m] := by kernel_rfl) : G P Q A c W :=
 zor [i, j, l, m] (fun x hx => by simp only [List.mem_cons, List.not_mem_nil, or_false] at hx; rcases hx with rfl | rfl | rfl | rfl <;> first | exact h (by rw [g0c]; exact I) | exact k (by rw [g0c]; exact I) | exact q (by rw [g0c]; exact I) | exact r (by rw [g0c]; exact I)) hr rfl
theorem Inv.neBt {bx : List Box} (I : Inv E w0 A bx fs W) (k : Nat) {b : Nat} {t : TypeId} {row : Array Value} (h : Bt W b t row) (hk : Nat.ble (k + 1) bx.length = true := by kernel_rfl) (ht : Nat.beq t (lk bx0 bx k).t = false := by kernel_rfl) : b ≠ lk 0 A k := fun e => by
 subst e
 have h1 := I.bt k (Nat.le_of_ble_eq_true hk)
 unfold Bt at h h1
 rw [h] at h1
 have h2 : t = (lk bx0 bx k).t := by injection h1 with h1; injection h1
 rw [← h2] at ht
 simp at ht
theorem Inv.rot1 {bx : List Box} {f g : PF} (I : Inv E w0 A bx (f :: g :: fs) W) : Inv E w0 A bx (g :: f :: fs) W :=
 ⟨I.bel, I.ge, I.nd, I.len, I.pre, I.bt, ⟨I.fa.2.1, I.fa.1, I.fa.2.2⟩, fun a ha => ⟨(I.far a ha).2.1, (I.far a ha).1, (I.far a ha).2.2⟩⟩
theorem Inv.meth {bx : List Box} (I : Inv E w0 A bx (f :: fs) W) {k : Nat} (hk : k < bx.length) (hr : (lk bx0 bx k).ro = false) {cs : List SV} (h1 : W'.os = W.os) (h2 : W'.tape = W.tape) (h3 : W'.output = W.output) (h4 : W.heap.size ≤ W'.heap.size)
 (hkeep : ∀ b, b < W.heap.size → b ≠ lk 0 A k → ¬ f.foot b → W'.heap[b]? = W.heap[b]?) (hge : ∀ b, f.foot b → w0.heap.size ≤ b) (hfar : ∀ b, f.foot b → PF.far b fs) (hrw : l0z bx = true)
 (hB : Bt W' (lk 0 A k) (lk bx0 bx k).t (cs.map (SV.r A)).toArray) {gs : List PF} (hg : PF.all W' gs) (hgf : ∀ a, PF.foots gs a → f.foot a ∨ W.heap.size ≤ a) :
 Inv E w0 A (setL bx k ⟨(lk bx0 bx k).t, cs, false⟩) (gs ++ fs) W' := by
 have hF : Fa A bx (lk 0 A k) := ⟨k, hk, hr, rfl⟩
 have hn : (setL bx k ⟨(lk bx0 bx k).t, cs, false⟩).length = bx.length := by rw [d0a, List.length_set]
 have hl : ∀ j, j < bx.length → (lk bx0 (setL bx k ⟨(lk bx0 bx k).t, cs, false⟩) j).ro = (lk bx0 bx j).ro := fun j hj => by
  by_cases h : j = k
  · subst h
    rw [d0e bx0 (setL _ _ _), d0a, List.getElem?_set_self hj, hr]
    rfl
  · rw [d0e bx0 (setL _ _ _), d0a, List.getElem?_set_ne (Ne.symm h), ← d0e]
 have hFa : ∀ a, Fa A (setL bx k ⟨(lk bx0 bx k).t, cs, false⟩) a → Fa A bx a := fun a ⟨j, hj, hr, e⟩ => by
  rw [hn] at hj
  rw [hl j hj] at hr
  exact ⟨j, hj, hr, e⟩
 refine ⟨⟨h1.trans I.bel.os, h2.trans I.bel.tape, h3.trans I.bel.output, Nat.le_trans I.bel.size h4, fun b hb hE => ?_⟩, fun a ha => I.ge a (hFa a ha), fun i j hi hj hr hne => ?_, by rw [hn]; exact I.len, I.pre, fun j hj => ?_, PF.all_app hg (PF.all_keep h4 I.fa.2 fun b hb ha => hkeep b hb (Ne.symm (ha _ (I.far _ hF).2)) fun hf => ha b (hfar b hf) rfl), fun a ha => PF.far_app (fun h => ?_) (I.far a (hFa a ha)).2⟩
 · rw [hkeep b (Nat.lt_of_lt_of_le hb I.bel.size) (fun e => by
     subst e
     rcases I.ge _ hF with h | h
     · omega
     · exact hE h) fun hf => by have := hge b hf; omega]
   exact I.bel.block b hb hE
 · rw [hn] at hi hj
   rw [hl i hi] at hr
   exact I.nd i j hi hj hr hne
 · rw [hn] at hj
   by_cases h : j = k
   · subst h
     rw [d0e bx0 (setL _ _ _), d0a, List.getElem?_set_self hj]
     exact hB
   · rw [d0e bx0 (setL _ _ _), d0a, List.getElem?_set_ne (Ne.symm h), ← d0e]
     have hFj : Fa A bx (lk 0 A j) := ⟨j, hj, g0p hrw j hj, rfl⟩
     have h5 := I.bt j hj
     unfold Bt at h5 ⊢
     rw [hkeep _ (I.lt _ hFj) (I.nd j k hj hk (g0p hrw j hj) h) (I.far _ hFj).1]
     exact h5
 · rcases hgf a h with h | h
   · exact (I.far a (hFa a ha)).1 h
   · have := I.lt a (hFa a ha)
     omega
theorem d0w {ι : Type} {e : TypeId} {p : OA} {cc : Nat} {vs : List Value} (I : Inv E w0 A c.bx (b0z w0.heap.size e p cc vs :: fs) W) (is : List Nat) (k : Nat) (t : TypeId) (N : Nat) {fn : FuncId} {args : List Nat → World → Array Value} {v : ι → Value} {cs : ι → List Value} {q : ι → OA} {g : ι → List PF}
 (hN : ∀ A W, Inv E w0 A (zr P none c).bx (b0z w0.heap.size e p cc vs :: fs) W → N ≤ W.heap.size)
 (hfar : ∀ A W, Inv E w0 A (zr P none c).bx (b0z w0.heap.size e p cc vs :: fs) W → p.isSome = true → PF.far (blk p) (pick is fs))
 (hc : ∀ A W, Inv E w0 A (zr P none c).bx (b0z w0.heap.size e p cc vs :: fs) W → Calls P fn (args A W) W fun en w' => ∃ x, en = .returned (v x) ∧ WkTo (lk 0 A k) p (q x) W w' ∧ Bt w' (lk 0 A k) t (cs x).toArray ∧ PF.all w' (g x) ∧ ∀ a, PF.foots (g x) a → (p.isSome = true ∧ blk p = a) ∨ W.heap.size ≤ a)
 (h : ∀ A W x, ((q x).isSome = true → (p.isSome = true ∧ blk (q x) = blk p) ∨ N ≤ blk (q x)) → Inv E w0 A (p0k (zr P none c) k ((cs x).map .v) (.v (v x))).bx (g x ++ pick is fs) W → G P Q A (p0k (zr P none c) k ((cs x).map .v) (.v (v x))) W)
 (ho : ∀ A w, h0n P (zr P none c) A w = some (.ok (.enter fn (args A w)) w) := by intro _ _; kernel_rfl)
 (hr : ∀ A w, (zms P none 5000 c A w).map (·.1) = (zms P none 5000 c A w).map (·.2) := by intro _ _; kernel_rfl)
 (hrw : l0z (zr P none c).bx = true := by kernel_rfl) (hk : wrOk (zr P none c) k = true := by kernel_rfl) (ht : (lk bx0 (zr P none c).bx k).t = t := by kernel_rfl)
 (hm : ∀ x, ok1 (zr P none c).rg (setL (zr P none c).bx k ⟨(lk bx0 (zr P none c).bx k).t, (cs x).map .v, false⟩) = ok2 (zr P none c).rg := by intro _; kernel_rfl) : G P Q A c W :=
 b0d I hr fun A V I => by
  have h := h A
  have ho := ho A V
  have hc := hc A V I
  have hN := hN A V I
  have hfar := hfar A V I
  subst ht
  unfold wrOk at hk
  simp only [Bool.and_eq_true, Bool.not_eq_true'] at hk
  unfold h0n at ho
  split at ho
  · rename_i o hn
    split at ho
    · rename_i hw
      refine G_op (E := E) (w0 := w0) (fs := []) hn fun K hK => h0t o.dst rfl fn _ (by rw [d0k]; exact hw) (by rw [b0j]; exact Option.some.inj ho) (hc.mono fun e W' hp => ?_)
      obtain ⟨x, rfl, hT, hB, hg, hgf⟩ := hp
      have hcs : ((cs x).map SV.v).map (SV.r A) = cs x := by
       rw [List.map_map]
       exact List.map_id _
      have J := (I.pk is).meth (h0k hk.1) hk.2 (cs := (cs x).map .v) hT.os hT.tape hT.output hT.size (fun b hb h1 h2 => hT.keep b hb ⟨h1, h2⟩) (fun b hf => hf.2 ▸ (I.fa.1.blk_lt hf.1).1) (fun b hf => hf.2 ▸ hfar hf.1) hrw (by rw [hcs]; exact hB) hg hgf
      refine ⟨_, rfl, ?_⟩
      have := h W' x (fun hq => (hT.at_ hq).imp id fun h => Nat.le_trans hN h) J
      unfold p0k at this
      rw [hn] at this
      have := hK A W' _ _ (List.prefix_refl _) (J.pick []) (hm x) this
      rw [← c0a] at this
      exact this
    · cases ho
  · cases ho
theorem zapm {e : TypeId} {p : OA} {cc : Nat} {vs us : List Value} (I : Inv E w0 A c.bx (b0z w0.heap.size e p cc vs :: fs) W) (is : List Nat) {t : TypeId} {z : Value} {bytes : Nat} (hty : k0n P t e z bytes) (ty n m l : Nat) (q : List Nat → OA) (c2 : Nat) (ys : List Value) (hn : n = vs.length) (hm2 : m = ys.length) (hl : n + m = l) (hb : l ≤ 4000000000) (hu : vs ++ ys = us)
 (hrd : ∀ A W, Inv E w0 A (zr P none c).bx (b0z w0.heap.size e p cc vs :: fs) W → RdV W (q A) ys)
 (hfar : ∀ A W, Inv E w0 A (zr P none c).bx (b0z w0.heap.size e p cc vs :: fs) W → p.isSome = true → PF.far (blk p) (pick is fs)) (N : Nat)
 (hN : ∀ A W, Inv E w0 A (zr P none c).bx (b0z w0.heap.size e p cc vs :: fs) W → N ≤ W.heap.size)
 (h : ∀ A W p' c', (p'.isSome = true → (p.isSome = true ∧ blk p' = blk p) ∨ N ≤ blk p') → Inv E w0 A (putc (zr P none c) (.v (.slice p' l c'))).bx (b0z w0.heap.size e p' c' us :: pick is fs) W → G P Q A (putc (zr P none c) (.v (.slice p' l c'))) W)
 (hone : ys.all (·.oneCell') = true := by rfl)
 (hv : ∀ A, woOf (zr P none c) A = some (.ap t ty (.slice p n cc) (.slice (q A) m c2)) := by intro _; kernel_rfl)
 (hr : ∀ A w, (zms P none 5000 c A w).map (·.1) = (zms P none 5000 c A w).map (·.2) := by intro _ _; kernel_rfl)
 (hrw : l0z (zr P none c).bx = true := by kernel_rfl)
 (hm : ok1 (zr P none c).rg (zr P none c).bx = ok2 (zr P none c).rg := by kernel_rfl) : G P Q A c W := by
 subst hu hn hm2 hl
 refine zdo (ι := {x : OA × Nat // x.1.isSome = true → (p.isSome = true ∧ blk x.1 = blk p) ∨ N ≤ blk x.1}) I none (fun x => .slice x.1.1 (vs.length + ys.length) x.1.2) (fun x => b0z w0.heap.size e x.1.1 x.1.2 (vs ++ ys) :: pick is fs) (fun A W I => ?_) (fun A W x I => h A W x.1.1 x.1.2 x.2 I) hv hr hm
 have hown := I.fa.1
 obtain ⟨p', c', W', h1, h2, h3, h4⟩ := k0x (P := P) W hty ty w0.heap.size p cc vs hown (q A) c2 ys (hrd A W I) hone (by have := Nat.mul_le_mul hb hty.le; omega) (by simp only [maxLen]; omega) I.bel.size
 refine ⟨⟨(p', c'), fun hp => (h4 hp).imp id fun h => show N ≤ blk p' by rw [h]; exact hN A W I⟩, W', h1, (I.pk is).redo (p.map (·.block)) h3 (fun k hk => ?_) hrw _ h2 fun a ha => ?_⟩
 · cases p with
   | none => cases hk
   | some a =>
    cases hk
    exact ⟨⟨rfl, rfl⟩, (hown.blk_lt rfl).1, hfar A W I rfl⟩
 · rcases h4 ha.1 with h | h
   · exact .inl ⟨h.1, h.2.symm.trans ha.2⟩
   · exact .inr (Nat.le_of_eq (h.symm.trans ha.2))
end
theorem zbx {P : Program} {Q : Exit → Act → World → Prop} {E : List Nat} {w0 : World} {A : List Nat} {fs : List PF} {W : World} {c : Cfg} (I : Inv E w0 A c.bx fs W) (d : Nat) (t : TypeId) (cs : Array Value)
 (h : ∀ A W b, w0.heap.size ≤ b → Inv E w0 A (putc (zr P (some d) c) (.v (.pointer (some ⟨b, 0, none⟩)))).bx (btF b t cs :: fs) W → G P Q A (putc (zr P (some d) c) (.v (.pointer (some ⟨b, 0, none⟩)))) W)
 (ho : ∀ A w, h0n P (zr P (some d) c) A w = some (.ok (.value (.pointer (some ⟨w.heap.size, 0, none⟩))) (w.alloc (.cells cs t))) := by intro _ _; kernel_rfl)
 (hr : ∀ A w, (zms P (some d) 5000 c A w).map (·.1) = (zms P (some d) 5000 c A w).map (·.2) := by intro _ _; kernel_rfl)
 (hm : ok1 (zr P (some d) c).rg (zr P (some d) c).bx = ok2 (zr P (some d) c).rg := by kernel_rfl) : G P Q A c W :=
 b0d I hr fun A W I => by
  have ho := ho A W
  have h := h A
  clear hr
  generalize zr P (some d) c = c at *
  unfold h0n at ho
  split at ho
  · rename_i o hn
    split at ho
    · rename_i hw
      refine G_op (E := E) (w0 := w0) (fs := []) hn fun K hK => r0k o.dst rfl (.pointer (some ⟨W.heap.size, 0, none⟩)) cs t (by rw [d0k]; exact hw) (by rw [b0j]; exact Option.some.inj ho) fun W' hb _ hB => ?_
      have I2 : Inv E w0 A c.bx (btF W.heap.size t cs :: fs) W' := (I.past hb).add (btF W.heap.size t cs) hB fun a ha hf => by
       have h1 := I.lt a ha
       have h2 : W.heap.size = a := hf
       omega
      have h := h W' W.heap.size I.bel.size I2
      unfold putc at h
      rw [hn] at h
      have := hK A W' _ c.bx (List.prefix_refl _) (I2.pick []) hm h
      rw [show Value.pointer (some ⟨W.heap.size, 0, none⟩) = (SV.v (.pointer (some ⟨W.heap.size, 0, none⟩))).r A from rfl, c0a]
      exact this
    · cases ho
  · cases ho
theorem s1r {P : Program} {W : World} {ik : IntKind} {t kt vt : TypeId} (hm : P.underlying t = some (.map kt vt)) (hk : P.underlying kt = some (.int ik)) {b : Nat} {es : Array MapEntry} {clock : Nat} (hb : W.heap[b]? = some (.map es clock)) (k : Int) {v : Value} (hf : ∃ i, Instr.findNow (.int ik) (.int ik k) es.toList 0 = some (some (i, v))) :
 (VO.lk t (.map (some b)) (.int ik k) true).sem.run P W = .ok (.tuple #[v, .bool true]) W := by
 obtain ⟨i, hf⟩ := hf
 have h : (Instr.lookup t (.map (some b)) (.int ik k) true).run P W = .ok (.tuple #[v, .bool true]) W := by
  simp [Instr.lookup, run_underlying hm, MapKept.run_getObj_map hb, run_checkKey hk (i0a ik k), run_findKey hk hf, Result.andThen]
 exact h
theorem s1s {P : Program} {w : World} {ty : TypeId} {p : OA} {vs : List Value} (hr : RdV w p vs) {k : Nat} (hT : m0p P ty k) {m : Nat} (cs : List Value) (hc : (vs.drop m).take cs.length = cs) (hn : cs.length = k) : (VO.ld ty (.pointer (some (at_ p m)))).sem.run P w = .ok (.agg cs.toArray) w := by
 obtain ⟨⟨d, hu, hd⟩, hi⟩ := hT
 show (Instr.loadAt _ _).run P w = _
 have hE : at_ p m = ⟨(at_ p m).block, (at_ p m).off, none⟩ := rfl
 rw [hE]
 refine run_loadAt_mid w _ _ ty cs d (fun j v hv => ?_) hu hd (by rw [hi, hn])
 have hj := (List.getElem?_eq_some_iff.1 hv).1
 rw [← hc, List.getElem?_take, if_pos hj, List.getElem?_drop] at hv
 have := hr.cells (m + j) (List.getElem?_eq_some_iff.1 hv).1
 rw [hv] at this
 rw [← this]
 unfold at_
 simp only [Nat.add_assoc]
theorem o0o {P : Program} {E : List Nat} {w v : World} {A : List Nat} {bx : List Box} {fs : List PF} {f : FuncId} {fn : Func} {args : Array Value} {R : Ending → World → Prop} (fr : List SV) (_ : Inv E w A bx fs v) (hf : P.funcs[f]? = some fn)
 (h : G P (bodyPost P fn R) A (cfg0 fn fr bx) v) (hb : fn.body.isSome = true := by kernel_rfl) (ha : fr.map (SV.r A) = args.toList := by kernel_rfl) : Calls P f args v R := by
 have hb2 : fn.body = some (t0y fn) := by
  unfold t0y
  cases h : fn.body with
  | none => rw [h] at hb; cases hb
  | some c => rfl
 refine calls_of_wp hf hb2 ?_
 have hl : fr.length = args.size := by rw [← Array.length_toList, ← ha, List.length_map]
 have e : (⟨args ++ Array.replicate (fn.ntmps - args.size) undef, []⟩ : Act) = act A (cfg0 fn fr bx).fr := by
  unfold act cfg0
  simp only [Act.mk.injEq, and_true]
  rw [List.map_append, ha, List.map_replicate, hl]
  apply Array.toList_inj.1
  simp [SV.r]
 rw [e]
 exact h.out
theorem s1t {P : Program} {w : World} {t : TypeId} {e : TypeId} {z : Value} {bytes : Nat} (hty : k0n P t e z bytes) {p : OA} {n c m : Nat} (hm : m ≤ c) : (VO.sl t (.slice p n c) none (some (.int .i64 (m : Int))) none).sem.run P w = .ok (.slice p m c) w := by
 show (Instr.sliceAt _ _ _ _ _).run P w = _
 simp only [run_sliceAt_slice (h := k0o hty), run_slice_h (ht := k0o hty) (h0 := Int.natCast_nonneg m) (h2 := Int.ofNat_le.2 hm), l0t hty, Result.andThen_ok, sliced, Int.toNat_natCast, Nat.zero_mul, Nat.sub_zero, d1w, ite_self]
theorem OwnV.up {w : World} {base b' : Nat} {e : TypeId} {p : OA} {c : Nat} {vs : List Value} (h : OwnV w base e p c vs) (hb : p.isSome = true → b' ≤ blk p) : OwnV w b' e p c vs := by
 refine ⟨h.1, ?_⟩
 rcases h.2 with h1 | ⟨g, cap, cur, hv, hbg, r⟩
 · exact .inl h1
 · simp only [Value.slice.injEq] at hv
   obtain ⟨rfl, _, rfl⟩ := hv
   exact .inr ⟨g, c, cur, rfl, hb rfl, r⟩
theorem WkTo.refl (bw : Nat) (p : OA) (w : World) : WkTo bw p p w w := ⟨rfl, rfl, rfl, Nat.le_refl _, fun _ _ _ => rfl, fun h => .inl ⟨h, rfl⟩⟩
theorem d0z {T e : TypeId} {B bw : Nat} {f a g r : Int} {p : OA} {vs : List Value} {V : Value} {w w' : World} {en : Ending} :
 (∃ p' c', en = .returned V ∧ Wk T e B bw f a g r p' c' vs w' ∧ WkTo bw p p' w w') → ∃ x : OA × Nat, en = .returned V ∧ WkTo bw p x.1 w w' ∧ Bt w' bw T ([.int .i64 f, .int .i64 a, .int .i64 g, .int .i64 r, .slice x.1 vs.length x.2] : List Value).toArray ∧ PF.all w' [b0z B e x.1 x.2 vs] ∧ ∀ b, PF.foots [b0z B e x.1 x.2 vs] b → (p.isSome = true ∧ blk p = b) ∨ w.heap.size ≤ b := by
 rintro ⟨p', c', he, h, k⟩
 refine ⟨(p', c'), he, k, h.bt, ⟨h.own, True.intro⟩, fun b hb => ?_⟩
 rcases hb with hb | hb
 · obtain ⟨h1, rfl⟩ := hb
   exact (k.at_ h1).imp (fun h => ⟨h.1, h.2.symm⟩) id
 · cases hb
theorem u1j {T e : TypeId} {B bw n : Nat} {f a g r : Int} {p : OA} {c : Nat} {vs us : List Value} {w w' : World} {en : Ending} (hB : B ≤ w.heap.size) :
 (∃ q d, en = .returned (.slice q n d) ∧ OwnV w' w.heap.size e q d us ∧ Wk T e B bw f a g r p c vs w' ∧ WkTo bw p p w w') → ∃ x : OA × Nat, en = .returned (.slice x.1 n x.2) ∧ WkTo bw p p w w' ∧ Bt w' bw T ([.int .i64 f, .int .i64 a, .int .i64 g, .int .i64 r, .slice p vs.length c] : List Value).toArray ∧ PF.all w' [b0z B e p c vs, b0z B e x.1 x.2 us] ∧ ∀ b, PF.foots [b0z B e p c vs, b0z B e x.1 x.2 us] b → (p.isSome = true ∧ blk p = b) ∨ w.heap.size ≤ b := by
 rintro ⟨q, d, he, ho, h, k⟩
 refine ⟨(q, d), he, k, h.bt, ⟨h.own, ho.mono hB, True.intro⟩, fun b hb => ?_⟩
 rcases hb with hb | hb | hb
 · exact .inl hb
 · obtain ⟨h1, rfl⟩ := hb
   exact .inr (ho.blk_lt h1).1
 · cases hb
end Go.Slip
namespace Go.Proofs.YtgbbhlginbmghaaGreatDoor
open Go.RowKit Go.Slip
theorem u0k (x cr s : Nat) (hx : x < 4294967296) (hs : s < 32) (hc : cr < 2 ^ s) : x * 2 ^ s + cr < 18446744073709551616 := by
 have h1 : 2 ^ s ≤ 2 ^ 31 := Nat.pow_le_pow_right (by omega) (by omega)
 have h2 := Nat.mul_le_mul_right (2 ^ s) (show x + 1 ≤ 4294967296 from hx)
 rw [Nat.add_mul, Nat.one_mul] at h2
 omega
theorem s1u (x cr s : Nat) (hx : x < 4294967296) (hs : s < 32) (hc : cr < 2 ^ s) :
 bits .or .u64 (IntKind.u64.wrap ((x : Int) * 2 ^ s)) (cr : Int) = ((x * 2 ^ s + cr : Nat) : Int) := by
 have hlt := u0k x cr s hx hs hc
 have e : (x : Int) * 2 ^ s = ((x * 2 ^ s : Nat) : Int) := by simp
 rw [e, IntWalk.u64_in _ (by omega), u64_or_nat _ _ (by omega) (by omega), nat_join s _ _ (Nat.mul_mod_left _ _) hc]
theorem i0c (p : OA) (n c : Nat) (a N : Nat) (w : World) (hp : Rd w .u32 p (dig B32 a)) (hn : n = (dig B32 a).length) (hl : (dig B32 a).length ≤ 1000000000) (hN : N ≤ 1000000000) :
 Calls Tryz.prog 67 #[.slice p n c, .int .i64 N] w (f0w w .u32 139 (dig B32 (a * 2 ^ N))) := by
 subst hn
 by_cases h0 : (dig B32 a).length = 0
 · have : a = 0 := (a0h a0b a).1 h0
   subst this
   rw [Nat.zero_mul]
   rw [a0e] at *
   go_enter Tryz.func67, Tryz.ntmps67
   go_wp2
   go_ret
   exact ⟨none, 0, rfl, Own.nil _ _ _ _, Below.refl _ _⟩
 · have HXL := lHd (c0c a0b a)
   have HA := lHd (b0o a0b a)
   generalize dig B32 a = xs at *
   have hsx := hp.solid
   have hlen : 1 ≤ xs.length := by omega
   clear h0
   have hs : N % 32 < 32 := Nat.mod_lt _ (by omega)
   have H0 := lHd (k0e.start (k := N / 32) (p := 2 ^ (N % 32)) c0j (Nat.pow_pos (by omega)) xs)
   go_enter Tryz.func67, Tryz.ntmps67
   go_wp2_with (refine d1x rfl _ _ _ rfl b0y .i64 .i64 (N / 32) (N / 32 + xs.length + 1) _ _ rfl rfl ?_ ?_ ?_ ?_ ?_; omega; omega; omega; omega; intro p1 c1 w1 ho1 hb1 hz1)
   go_loopg [5, 7, 27] (xs.length) (fun g ov cv iv wr => ∃ (i cr : Nat) (t : OA) (e : Nat) (O : List Nat), iv = .int .i64 i ∧ cv = .int .u32 cr ∧ ov = .slice t O.length e ∧ g + i = xs.length ∧ cr < 4294967296 ∧ i ≤ xs.length ∧ Hid (O.length = N / 32 + i) ∧
     Own wr w.heap.size .u32 139 t e O ∧ Below w.heap.size w wr ∧ Hid (k0e B32 (N / 32) (2 ^ (N % 32)) O xs i cr))
   case atStart => exact ⟨0, 0, p1, c1, _, rfl, rfl, by simp, by omega, by omega, by omega, List.length_replicate, ho1, hb1, H0⟩
   case round =>
    obtain ⟨i, cr, t, e, O, rfl, rfl, rfl, hg, hcr, hi, hO, hoq, hb, HR⟩ := hrel
    have hpL := hp.past hb
    have hxd := a0r (B := 4294967296) (by omega) xs HXL.out i
    by_cases h1 : i < xs.length
    · have hc1 := hpL.cells i h1
      obtain ⟨t, ht⟩ : ∃ t, t = dg xs i * 2 ^ (N % 32) + cr := ⟨_, rfl⟩
      have HS := lHd (HR.out.step (by unfold B32; exact hxd) t ht)
      have hor := s1u (dg xs i) cr (N % 32) hxd hs HR.out.2.2.1
      have htb := u0k (dg xs i) cr (N % 32) hxd hs HR.out.2.2.1
      rw [← ht] at hor htb
      have hq : t / 4294967296 < 4294967296 := by omega
      clear ht hs H0
      go_wp2_with (first
        | (refine c0l rfl _ _ rfl b0y _ ?_ rfl ?_; omega; intro p2 w2 ho2 hb2 hz2 hp2)
        | (at_builtin; refine c0k rfl _ _ _ rfl b0y _ _ _ _ _ (hoq.past hb2) rfl _ _ _ _ ho2.rd rfl rfl rfl ?_ ?_ ?_; (have := hO.out; simp; omega); (have := hb2.size; have := hb.size; omega); intro p3 c3 w3 ho3 hg3 hb3 hn3))
      have hb4 := hb.trans ((hb2.mono hb.size).trans hb3)
      have e4 : ((t : Int) % 4294967296).toNat = t % B32 := by unfold B32; omega
      rw [e4] at ho3
      go_roundg (xs.length - 1 - i)
      case measure => omega
      case rel => exact ⟨i + 1, t / B32, p3, c3, _, by go_num, (by unfold B32; go_num), by simp, by omega, (by unfold B32; exact hq), by omega, (by show (O ++ _).length = _; have := hO.out; rw [List.length_append, List.length_singleton]; omega), ho3, hb4, HS⟩
    · obtain rfl : i = xs.length := by omega
      obtain ⟨hd1, hd2⟩ := HR.out.done (by have := Nat.pow_le_pow_right (show 0 < 2 by omega) (Nat.le_of_lt hs); exact this) HA.out
      rw [n0g (B := B32) (w := 32) (by decide) N] at hd2
      have HD := lHd hd1
      have HV := lHd hd2
      clear hd1 hd2 hs H0
      go_wp2_with (first
        | (refine c0l rfl _ _ rfl b0y _ ?_ rfl ?_; omega; intro p2 w2 ho2 hb2 hz2 hp2)
        | (at_builtin; refine c0k rfl _ _ _ rfl b0y _ _ _ _ _ (hoq.past hb2) rfl _ _ _ _ ho2.rd rfl rfl rfl ?_ ?_ ?_; (have := hO.out; simp; omega); (have := hb2.size; have := hb.size; omega); intro p3 c3 w3 ho3 hg3 hb3 hn3)
        | (go_at_call 111; rw [Int.toNat_natCast] at ho3; refine (f0e _ _ _ (O ++ [cr]) _ ho3.rd (by simp) ho3.le_cap HD.out (by have := hO.out; rw [List.length_append, List.length_singleton]; omega)).mono ?_; rintro e w4 ⟨rfl, rfl⟩))
      go_ret
      have ht := c0d a0b _ HD.out
      have ho4 := ho3.take (dig B32 (val B32 (O ++ [cr]))).length
      rw [ht, HV.out] at ho4
      rw [HV.out]
      exact ⟨p3, _, rfl, ho4, hb.trans ((hb2.mono hb.size).trans hb3)⟩
theorem s1v (x y s : Nat) (hx : x < 4294967296) (hs : s < 32) (h0 : 0 < s) :
 bits .or .u32 ((x / 2 ^ s : Nat) : Int) ((y : Int) * 2 ^ (32 - s) % 4294967296) = ((x / 2 ^ s + y % 2 ^ s * (4294967296 / 2 ^ s) : Nat) : Int) := by
 have e0 : 4294967296 = 2 ^ s * 2 ^ (32 - s) := by rw [← Nat.pow_add, show s + (32 - s) = 32 by omega]
 have e1 : 4294967296 / 2 ^ s = 2 ^ (32 - s) := by rw [e0, Nat.mul_div_cancel_left _ (Nat.pow_pos (by omega))]
 have e2 : (y : Int) * 2 ^ (32 - s) % 4294967296 = ((y % 2 ^ s * 2 ^ (32 - s) : Nat) : Int) := by
  have : y * 2 ^ (32 - s) % 4294967296 = y % 2 ^ s * 2 ^ (32 - s) := by rw [e0, Nat.mul_mod_mul_right]
  rw [← this]; simp
 have hp : 0 < 2 ^ s := Nat.pow_pos (by omega)
 have h1 : x / 2 ^ s < 2 ^ (32 - s) := by rw [Nat.div_lt_iff_lt_mul hp, Nat.mul_comm, ← e0]; exact hx
 have h2 : y % 2 ^ s * 2 ^ (32 - s) < 4294967296 := by
  rw [e0]; exact Nat.mul_lt_mul_of_pos_right (Nat.mod_lt _ hp) (Nat.pow_pos (by omega))
 have h3 : x / 2 ^ s < 4294967296 := Nat.lt_of_le_of_lt (Nat.div_le_self _ _) hx
 rw [e1, e2, u32_or_nat _ _ h3 h2, Nat.or_comm, nat_join (32 - s) _ _ (Nat.mul_mod_left _ _) h1, Nat.add_comm]
theorem j1s {L Y : List Nat} {N a : Nat} (h : j0c B32 (2 ^ (N % 32)) L Y Y.length) (hY : val B32 Y = a / B32 ^ (N / 32)) : val B32 L = a / 2 ^ N := by
 rw [h.done, hY, w0g (B := B32) (w := 32) (by decide)]
theorem x0c (p : OA) (n c : Nat) (a N : Nat) (w : World) (hp : Rd w .u32 p (dig B32 a)) (hn : n = (dig B32 a).length) (hc : (dig B32 a).length ≤ c) (hl : (dig B32 a).length ≤ 1000000000) (hN : N ≤ 1000000000) :
 Calls Tryz.prog 110 #[.slice p n c, .int .i64 N] w (f0w w .u32 139 (dig B32 (a / 2 ^ N))) := by
 subst hn
 by_cases h0 : (dig B32 a).length ≤ N / 32
 · rw [a1i (w := 32) (by decide) a0b a N h0]
   rw [a0e]
   go_enter Tryz.func110, Tryz.ntmps110
   go_wp2
   go_ret
   exact ⟨none, 0, rfl, Own.nil _ _ _ _, Below.refl _ _⟩
 · have HXL := lHd (c0c a0b a)
   have HV := lHd (t0q (B := B32) c0j _ (c0c a0b a) (N / 32))
   rw [b0o a0b] at HV
   generalize dig B32 a = xs at *
   have hsx := hp.solid
   have hk : N / 32 < xs.length := by omega
   have hq := hp.drop (N / 32)
   have HY := lHd (show ∀ x ∈ xs.drop (N / 32), x < B32 from fun x h => HXL.out x (List.mem_of_mem_drop h))
   have hyl : (xs.drop (N / 32)).length = xs.length - N / 32 := List.length_drop
   have hylp : 0 < (xs.drop (N / 32)).length := by omega
   have hyl1 : (xs.drop (N / 32)).length ≤ 1000000000 := by omega
   have eN : ((N : Int) / 32).toNat = N / 32 := by omega
   clear h0
   have hs : N % 32 < 32 := Nat.mod_lt _ (by omega)
   generalize hY : xs.drop (N / 32) = ys at *
   clear hY
   have HL := lHd hyl
   clear hyl
   have hpm : B32 % 2 ^ (N % 32) = 0 := t0r (w := 32) (by omega)
   have hpm := lHd hpm
   have H0 := lHd (j0c.start (p := 2 ^ (N % 32)) HY.out)
   go_enter Tryz.func110, Tryz.ntmps110
   go_wp2_with (go_at_call 112; refine (h0r _ _ _ ys _ hq HL.out.symm hyl1).mono ?_; rintro e w1 ⟨p1, c1, rfl, ho1, hb1⟩)
   go_loopw [22] (fun iv wr => ∃ (i : Nat) (L : List Nat), iv = .int .i64 i ∧ i ≤ ys.length ∧ L.length = ys.length ∧ Own wr w.heap.size .u32 139 p1 c1 L ∧ Below w.heap.size w wr ∧ Hid (j0c B32 (2 ^ (N % 32)) L ys i))
    (fun iv _ => ys.length - (intOf iv).toNat)
   case atStart => exact ⟨0, ys, rfl, Nat.zero_le _, rfl, ho1, hb1, H0⟩
   case round =>
    obtain ⟨i, L, rfl, hi, hL, hoL, hb, HR⟩ := hrel
    by_cases hlt : i < ys.length
    · have hc1 := hoL.rd.cells i (by omega)
      have hsL := hoL.solid
      rw [hL] at hsL
      rw [HR.out.2.2.1 i (Nat.le_refl _)] at hc1
      have hyd := a0r (B := 4294967296) (by omega) ys HY.out i
      have hyd2 := a0r (B := 4294967296) (by omega) ys HY.out (i + 1)
      obtain ⟨v, hv⟩ : ∃ v, v = dg ys i / 2 ^ (N % 32) := ⟨_, rfl⟩
      have ev : ((dg ys i : Nat) : Int) / 2 ^ (N % 32) = (v : Nat) := by rw [hv]; simp
      have hvd : v < 4294967296 := by rw [hv]; exact Nat.lt_of_le_of_lt (Nat.div_le_self _ _) hyd
      by_cases h2 : i + 1 < ys.length ∧ 0 < N % 32
      · obtain ⟨h2, h3⟩ := h2
        obtain ⟨u, hu⟩ : ∃ u, u = dg ys i / 2 ^ (N % 32) + dg ys (i + 1) % 2 ^ (N % 32) * (B32 / 2 ^ (N % 32)) := ⟨_, rfl⟩
        have HS := lHd (HR.out.step (Nat.pow_pos (by omega)) hpm.out HY.out hlt u hu)
        have hor := s1v (dg ys i) (dg ys (i + 1)) (N % 32) hyd hs h3
        rw [show B32 = 4294967296 from rfl] at hu
        rw [← hu, ← hv] at hor
        have huB : u < 4294967296 := by rw [hu]; exact d1d (Nat.pow_pos (by omega)) hpm.out hyd
        clear hu hv
        go_wp2_with (refine b0a rfl _ _ _ rfl 139 b0y _ _ _ _ hoL i (by omega) _ ?_ rfl rfl ?_; omega; intro w3 ho3 hg3 hb3)
        rw [ev, Int.toNat_natCast] at ho3
        have hlv : (L.set i v).length = ys.length := by simp [hL]
        have hcA := ho3.rd.cells i (by omega)
        have hcB := ho3.rd.cells (i + 1) (by omega)
        rw [b0k (by omega)] at hcA
        rw [b0p (by omega), HR.out.2.2.1 (i + 1) (by omega)] at hcB
        have hfr := f0g ho3 i (by omega)
        go_region
        obtain ⟨ho4, hg4, hb4⟩ := g0g ho3 i (by omega) u
        rw [List.set_set] at ho4
        have hs3 := hb.trans hb3
        have hb5 := hs3.trans (c0w hg4 hs3.size (fun j hj => by cases hj; exact hb4))
        have ho4 := ho4.drew
        have hb5 := hb5.drew
        clear hcA hcB hfr hor hg4 hb4
        generalize (w3.setCell (at_ p1 i) (.int .u32 (u : Int))).drew = w4 at ho4 hb5 ⊢
        go_wp2
        go_roundw
        case rel => exact ⟨i + 1, _, by go_num, by omega, by simp [hL], ho4, hb5, HS⟩
        case measure => simp [intOf]; omega
      · have HS := lHd (HR.out.step (Nat.pow_pos (by omega)) hpm.out HY.out hlt v (by
          rw [hv]
          by_cases h3 : N % 32 = 0
          · rw [h3, Nat.pow_zero, Nat.mod_one, Nat.zero_mul]; rfl
          · rw [d0h (show ys.length ≤ i + 1 by omega), Nat.zero_mod, Nat.zero_mul]; rfl))
        clear hv
        by_cases h3 : i + 1 < ys.length
        · have h4 : N % 32 ≤ 0 := by omega
          clear h2
          go_wp2_with (refine b0a rfl _ _ _ rfl 139 b0y _ _ _ _ hoL i (by omega) _ ?_ rfl rfl ?_; omega; intro w3 ho3 hg3 hb3)
          rw [ev, Int.toNat_natCast] at ho3
          go_roundw
          case rel => exact ⟨i + 1, _, by go_num, by omega, by simp [hL], ho3, hb.trans hb3, HS⟩
          case measure => simp [intOf]; omega
        · clear h2
          go_wp2_with (refine b0a rfl _ _ _ rfl 139 b0y _ _ _ _ hoL i (by omega) _ ?_ rfl rfl ?_; omega; intro w3 ho3 hg3 hb3)
          rw [ev, Int.toNat_natCast] at ho3
          go_roundw
          case rel => exact ⟨i + 1, _, by go_num, by omega, by simp [hL], ho3, hb.trans hb3, HS⟩
          case measure => simp [intOf]; omega
    · obtain rfl : i = ys.length := by omega
      have HD := lHd (j1s HR.out HV.out)
      have HX := lHd HR.out.1
      go_wp2_with (go_at_call 111; refine (f0e _ _ _ L _ hoL.rd hL.symm hoL.le_cap HX.out (by omega)).mono ?_; rintro e w3 ⟨rfl, rfl⟩)
      go_ret
      have ht := c0d a0b L HX.out
      have ho2 := hoL.take (dig B32 (val B32 L)).length
      rw [ht, HD.out] at ho2
      rw [HD.out]
      exact ⟨p1, c1, rfl, ho2, hb⟩
structure Box3 (w : World) (b : Nat) (v0 v1 v2 : Value) : Prop where
 c0 : w.cell? ⟨b, 0, none⟩ = some v0
 c1 : w.cell? ⟨b, 1, none⟩ = some v1
 c2 : w.cell? ⟨b, 2, none⟩ = some v2
 f0 : w.frozen? ⟨b, 0, none⟩ = false
 f1 : w.frozen? ⟨b, 1, none⟩ = false
 f2 : w.frozen? ⟨b, 2, none⟩ = false
 lt : b < w.heap.size
theorem Box3.past {w w' : World} {b : Nat} {v0 v1 v2 : Value} (h : Box3 w b v0 v1 v2) (hb : Below w.heap.size w w') : Box3 w' b v0 v1 v2 :=
 ⟨by rw [Below.cell hb h.lt]; exact h.c0, by rw [Below.cell hb h.lt]; exact h.c1, by rw [Below.cell hb h.lt]; exact h.c2,
  by rw [Below.frozen hb h.lt]; exact h.f0, by rw [Below.frozen hb h.lt]; exact h.f1, by rw [Below.frozen hb h.lt]; exact h.f2, Nat.lt_of_lt_of_le h.lt hb.size⟩
theorem Box3.drew {w : World} {b : Nat} {v0 v1 v2 : Value} (h : Box3 w b v0 v1 v2) : Box3 w.drew b v0 v1 v2 := ⟨h.c0, h.c1, h.c2, h.f0, h.f1, h.f2, h.lt⟩
theorem c0r (w : World) (v0 v1 v2 : Value) (t : TypeId) : Box3 (w.alloc (.cells #[v0, v1, v2] t)) w.heap.size v0 v1 v2 :=
 ⟨by simp [go_sem], by simp [go_sem], by simp [go_sem], by simp [go_sem], by simp [go_sem], by simp [go_sem], by simp⟩
def f0s (w : World) (base : Nat) (d : Dv) (en : Ending) (w' : World) : Prop :=
 ∃ p c, en = .returned (.agg #[.bool d.neg, .slice p (dig B32 d.m).length c, .int .i64 d.e]) ∧ Own w' base .u32 139 p c (dig B32 d.m) ∧ Below w.heap.size w w'
theorem s0m (g : Bool) (p : OA) (c : Nat) (e : Int) (w : World) :
 Calls Tryz.prog 174 #[.agg #[.bool g, .slice p 0 c, .int .i64 e]] w (f0s w w.heap.size ⟨false, 0, 0⟩) := by
 go_enter Tryz.func174, Tryz.ntmps174
 go_wp2
 refine bodyPost_ret (v := .agg #[.bool false, .slice none 0 0, .int .i64 0]) (by simp [results, Tryz.results174, go_sem]) rfl ?_
 exact ⟨none, 0, by rw [a0e]; rfl, by rw [a0e]; exact Own.nil _ _ _ _, ((Below.refl _ _).alloc (Nat.le_refl _) _).alloc (by simp) _⟩
theorem u0l (g : Bool) (p : OA) (n c : Nat) (e : Int) (m : Nat) (w : World) (hp : Rd w .u32 p (dig B32 m)) (hn : n = (dig B32 m).length) (hc : n ≤ c) (hl : (dig B32 m).length ≤ 10000000) (h0 : 0 < m)
 (he : -1000000000 ≤ e ∧ e ≤ 1000000000) (hT : TabW w) :
 Calls Tryz.prog 174 #[.agg #[.bool g, .slice p n c, .int .i64 e]] w (f0s w w.heap.size (bare ⟨g, m, e⟩)) := by
 subst hn
 have hl0 : 0 < (dig B32 m).length := by
  have := a0h a0b m
  omega
 have t1 : (((dig B32 m).length : Int) == 0) = false := bFn (by omega)
 go_enter Tryz.func174, Tryz.ntmps174
 go_wp2_with fail
 refine (k0i p _ c m _ ((hp.laid _).laid _) rfl (by omega) ((hT.laid _).laid _)).mono ?_
 rintro e1 w1 ⟨rfl, rfl⟩
 have htz : tz m ≤ 1000000000 := by have := g0k h0; have := c0x m; omega
 have HB := lHd (r0i (g := g) (e := e) h0)
 obtain ⟨t, ht⟩ : ∃ t, tz m = t := ⟨_, rfl⟩
 have HT := lHd ht
 rw [ht] at htz HB ⊢
 clear ht
 go_wp2_with fail
 have B1 := (c0r w (.bool g) (.slice p (dig B32 m).length c) (.int .i64 e) 129).past ((Below.refl _ _).alloc (Nat.le_refl _) (.cells #[.bool false, .slice none 0 0, .int .i64 0] 129))
 have B2 := c0r (w.alloc (.cells #[.bool g, .slice p (dig B32 m).length c, .int .i64 e] 129)) (.bool false) (.slice none 0 0) (.int .i64 0) 129
 have hp1 := (hp.laid (.cells #[.bool g, .slice p (dig B32 m).length c, .int .i64 e] 129)).laid (.cells #[.bool false, .slice none 0 0, .int .i64 0] 129)
 have hs1 : Below w.heap.size w ((w.alloc (.cells #[.bool g, .slice p (dig B32 m).length c, .int .i64 e] 129)).alloc (.cells #[.bool false, .slice none 0 0, .int .i64 0] 129)) := ((Below.refl _ _).alloc (Nat.le_refl _) _).alloc (by simp) _
 have ez : (w.alloc (.cells #[.bool g, .slice p (dig B32 m).length c, .int .i64 e] 129)).heap.size = w.heap.size + 1 := by simp
 rw [ez] at B2
 clear ez
 generalize (w.alloc (.cells #[.bool g, .slice p (dig B32 m).length c, .int .i64 e] 129)).alloc (.cells #[.bool false, .slice none 0 0, .int .i64 0] 129) = W1 at *
 have e1 : IntKind.i64.wrap (e + (t : Int)) = e + (t : Int) := iwo
 go_region_held3 (fun w' => w'.cell? ⟨w.heap.size, 0, none⟩ = some (.bool g) ∧ w'.cell? ⟨w.heap.size, 1, none⟩ = some (.slice p (dig B32 m).length c) ∧ w'.cell? ⟨w.heap.size, 2, none⟩ = some (.int .i64 e))
  (first | exact ⟨B1.c0, B1.c1, B1.c2⟩
         | (have D1 := B1.drew; exact ⟨D1.c0, D1.c1, D1.c2⟩)
         | (have D1 := B1.drew.past hb2; exact ⟨D1.c0, D1.c1, D1.c2⟩)
         | go_keep)
  (first | (go_at_call 110; refine (x0c p _ c m t _ hp1.drew rfl hc (by clear e1; omega) (by clear e1; omega)).mono ?_; rintro e2 w2 ⟨p2, c2, rfl, ho2, hb2⟩; obtain ⟨d0, d1, d2, f0, f1, f2, dlt⟩ := B2.drew.past hb2))
 all_goals (go_wp2_with fail)
 refine bodyPost_ret (v := .agg #[.bool g, .slice p2 (dig B32 (m / 2 ^ t)).length c2, .int .i64 (e + (t : Int))]) (by simp [results, Tryz.results174, go_sem, d0, d1, d2]) rfl ?_
 rw [HB.out]
 clear e1
 have hs2 := hs1.drew.trans (hb2.mono hs1.size)
 have hz := B2.lt
 refine ⟨p2, c2, rfl, (ho2.mono hs1.size).same (fun h => ?_), ((hs2.setCell (by simp) _).setCell (by simp) _).setCell (by simp) _⟩
 have hk := (ho2.blk_lt h).1
 have hne : blk p2 ≠ w.heap.size + 1 := by
  have : W1.drew.heap.size = W1.heap.size := rfl
  omega
 rw [Below.heap_setCell _ _ _ _ hne, Below.heap_setCell _ _ _ _ hne, Below.heap_setCell _ _ _ _ hne]
theorem f0t (g : Bool) (p : OA) (n c : Nat) (e : Int) (m : Nat) (w : World) (hp : Rd w .u32 p (dig B32 m)) (hn : n = (dig B32 m).length) (hc : n ≤ c) (hl : (dig B32 m).length ≤ 10000000)
 (he : -1000000000 ≤ e ∧ e ≤ 1000000000) (hT : TabW w) :
 Calls Tryz.prog 174 #[.agg #[.bool g, .slice p n c, .int .i64 e]] w (f0s w w.heap.size (bare ⟨g, m, e⟩)) := by
 by_cases h0 : m = 0
 · subst h0
   rw [a0e] at hn
   subst hn
   exact s0m g p c e w
 · exact u0l g p n c e m w hp hn hc hl (by omega) he hT
theorem d0o (g : Bool) (p : OA) (n c : Nat) (e : Int) (m : Nat) (w : World) (hn : n = (dig B32 m).length) :
 Calls Tryz.prog 127 #[.agg #[.bool g, .slice p n c, .int .i64 e]] w fun en w' => en = .returned (.int .i64 (f0a ⟨g, m, e⟩)) ∧ Below w.heap.size w w' := by
 have hb : Below w.heap.size w (w.alloc (.cells #[.bool g, .slice p n c, .int .i64 e] 129)) := (Below.refl _ _).alloc (Nat.le_refl _) _
 by_cases h0 : m = 0
 · subst h0
   rw [a0e] at hn
   subst hn
   go_enter Tryz.func127, Tryz.ntmps127
   go_wp2
   go_ret
   exact ⟨rfl, hb⟩
 · have hl0 : 0 < n := by
    have := a0h a0b m
    omega
   have t1 : ((n : Int) == 0) = false := bFn (by omega)
   have hs : f0a ⟨g, m, e⟩ = if g then -1 else 1 := by unfold f0a; rw [if_neg h0]
   rw [hs]
   clear hn h0 hs
   cases g
   · go_enter Tryz.func127, Tryz.ntmps127
     go_wp2
     go_ret
     exact ⟨rfl, hb⟩
   · go_enter Tryz.func127, Tryz.ntmps127
     go_wp2
     go_ret
     exact ⟨rfl, hb⟩
theorem j1t {L xs ys : List Nat} {i k cr : Nat} (h : l0o B32 L xs ys i k cr) (hc : cr < 4294967296) (hx : dg xs i < 4294967296) (hy : dg ys k < 4294967296) :
 (dg xs i * dg ys k + dg L (i + k) + cr) / 4294967296 < 4294967296 := by
 have := h.carry (by unfold B32; omega) (by unfold B32; omega) (by unfold B32; omega)
 unfold B32 at this
 omega
theorem x0d {x y : Nat} (hx : x < 4294967296) (hy : y < 4294967296) : (x : Int) * y ≤ 18446744065119617025 ∧ 0 ≤ (x : Int) * y := by
 have h : x * y ≤ 4294967295 * 4294967295 := Nat.mul_le_mul (by omega) (by omega)
 have e : (x : Int) * y = ((x * y : Nat) : Int) := by simp
 rw [e]; omega
theorem f1e {p q : OA} {n m c d : Nat} (w : World) (h : n = 0 ∨ m = 0) :
 Calls Tryz.prog 48 #[.slice p n c, .slice q m d] w (f0w w .u32 139 []) := by
 rcases h with rfl | rfl
 · go_enter Tryz.func48, Tryz.ntmps48
   go_wp2
   go_ret
   exact ⟨none, 0, rfl, Own.nil _ _ _ _, Below.refl _ _⟩
 · by_cases hn : n = 0
   · subst hn
     go_enter Tryz.func48, Tryz.ntmps48
     go_wp2
     go_ret
     exact ⟨none, 0, rfl, Own.nil _ _ _ _, Below.refl _ _⟩
   · have h1 : ((n : Int) == 0) = false := bFn (by omega)
     go_enter Tryz.func48, Tryz.ntmps48
     go_wp2
     go_ret
     exact ⟨none, 0, rfl, Own.nil _ _ _ _, Below.refl _ _⟩
theorem mul_pos (p q : OA) (n m c d : Nat) (a b : Nat) (w : World) (xs ys : List Nat) (hxs : xs = dig B32 a) (hys : ys = dig B32 b) (hp : Rd w .u32 p xs) (hq : Rd w .u32 q ys) (hn : n = xs.length) (hm : m = ys.length)
 (h1 : 0 < xs.length) (h2 : 0 < ys.length) (hl : xs.length + ys.length ≤ 1000000000) :
 Calls Tryz.prog 48 #[.slice p n c, .slice q m d] w (f0w w .u32 139 (dig B32 (a * b))) := by
 subst hn hm
 have HA := lHd (show val B32 xs = a by rw [hxs]; exact b0o a0b a)
 have HB := lHd (show val B32 ys = b by rw [hys]; exact b0o a0b b)
 have HXL := lHd (show ∀ x ∈ xs, x < B32 by rw [hxs]; exact c0c a0b a)
 have HYL := lHd (show ∀ x ∈ ys, x < B32 by rw [hys]; exact c0c a0b b)
 clear hxs hys
 have hsx := hp.solid
 have hsy := hq.solid
 have t1 : ((xs.length : Int) == 0) = false := bFn (by omega)
 have t2 : ((ys.length : Int) == 0) = false := bFn (by omega)
 go_enter Tryz.func48, Tryz.ntmps48
 go_wp2_with (refine r0c rfl _ _ _ rfl b0y _ _ (xs.length + ys.length) _ _ rfl rfl ?_ ?_ ?_ ?_; omega; omega; omega; intro p1 c1 w1 ho1 hb1 hz1)
 clear t1 t2
 go_loopw [28] (fun iv wr => ∃ (i : Nat) (L : List Nat), iv = .int .i64 i ∧ i ≤ xs.length ∧ Hid (L.length = xs.length + ys.length) ∧ Own wr w.heap.size .u32 139 p1 c1 L ∧ Below w.heap.size w wr ∧ Hid (h0j B32 L xs ys i))
  (fun iv _ => xs.length - (intOf iv).toNat)
 case atStart => exact ⟨0, _, rfl, Nat.zero_le _, List.length_replicate, ho1, hb1, h0j.start B32 (by unfold B32; omega) xs ys _⟩
 case round =>
  obtain ⟨i, L, rfl, hi, hL, hoL, hbL, HR⟩ := hrel
  have hpL := hp.past hbL
  by_cases hlt : i < xs.length
  · have hc1 := hpL.cells i hlt
    go_wp2
    obtain ⟨wo, rfl⟩ : ∃ wo : World, wo = wr := ⟨_, rfl⟩
    go_loopw [8, 35] (fun cv kv wr => ∃ (k cr : Nat) (L : List Nat), kv = .int .i64 k ∧ cv = .int .u64 cr ∧ k ≤ ys.length ∧ cr < 4294967296 ∧ Hid (L.length = xs.length + ys.length) ∧ Own wr w.heap.size .u32 139 p1 c1 L ∧ Below w.heap.size w wr ∧ Hid (l0o B32 L xs ys i k cr))
     (fun _ kv _ => ys.length - (intOf kv).toNat)
    case atStart => exact ⟨0, 0, L, rfl, rfl, Nat.zero_le _, by omega, hL, hoL, hbL, HR.out.enter⟩
    case round =>
     obtain ⟨k, cr, L, rfl, rfl, hk, hcr, hL, hoL, hbL, HR⟩ := hrel
     have hqL := hq.past hbL
     have hsL := hoL.solid
     rw [hL.out] at hsL
     by_cases hkt : k < ys.length
     · have hc2 := hqL.cells k hkt
       have hc3 := hoL.rd.cells (i + k) (by rw [hL.out]; omega)
       have hxd := a0r (B := 4294967296) (by omega) xs HXL.out i
       have hyd := a0r (B := 4294967296) (by omega) ys HYL.out k
       have hLd := a0r (B := 4294967296) (by omega) L HR.out.1 (i + k)
       obtain ⟨hpr, hpr0⟩ := x0d hxd hyd
       have HS := lHd (HR.out.step (t := dg xs i * dg ys k + dg L (i + k) + cr) (by unfold B32; omega) hkt (by rw [hL.out]; omega) rfl)
       have HC := lHd (j1t HR.out hcr hxd hyd)
       go_wp2_with (refine b0a rfl _ _ _ rfl 139 b0y _ _ _ _ hoL (i + k) (by rw [hL.out]; omega) _ ?_ rfl rfl ?_; omega; intro w3 ho3 hg3 hb3)
       have e3 : (((dg xs i : Int) * dg ys k + dg L (i + k) + cr) % 4294967296).toNat = (dg xs i * dg ys k + dg L (i + k) + cr) % B32 := by unfold B32; omega
       rw [e3] at ho3
       go_roundw
       case rel => exact ⟨k + 1, (dg xs i * dg ys k + dg L (i + k) + cr) / B32, _, by go_num, by unfold B32; go_num, hkt, HC.out, (by rw [List.length_set]; exact hL.out), ho3, hbL.trans hb3, HS⟩
       case measure => simp [intOf]; omega
     · obtain rfl : k = ys.length := by omega
       have hj : i + ys.length < L.length := by rw [hL.out]; omega
       have HS := lHd (HR.out.leave rfl hj (by unfold B32; omega))
       go_wp2_with (refine b0a rfl _ _ _ rfl 139 b0y _ _ _ _ hoL (i + ys.length) hj _ ?_ rfl rfl ?_; omega; intro w3 ho3 hg3 hb3)
       have e3 : ((cr : Int) % 4294967296).toNat = cr := by omega
       first | rw [e3] at ho3 | skip
       go_roundw
       case rel => exact ⟨i + 1, _, by go_num, hlt, (by rw [List.length_set]; exact hL.out), ho3, hbL.trans hb3, HS⟩
       case measure => simp [intOf]; omega
  · obtain rfl : i = xs.length := by omega
    go_wp2_with (go_at_call 111; refine (f0e _ _ _ L _ hoL.rd hL.out.symm hoL.le_cap HR.out.1 (by rw [hL.out]; omega)).mono ?_; rintro e w3 ⟨rfl, rfl⟩)
    go_ret
    rw [← HR.out.done (Nat.le_refl _) HA.out HB.out]
    have ht := c0d a0b L HR.out.1
    have ho := hoL.take (dig B32 (val B32 L)).length
    rw [ht] at ho
    exact g0v rfl rfl ho hbL
theorem o0p (p q : OA) (n m c d : Nat) (a b : Nat) (w : World) (hp : Rd w .u32 p (dig B32 a)) (hq : Rd w .u32 q (dig B32 b)) (hn : n = (dig B32 a).length) (hm : m = (dig B32 b).length)
 (hl : (dig B32 a).length + (dig B32 b).length ≤ 1000000000) :
 Calls Tryz.prog 48 #[.slice p n c, .slice q m d] w (f0w w .u32 139 (dig B32 (a * b))) := by
 by_cases h1 : 0 < (dig B32 a).length
 · by_cases h2 : 0 < (dig B32 b).length
   · exact mul_pos p q n m c d a b w _ _ rfl rfl hp hq hn hm h1 h2 hl
   · have h0 : b = 0 := (a0h a0b b).1 (by omega)
     rw [show dig B32 (a * b) = [] by rw [h0, Nat.mul_zero, a0e]]
     exact f1e w (.inr (by omega))
 · have h0 : a = 0 := (a0h a0b a).1 (by omega)
   rw [show dig B32 (a * b) = [] by rw [h0, Nat.zero_mul, a0e]]
   exact f1e w (.inl (by omega))
def x0e (w : World) (base : Nat) (d : Dv) (er : Int) (en : Ending) (w' : World) : Prop :=
 ∃ p c, en = .returned (.tuple #[.agg #[.bool d.neg, .slice p (dig B32 d.m).length c, .int .i64 d.e], .int .i64 er]) ∧ Own w' base .u32 139 p c (dig B32 d.m) ∧ Below w.heap.size w w'
theorem m0x (w : World) (o1 o2 : Obj) : Below w.heap.size w ((w.alloc o1).alloc o2) := ((Below.refl _ _).alloc (Nat.le_refl _) _).alloc (by simp) _
theorem f1g (x : Nat) (h : x < 4294967296) : x / 2147483648 = (x.testBit 31).toNat := by
 rw [Nat.toNat_testBit]; omega
theorem s0n (x : Nat) (h : x < 4294967296) : x.testBit 31 = decide (2147483648 ≤ x) := by
 have := f1g x h
 cases hb : x.testBit 31 <;> rw [hb] at this <;> simp at this <;> simp <;> omega
theorem j1u (x y c : Nat) (hx : x < 4294967296) (hy : y < 4294967296) (hc : c ≤ 1) :
 (((4294967295 ^^^ x) &&& y) ||| ((4294967295 ^^^ (x ^^^ y)) &&& subD x y c)) / 2147483648 = subB x y c := by
 have hd : subD x y c < 4294967296 := Nat.mod_lt _ (by omega)
 have h1 : ((4294967295 ^^^ x) &&& y) ||| ((4294967295 ^^^ (x ^^^ y)) &&& subD x y c) < 2 ^ 32 :=
  Nat.or_lt_two_pow (Nat.and_lt_two_pow _ (by omega)) (Nat.and_lt_two_pow _ (by omega))
 rw [f1g _ (by omega)]
 simp only [Nat.testBit_or, Nat.testBit_and, Nat.testBit_xor]
 rw [s0n x hx, s0n y hy, s0n _ hd, show Nat.testBit 4294967295 31 = true by decide]
 by_cases b1 : 2147483648 ≤ x <;> by_cases b2 : 2147483648 ≤ y <;> by_cases b3 : 2147483648 ≤ subD x y c <;> simp [b1, b2, b3, subB] <;> unfold subD at b3 <;> first | omega | (split <;> omega)
theorem owed (x y c : Nat) (hx : x < 4294967296) (hy : y < 4294967296) (hc : c ≤ 1) (d : Int) (hd : d = (subD x y c : Nat)) :
 bits .or .u32 (bits .and .u32 (bits .xor .u32 IntKind.u32.max x) y) (bits .and .u32 (bits .xor .u32 IntKind.u32.max (bits .xor .u32 x y)) d) / 2147483648 = (subB x y c : Nat) := by
 subst hd
 have hdl : subD x y c < 4294967296 := Nat.mod_lt _ (by omega)
 have e : IntKind.u32.max = ((4294967295 : Nat) : Int) := by decide
 have l1 : 4294967295 ^^^ x < 2 ^ 32 := Nat.xor_lt_two_pow (by omega) (by omega)
 have l2 : x ^^^ y < 2 ^ 32 := Nat.xor_lt_two_pow (by omega) (by omega)
 have l3 : 4294967295 ^^^ (x ^^^ y) < 2 ^ 32 := Nat.xor_lt_two_pow (by omega) (by omega)
 rw [e, u32_xor_nat _ _ (by omega) (by omega), u32_xor_nat _ _ (by omega) (by omega), u32_xor_nat _ _ (by omega) (by omega), u32_and_nat _ _ (by omega) (by omega), u32_and_nat _ _ (by omega) (by omega)]
 have l4 : (4294967295 ^^^ x) &&& y < 2 ^ 32 := Nat.and_lt_two_pow _ (by omega)
 have l5 : (4294967295 ^^^ (x ^^^ y)) &&& subD x y c < 2 ^ 32 := Nat.and_lt_two_pow _ (by omega)
 rw [u32_or_nat _ _ (by omega) (by omega), ← j1u x y c hx hy hc]
 rfl
theorem k0y (x y c : Nat) (w : World) (hx : x < 4294967296) (hy : y < 4294967296) (hc : c ≤ 1) :
 Calls Tryz.prog 165 #[.int .u32 x, .int .u32 y, .int .u32 c] w fun e w' =>
  e = .returned (.tuple #[.int .u32 (subD x y c : Nat), .int .u32 (subB x y c : Nat)]) ∧ w = w' := by
 have hd : ((x : Int) - y - c) % 4294967296 = (subD x y c : Nat) := by unfold subD; omega
 have ho := lHd (owed x y c hx hy hc _ hd)
 have hd := lHd hd
 go_enter Tryz.func165, Tryz.ntmps165
 go_wp2
 go_ret2
 refine ⟨?_, rfl⟩
 rw [← ho.out, ← hd.out]
 rfl
theorem o0q {a b : Nat} {c : Int} (h : cmpN a b = c) : Ending.returned (.int .i64 c) = .returned (.int .i64 (cmpN a b)) := by rw [h]
theorem e0a (p q : OA) (n m c d : Nat) (a b : Nat) (w : World) (hp : Rd w .u32 p (dig B32 a)) (hq : Rd w .u32 q (dig B32 b)) (hn : n = (dig B32 a).length) (hm : m = (dig B32 b).length)
 (hl : (dig B32 a).length ≤ 1000000000) (hl2 : (dig B32 b).length ≤ 1000000000) :
 Calls Tryz.prog 66 #[.slice p n c, .slice q m d] w fun e w' => e = .returned (.int .i64 (cmpN a b)) ∧ Below w.heap.size w w' := by
 subst hn hm
 by_cases hlt : (dig B32 a).length < (dig B32 b).length
 · have H := lHd (n0f (p0t a0b hlt))
   go_enter Tryz.func66, Tryz.ntmps66
   go_wp2
   go_ret
   exact ⟨o0q H.out, Below.refl _ _⟩
 · by_cases hgt : (dig B32 b).length < (dig B32 a).length
   · have H := lHd (c1x (p0t a0b hgt))
     go_enter Tryz.func66, Tryz.ntmps66
     go_wp2
     go_ret
     exact ⟨o0q H.out, Below.refl _ _⟩
   · have hle : (dig B32 b).length = (dig B32 a).length := by omega
     have HXL := lHd (c0c a0b a)
     have HYL := lHd (c0c a0b b)
     have HA := lHd (b0o a0b a)
     have HB := lHd (b0o a0b b)
     rw [hle]
     have HL := lHd hle
     have hly := Nat.le_of_eq hle.symm
     clear hlt hgt hle
     generalize dig B32 a = xs at *
     generalize dig B32 b = ys at *
     have hsx := hp.solid
     have hsy := hq.solid
     rw [HL.out] at hsy
     go_enter Tryz.func66, Tryz.ntmps66
     go_wp2
     go_loopw [5] (fun iv wr => ∃ (k : Nat), iv = .int .i64 ((k : Int) - 1) ∧ k ≤ xs.length ∧ Below w.heap.size w wr ∧ Hid (xs.drop k = ys.drop k)) (fun iv _ => (intOf iv + 1).toNat)
     case atStart => exact ⟨xs.length, rfl, Nat.le_refl _, Below.refl _ _, (show xs.drop _ = ys.drop _ by rw [List.drop_length, List.drop_of_length_le (by have := HL.out; omega)])⟩
     case round =>
      obtain ⟨k, rfl, hk, hb, HD⟩ := hrel
      by_cases h0 : 0 < k
      · obtain ⟨k, rfl⟩ : ∃ j, k = j + 1 := ⟨k - 1, by omega⟩
        have ej : ((k + 1 : Nat) : Int) - 1 = k := by omega
        rw [ej]
        have hxd := a0r (B := 4294967296) (by omega) xs HXL.out k
        have hyd := a0r (B := 4294967296) (by omega) ys HYL.out k
        have hc1 := (hp.past hb).cells k (by omega)
        have hc2 := (hq.past hb).cells k (by omega)
        have i1 : (k : Int) < (xs.length : Int) := by omega
        have i0 : (0 : Int) ≤ (k : Int) := by omega
        clear ej
        by_cases h1 : dg xs k < dg ys k
        · have H := lHd (n0f (by have := c1z xs ys HXL.out k (by omega) HL.out.symm HD.out h1; rwa [HA.out, HB.out] at this))
          go_wp2_with fail
          go_quiet (fail)
          go_wp2_with fail
          go_quiet (fail)
          go_wp2
          go_ret
          exact ⟨o0q H.out, hb.trans (below_drewN (below_drewN (Below.refl _ _) _) _)⟩
        · by_cases h2 : dg ys k < dg xs k
          · have H := lHd (c1x (by have := c1z ys xs HYL.out k (by have := HL.out; omega) HL.out HD.out.symm h2; rwa [HA.out, HB.out] at this))
            go_wp2_with fail
            go_quiet (fail)
            go_wp2_with fail
            go_quiet (fail)
            go_wp2
            go_ret
            exact ⟨o0q H.out, hb.trans (below_drewN (below_drewN (Below.refl _ _) _) _)⟩
          · have h3 : dg xs k = dg ys k := by omega
            have HE := lHd (a1h (by omega) HL.out.symm HD.out h3)
            rw [← h3] at hc2
            clear h3 h1 h2
            go_wp2_with fail
            go_quiet (fail)
            go_wp2
            go_roundw
            case rel => exact ⟨k, rfl, by omega, hb.trans (below_drewN (Below.refl _ _) _), HE⟩
            case measure => first | (simp [intOf]; done) | (simp [intOf]; omega)
      · obtain rfl : k = 0 := by omega
        have H : cmpN a b = 0 := by
         have := HD.out
         simp only [List.drop_zero] at this
         rw [← HA.out, ← HB.out, this]; exact c1y _
        have H := lHd H
        go_wp2
        go_ret
        exact ⟨o0q H.out, hb⟩
theorem x0f (x : Nat) (h : x < 2 ^ 64) : Lib.bitLen x = blen x := by
 induction x using Nat.strongRecOn with
 | _ x ih =>
  by_cases h0 : x = 0
  · subst h0; rw [t0p]; decide
  · rw [Lib.bitLen_half x h0 h, d1a x (by omega), ih (x / 2) (by omega) (by omega)]; omega
theorem u0m (x : Nat) (w : World) (h1 : x < 4294967296) :
 Calls Tryz.prog 135 #[.int .u32 x] w fun e w' => e = .returned (.int .i64 (blen x : Nat)) ∧ w = w' := by
 have h := f1f x w (by omega) (by omega)
 rw [Int.toNat_natCast, x0f x (by omega)] at h
 exact h
theorem i0d (p : OA) (n c : Nat) (a : Nat) (w : World) (hp : Rd w .u32 p (dig B32 a)) (hn : n = (dig B32 a).length) (hl : (dig B32 a).length ≤ 1000000000) :
 Calls Tryz.prog 63 #[.slice p n c] w fun e w' => e = .returned (.int .i64 (blen a : Nat)) ∧ w = w' := by
 subst hn
 by_cases h0 : 0 < a
 · obtain ⟨hb, ht⟩ := m0u (B := B32) (s := 32) (by decide) a0b a h0
   have hl0 : 0 < (dig B32 a).length := List.length_pos_iff.2 ((e0j a0b a).2.2.2 h0)
   have HB := lHd hb
   have hd := a0r (B := 4294967296) (by omega) _ (c0c a0b a) ((dig B32 a).length - 1)
   clear hb
   generalize dig B32 a = xs at *
   have hs := hp.solid
   have hc := hp.cells (xs.length - 1) (by omega)
   have hbd : blen (dg xs (xs.length - 1)) ≤ 32 := (a0w _ 32).2 (by omega)
   generalize dg xs (xs.length - 1) = d at *
   go_enter Tryz.func63, Tryz.ntmps63
   go_wp2_with (go_at_call 135; refine (u0m d _ hd).mono ?_; rintro e w1 ⟨rfl, rfl⟩)
   go_ret
   rw [HB.out]
   exact ⟨j0n (by omega), rfl⟩
 · obtain rfl : a = 0 := by omega
   rw [t0p]
   rw [a0e] at *
   go_enter Tryz.func63, Tryz.ntmps63
   go_wp2
   go_ret
   exact ⟨rfl, rfl⟩
theorem x0g (p q : OA) (n m c d : Nat) (a b : Nat) (w : World) (hp : Rd w .u32 p (dig B32 a)) (hq : Rd w .u32 q (dig B32 b)) (hn : n = (dig B32 a).length) (hm : m = (dig B32 b).length)
 (hl : (dig B32 a).length ≤ 1000000000) (hab : b ≤ a) :
 Calls Tryz.prog 173 #[.slice p n c, .slice q m d] w (f0w w .u32 139 (dig B32 (a - b))) := by
 subst hn hm
 have hge := a0l a0b hab
 have H0 := lHd (k0d.start a (dig B32 b))
 have HY := lHd (c0c a0b b)
 have HV := lHd (b0o a0b b)
 obtain ⟨xs, hxs⟩ : ∃ xs, xs = dig B32 a := ⟨_, rfl⟩
 rw [← hxs] at hp hl hge H0 ⊢
 clear hxs
 generalize dig B32 b = ys at *
 go_enter Tryz.func173, Tryz.ntmps173
 go_wp2_with (go_at_call 112; refine (h0r _ _ _ xs _ hp rfl hl).mono ?_; rintro e w1 ⟨p1, c1, rfl, ho1, hb1⟩)
 go_loopw [6, 13] (fun cv iv wr => ∃ (i cr : Nat) (L : List Nat), iv = .int .i64 i ∧ cv = .int .u32 cr ∧ i ≤ xs.length ∧ cr ≤ 1 ∧ L.length = xs.length ∧ Own wr w.heap.size .u32 139 p1 c1 L ∧ Below w.heap.size w wr ∧ Hid (k0d L ys i cr a))
  (fun _ iv _ => xs.length - (intOf iv).toNat)
 case atStart => exact ⟨0, 0, xs, rfl, rfl, Nat.zero_le _, by omega, rfl, ho1, hb1, H0⟩
 case round =>
  obtain ⟨i, cr, L, rfl, rfl, hi, hcr, hL, hoL, hbL, HR⟩ := hrel
  have hqL := hq.past hbL
  by_cases hlt : i < xs.length
  · have hc1 := hoL.rd.cells i (by omega)
    have hsL := hoL.solid
    rw [hL] at hsL
    have hLd := a0r (B := 4294967296) (by omega) L HR.out.1 i
    have hyd := a0r (B := 4294967296) (by omega) ys HY.out i
    have HS := lHd (HR.out.step (i := i) (by omega) HY.out hcr)
    by_cases hd : i < ys.length
    · have hc2 := hqL.cells i hd
      have hsq := hqL.solid
      have HC' := r0e (dg L i) (dg ys i) cr
      go_wp2_with (first
        | (go_at_call 165; refine (k0y _ _ cr _ hLd hyd hcr).mono ?_; rintro e w2 ⟨rfl, rfl⟩)
        | (refine b0a rfl _ _ _ rfl 139 b0y _ _ _ _ hoL i (by omega) _ ?_ rfl rfl ?_; omega; intro w3 ho3 hg3 hb3))
      rw [Int.toNat_natCast] at ho3
      go_roundw
      case rel => exact ⟨i + 1, subB (dg L i) (dg ys i) cr, _, by go_num, rfl, hlt, HC', by simp [hL], ho3, hbL.trans hb3, HS⟩
      case measure => simp [intOf]; omega
    · by_cases hc0 : cr = 0
      · subst hc0
        have HD := lHd (HR.out.done (by omega) HV.out hab (.inr rfl) (j0a B32 L HR.out.1))
        go_wp2_with (go_at_call 111; refine (f0e _ _ _ L _ hoL.rd hL.symm hoL.le_cap HR.out.1 (by omega)).mono ?_; rintro e w3 ⟨rfl, rfl⟩)
        go_ret
        have ht := c0d a0b L HR.out.1
        have ho2 := hoL.take (dig B32 (val B32 L)).length
        rw [ht, HD.out] at ho2
        rw [HD.out]
        exact ⟨p1, c1, rfl, ho2, hbL⟩
      · have hcp : 1 ≤ cr := by omega
        have ez : dg ys i = 0 := d0h (by omega)
        rw [ez] at HS
        have HC' := r0e (dg L i) 0 cr
        clear ez hyd hc0
        go_wp2_with (first
          | (go_at_call 165; refine (k0y _ 0 cr _ hLd (by omega) hcr).mono ?_; rintro e w2 ⟨rfl, rfl⟩)
          | (refine b0a rfl _ _ _ rfl 139 b0y _ _ _ _ hoL i (by omega) _ ?_ rfl rfl ?_; omega; intro w3 ho3 hg3 hb3))
        rw [Int.toNat_natCast] at ho3
        go_roundw
        case rel => exact ⟨i + 1, subB (dg L i) 0 cr, _, by go_num, rfl, hlt, HC', by simp [hL], ho3, hbL.trans hb3, HS⟩
        case measure => simp [intOf]; omega
  · obtain rfl : i = xs.length := by omega
    have HD := lHd (HR.out.done hge HV.out hab (.inl (by omega)) (j0a B32 L HR.out.1))
    go_wp2_with (go_at_call 111; refine (f0e _ _ _ L _ hoL.rd hL.symm hoL.le_cap HR.out.1 (by omega)).mono ?_; rintro e w3 ⟨rfl, rfl⟩)
    go_ret
    have ht := c0d a0b L HR.out.1
    have ho2 := hoL.take (dig B32 (val B32 L)).length
    rw [ht, HD.out] at ho2
    rw [HD.out]
    exact ⟨p1, c1, rfl, ho2, hbL⟩
theorem TabW.below {w w' : World} {B : Nat} (h : TabW w) (hb : Below B w w') (hB : 0 < B) : TabW w' :=
 ⟨fun j hj => by rw [Below.cell hb hB]; exact h.1 j hj, Nat.lt_of_lt_of_le h.2 hb.size⟩
theorem Box3.below {w w' : World} {B b : Nat} {v0 v1 v2 : Value} (h : Box3 w b v0 v1 v2) (hb : Below B w w') (hB : b < B) : Box3 w' b v0 v1 v2 :=
 ⟨by rw [Below.cell hb hB]; exact h.c0, by rw [Below.cell hb hB]; exact h.c1, by rw [Below.cell hb hB]; exact h.c2,
  by rw [Below.frozen hb hB]; exact h.f0, by rw [Below.frozen hb hB]; exact h.f1, by rw [Below.frozen hb hB]; exact h.f2, Nat.lt_of_lt_of_le h.lt hb.size⟩
theorem Box3.set {w : World} {b k o : Nat} {v0 v1 v2 u : Value} (h : Box3 w b v0 v1 v2) (hne : b < k) : Box3 (w.setCell ⟨k, o, none⟩ u) b v0 v1 v2 := by
 have hb : Below k w (w.setCell ⟨k, o, none⟩ u) := (Below.refl k w).setCell (p := ⟨k, o, none⟩) (Nat.le_refl _) u
 exact ⟨by rw [Below.cell hb hne]; exact h.c0, by rw [Below.cell hb hne]; exact h.c1, by rw [Below.cell hb hne]; exact h.c2,
  by rw [Below.frozen hb hne]; exact h.f0, by rw [Below.frozen hb hne]; exact h.f1, by rw [Below.frozen hb hne]; exact h.f2, Nat.lt_of_lt_of_le h.lt hb.size⟩
theorem Box3.laid {w : World} {b : Nat} {v0 v1 v2 : Value} (h : Box3 w b v0 v1 v2) (o : Obj) : Box3 (w.alloc o) b v0 v1 v2 := h.past ((Below.refl _ _).alloc (Nat.le_refl _) _)
theorem u0n {w wk : World} {base base' b : Nat} {d : Dv} {p : OA} {c : Nat} {v0 v1 v2 : Value} (hs : Below w.heap.size w wk) (ho : Own wk base' .u32 139 p c (dig B32 d.m)) (hb : base ≤ base') (hB : w.heap.size ≤ b)
 (hne : p.isSome = true → blk p ≠ b) :
 f0s w base d (.returned (.agg #[.bool d.neg, .slice p (dig B32 d.m).length c, .int .i64 d.e])) (((wk.setCell ⟨b, 0, none⟩ v0).setCell ⟨b, 1, none⟩ v1).setCell ⟨b, 2, none⟩ v2) :=
 ⟨p, c, rfl, (ho.mono hb).same (fun h => by rw [Below.heap_setCell _ _ _ _ (hne h), Below.heap_setCell _ _ _ _ (hne h), Below.heap_setCell _ _ _ _ (hne h)]), ((hs.setCell (by simp; omega) _).setCell (by simp; omega) _).setCell (by simp; omega) _⟩
theorem k0z {g : Bool} {a : Nat} {e : Int} (ha : 0 < a) : (f0a ⟨g, a, e⟩ == 0) = false := by
 unfold f0a
 rw [if_neg (by simp; omega)]
 cases g
 · rfl
 · rfl
theorem u0o (g h : Bool) (p q : OA) (c d base : Nat) (e f : Int) (a b : Nat) (w : World) (hp : Own w base .u32 139 p c (dig B32 a)) (hq : Own w base .u32 139 q d (dig B32 b))
 (hl : (dig B32 a).length ≤ 1000000) (hl2 : (dig B32 b).length ≤ 1000000) (he : -1000000 ≤ e ∧ e ≤ 1000000) (hf : -1000000 ≤ f ∧ f ≤ 1000000) (ha : 0 < a) (hb : 0 < b) (hT : TabW w) :
 Calls Tryz.prog 126 #[.agg #[.bool g, .slice p (dig B32 a).length c, .int .i64 e], .agg #[.bool h, .slice q (dig B32 b).length d, .int .i64 f]] w (f0s w w.heap.size (k0h ⟨g, a, e⟩ ⟨h, b, f⟩)) := by
 obtain ⟨W1, hW1⟩ : ∃ W1, W1 = ((w.alloc (.cells #[.bool g, .slice p (dig B32 a).length c, .int .i64 e] 129)).alloc (.cells #[.bool h, .slice q (dig B32 b).length d, .int .i64 f] 129)).alloc (.cells #[.bool false, .slice none 0 0, .int .i64 0] 129) := ⟨_, rfl⟩
 have hs1 : Below w.heap.size w W1 := by rw [hW1]; exact (m0x _ _ _).alloc (by simp; omega) _
 have A1 : Box3 W1 w.heap.size (.bool g) (.slice p (dig B32 a).length c) (.int .i64 e) := by
  rw [hW1]; exact ((c0r w _ _ _ _).past ((Below.refl _ _).alloc (Nat.le_refl _) _)).past ((Below.refl _ _).alloc (Nat.le_refl _) _)
 have B1 : Box3 W1 (w.heap.size + 1) (.bool h) (.slice q (dig B32 b).length d) (.int .i64 f) := by
  have := (c0r (w.alloc (.cells #[.bool g, .slice p (dig B32 a).length c, .int .i64 e] 129)) (.bool h) (.slice q (dig B32 b).length d) (.int .i64 f) 129).past ((Below.refl _ _).alloc (Nat.le_refl _) (.cells #[.bool false, .slice none 0 0, .int .i64 0] 129))
  rw [hW1]; simpa using this
 have R1 : Box3 W1 (w.heap.size + 1 + 1) (.bool false) (.slice none 0 0) (.int .i64 0) := by
  have := c0r ((w.alloc (.cells #[.bool g, .slice p (dig B32 a).length c, .int .i64 e] 129)).alloc (.cells #[.bool h, .slice q (dig B32 b).length d, .int .i64 f] 129)) (.bool false) (.slice none 0 0) (.int .i64 0) 129
  rw [hW1]; simpa using this
 have hpW := hp.rd.past hs1
 have hqW := hq.rd.past hs1
 have hTW := hT.past hs1
 have hsa := k0z (g := g) (e := e) ha
 have hsb := k0z (g := h) (e := f) hb
 have HW1 := lHd hW1
 clear hW1
 go_enter Tryz.func126, Tryz.ntmps126
 go_wp2_with fail
 rw [← HW1.out]
 ((with_reducible refine (d0o g p _ c e a _ rfl).mono ?_))
 rintro e2 w2 ⟨rfl, hb2⟩
 generalize f0a ⟨g, a, e⟩ = sa at *
 have hs2 := hs1.trans (hb2.mono hs1.size)
 have A2 := A1.past hb2
 have B2 := B1.past hb2
 have R2 := R1.past hb2
 have hpW := hpW.past hb2
 have hqW := hqW.past hb2
 have hTW := hTW.past hb2
 clear hb2 A1 B1 R1 hs1
 have b0 := B2.c0
 have b1 := B2.c1
 have b2 := B2.c2
 go_wp2_with fail
 ((with_reducible refine (d0o h q _ d f b _ rfl).mono ?_))
 rintro e3 w3 ⟨rfl, hb3⟩
 generalize f0a ⟨h, b, f⟩ = sb at *
 have hs3 := hs2.trans (hb3.mono hs2.size)
 have A3 := A2.past hb3
 have B3 := B2.past hb3
 have R3 := R2.past hb3
 have hpW := hpW.past hb3
 have hqW := hqW.past hb3
 have hTW := hTW.past hb3
 clear hb3 A2 B2 R2 hs2 b0 b1 b2 HW1
 have a2 := A3.c2
 have b2 := B3.c2
 go_wp2_with fail
 clear a2 b2
 have hk1 : min e f ≤ e := by omega
 have hk2 : min e f ≤ f := by omega
 have hk3 : -1000000 ≤ min e f := by omega
 have HP := lHd (show k0h ⟨g, a, e⟩ ⟨h, b, f⟩ = bare (i0w g h (a * 2 ^ (e - min e f).toNat) (b * 2 ^ (f - min e f).toNat) (min e f)) by
   unfold k0h; rw [if_neg (by simp; omega), if_neg (by simp; omega)])
 generalize min e f = k at *
 obtain ⟨N1, hN1⟩ : ∃ N1, N1 = (e - k).toNat := ⟨_, rfl⟩
 obtain ⟨N2, hN2⟩ : ∃ N2, N2 = (f - k).toNat := ⟨_, rfl⟩
 rw [← hN1, ← hN2] at HP
 have n1 : N1 ≤ 2000000 := by omega
 have n2 : N2 ≤ 2000000 := by omega
 have e1 : IntKind.i64.wrap (e - k) = (N1 : Int) := by rw [iwo]; omega
 have e2 : IntKind.i64.wrap (f - k) = (N2 : Int) := by rw [iwo]; omega
 clear hN1 hN2
 go_cut [6, 7] (fun s6 s7 wx => ∃ (px : OA) (cx : Nat) (py : OA) (cy : Nat), s6 = .slice px (dig B32 (a * 2 ^ N1)).length cx ∧ s7 = .slice py (dig B32 (b * 2 ^ N2)).length cy ∧
   Own wx w3.heap.size .u32 139 px cx (dig B32 (a * 2 ^ N1)) ∧ Own wx w3.heap.size .u32 139 py cy (dig B32 (b * 2 ^ N2)) ∧ Below w3.heap.size w3 wx)
 case first =>
  go_region_held3 (fun w' => (w'.cell? ⟨w.heap.size, 1, none⟩ = some (.slice p (dig B32 a).length c) ∧ w'.cell? ⟨w.heap.size, 2, none⟩ = some (.int .i64 e)) ∧
      (w'.cell? ⟨w.heap.size + 1, 1, none⟩ = some (.slice q (dig B32 b).length d) ∧ w'.cell? ⟨w.heap.size + 1, 2, none⟩ = some (.int .i64 f)))
   (first | exact ⟨⟨A3.c1, A3.c2⟩, B3.c1, B3.c2⟩
          | (have D1 := A3.drew; have D2 := B3.drew; exact ⟨⟨D1.c1, D1.c2⟩, D2.c1, D2.c2⟩)
          | (have D1 := (A3.drew.past hbx).past hby; have D2 := (B3.drew.past hbx).past hby; exact ⟨⟨D1.c1, D1.c2⟩, D2.c1, D2.c2⟩)
          | (have D1 := (A3.drew.past hby).past hbx; have D2 := (B3.drew.past hby).past hbx; exact ⟨⟨D1.c1, D1.c2⟩, D2.c1, D2.c2⟩)
          | (have D1 := A3.drew.past hbx; have D2 := B3.drew.past hbx; exact ⟨⟨D1.c1, D1.c2⟩, D2.c1, D2.c2⟩)
          | (have D1 := A3.drew.past hby; have D2 := B3.drew.past hby; exact ⟨⟨D1.c1, D1.c2⟩, D2.c1, D2.c2⟩))
   (first
     | (go_at_call_of 67 (Value.slice p (dig B32 a).length c); refine (i0c p _ c a N1 _ ?_ rfl (by clear e1 e2; omega) (by clear e1 e2; omega)).mono ?_; (first | exact hpW.drew | exact hpW.drew.past hby); rintro ex wx ⟨px, cx, rfl, hox, hbx⟩)
     | (go_at_call_of 67 (Value.slice q (dig B32 b).length d); refine (i0c q _ d b N2 _ ?_ rfl (by clear e1 e2; omega) (by clear e1 e2; omega)).mono ?_; (first | exact hqW.drew | exact hqW.drew.past hbx); rintro ey wy ⟨py, cy, rfl, hoy, hby⟩))
  all_goals (clear e1 e2)
  all_goals (go_wp2_with fail)
  all_goals go_meet
  all_goals (first
    | exact ⟨px, cx, py, cy, rfl, rfl, hox.past hby, hoy.mono hbx.size, ((Below.refl _ _).drew.trans hbx).trans (hby.mono hbx.size)⟩
    | exact ⟨px, cx, py, cy, rfl, rfl, hox.mono hby.size, hoy.past hbx, ((Below.refl _ _).drew.trans hby).trans (hbx.mono hby.size)⟩)
 case rest =>
  obtain ⟨px, cx, py, cy, rfl, rfl, hox, hoy, hb4⟩ := hcut
  clear e1 e2
  have lX : (dig B32 (a * 2 ^ N1)).length ≤ 2000000 := by have := o0c a N1; omega
  have lY : (dig B32 (b * 2 ^ N2)).length ≤ 2000000 := by have := o0c b N2; omega
  generalize a * 2 ^ N1 = x at *
  generalize b * 2 ^ N2 = y at *
  have hs4 := hs3.trans (hb4.mono hs3.size)
  have A4 := A3.past hb4
  have B4 := B3.past hb4
  have R4 := R3.past hb4
  have hTW := hTW.past hb4
  have O5 := c0r wc (.bool g) (.slice none 0 0) (.int .i64 k) 127
  have hb5 : Below wc.heap.size wc (wc.alloc (.cells #[.bool g, .slice none 0 0, .int .i64 k] 127)) := (Below.refl _ _).alloc (Nat.le_refl _) _
  have A5 := A4.past hb5
  have B5 := B4.past hb5
  have R5 := R4.past hb5
  have hTW := hTW.past hb5
  have hox := hox.past hb5
  have hoy := hoy.past hb5
  have hs5 := hs4.trans (hb5.mono hs4.size)
  have a0 := A4.c0
  have a0' := A5.c0
  have b0' := B5.c0
  by_cases hgh : g = h
  · subst hgh
    have HJ := lHd (HP.out.trans (congrArg bare (show i0w g g x y k = ⟨g, x + y, k⟩ by unfold i0w; rw [if_pos rfl])))
    have hgg : (g == g) = true := by simp
    go_wp2_with fail
    ((with_reducible refine (w0e px py _ _ cx cy x y _ hox.rd hoy.rd rfl rfl (by omega) (by omega)).mono ?_))
    have lm : (dig B32 (x + y)).length ≤ 5000000 := by have := f0m a0b x y; omega
    generalize x + y = m at *
    rintro e6 w6 ⟨p6, c6, rfl, ho6, hb6⟩
    have O6 := O5.past hb6
    have R6 := R5.past hb6
    have hTW6 := hTW.past hb6
    have hs6 := hs5.trans (hb6.mono hs5.size)
    have hzc := R4.lt
    have hol := O5.lt
    obtain ⟨o0, o1, o2, f0, f1, f2, olt⟩ := O6
    have hne6 : 0 < (dig B32 m).length → blk p6 ≠ wc.heap.size := fun h0 => by
     have := (ho6.blk_lt (ho6.rd.solid h0).1).1
     omega
    clear a0 a0' b0'
    go_wp2_with fail
    have hbS : Below wc.heap.size w6 (w6.setCell ⟨wc.heap.size, 1, none⟩ (.slice p6 (dig B32 m).length c6)) := (Below.refl _ _).setCell (by simp) _
    have hr7 : Rd (w6.setCell ⟨wc.heap.size, 1, none⟩ (.slice p6 (dig B32 m).length c6)) .u32 p6 (dig B32 m) := ho6.rd.same fun h0 => Below.heap_setCell _ _ _ _ (hne6 h0)
    have hT7 := hTW6.below hbS (by omega)
    have R7 := R6.below hbS (by omega)
    have hs7 := hs6.trans (hbS.mono (by omega))
    ((with_reducible refine (f0t g p6 _ c6 k m _ hr7 rfl ho6.le_cap (by omega) ⟨by omega, by omega⟩ hT7).mono ?_))
    generalize bare ⟨g, m, k⟩ = rr at *
    rintro e8 w8 ⟨p8, c8, rfl, ho8, hb8⟩
    obtain ⟨d0, d1, d2, f0', f1', f2', dlt⟩ := R7.past hb8
    have hsz7 : w.heap.size + 1 + 1 < (w6.setCell ⟨wc.heap.size, 1, none⟩ (.slice p6 (dig B32 m).length c6)).heap.size := R7.lt
    go_wp2_with fail
    refine bodyPost_ret (v := .agg #[.bool rr.neg, .slice p8 (dig B32 rr.m).length c8, .int .i64 rr.e]) (by simp [results, Tryz.results126, go_sem, d0, d1, d2]) rfl ?_
    rw [HJ.out]
    have hs8 := hs7.trans (hb8.mono hs7.size)
    refine ⟨p8, c8, rfl, (ho8.mono hs7.size).same (fun h => ?_), ((hs8.setCell (by simp; omega) _).setCell (by simp; omega) _).setCell (by simp; omega) _⟩
    have hk := (ho8.blk_lt h).1
    have hne : blk p8 ≠ w.heap.size + 1 + 1 := by omega
    rw [Below.heap_setCell _ _ _ _ hne, Below.heap_setCell _ _ _ _ hne, Below.heap_setCell _ _ _ _ hne]
  · by_cases hxy : y ≤ x
    · have HJ := lHd (HP.out.trans (congrArg bare (show i0w g h x y k = ⟨g, x - y, k⟩ by unfold i0w; rw [if_neg hgh, if_pos hxy])))
      have hgg : (g == h) = false := by simpa using hgh
      have hC : 0 ≤ cmpN x y := by unfold cmpN; rw [if_neg (by omega)]; split <;> omega
      have HXY := lHd hxy
      clear hxy
      go_wp2_with fail
      ((with_reducible refine (e0a px py _ _ cx cy x y _ hox.rd hoy.rd rfl rfl (by omega) (by omega)).mono ?_))
      rintro e9 w9 ⟨rfl, hb9⟩
      have O5 := O5.past hb9
      have A5 := A5.past hb9
      have B5 := B5.past hb9
      have R5 := R5.past hb9
      have hTW := hTW.past hb9
      have hox := hox.past hb9
      have hoy := hoy.past hb9
      have hs5 := hs5.trans (hb9.mono hs5.size)
      have hz9 := hb9.size
      clear hb9
      go_wp2_with fail
      ((with_reducible refine (x0g px py _ _ cx cy x y _ hox.rd hoy.rd rfl rfl (by omega) HXY.out).mono ?_))
      have lm : (dig B32 (x - y)).length ≤ 5000000 := by have := a0l a0b (Nat.sub_le x y); omega
      generalize x - y = m at *
      rintro e6 w6 ⟨p6, c6, rfl, ho6, hb6⟩
      have O6 := O5.past hb6
      have R6 := R5.past hb6
      have hTW6 := hTW.past hb6
      have hs6 := hs5.trans (hb6.mono hs5.size)
      have hzc := R4.lt
      have hol := O5.lt
      obtain ⟨o0, o1, o2, f0, f1, f2, olt⟩ := O6
      have hne6 : 0 < (dig B32 m).length → blk p6 ≠ wc.heap.size := fun h0 => by
       have := (ho6.blk_lt (ho6.rd.solid h0).1).1
       omega
      clear a0 a0' b0'
      go_wp2_with fail
      have hbS : Below wc.heap.size w6 (w6.setCell ⟨wc.heap.size, 1, none⟩ (.slice p6 (dig B32 m).length c6)) := (Below.refl _ _).setCell (by simp) _
      have hr7 : Rd (w6.setCell ⟨wc.heap.size, 1, none⟩ (.slice p6 (dig B32 m).length c6)) .u32 p6 (dig B32 m) := ho6.rd.same fun h0 => Below.heap_setCell _ _ _ _ (hne6 h0)
      have hT7 := hTW6.below hbS (by omega)
      have R7 := R6.below hbS (by omega)
      have hs7 := hs6.trans (hbS.mono (by omega))
      ((with_reducible refine (f0t g p6 _ c6 k m _ hr7 rfl ho6.le_cap (by omega) ⟨by omega, by omega⟩ hT7).mono ?_))
      generalize bare ⟨g, m, k⟩ = rr at *
      rintro e8 w8 ⟨p8, c8, rfl, ho8, hb8⟩
      obtain ⟨d0, d1, d2, f0', f1', f2', dlt⟩ := R7.past hb8
      have hsz7 : w.heap.size + 1 + 1 < (w6.setCell ⟨wc.heap.size, 1, none⟩ (.slice p6 (dig B32 m).length c6)).heap.size := R7.lt
      go_wp2_with fail
      refine bodyPost_ret (v := .agg #[.bool rr.neg, .slice p8 (dig B32 rr.m).length c8, .int .i64 rr.e]) (by simp [results, Tryz.results126, go_sem, d0, d1, d2]) rfl ?_
      rw [HJ.out]
      have hs8 := hs7.trans (hb8.mono hs7.size)
      refine ⟨p8, c8, rfl, (ho8.mono hs7.size).same (fun h => ?_), ((hs8.setCell (by simp; omega) _).setCell (by simp; omega) _).setCell (by simp; omega) _⟩
      have hk := (ho8.blk_lt h).1
      have hne : blk p8 ≠ w.heap.size + 1 + 1 := by omega
      rw [Below.heap_setCell _ _ _ _ hne, Below.heap_setCell _ _ _ _ hne, Below.heap_setCell _ _ _ _ hne]
    · obtain ⟨m, hm⟩ : ∃ m, y - x = m := ⟨_, rfl⟩
      have HJ := lHd (HP.out.trans (congrArg bare (show i0w g h x y k = ⟨h, m, k⟩ by unfold i0w; rw [if_neg hgh, if_neg hxy, hm])))
      have hgg : (g == h) = false := by simpa using hgh
      have hC : cmpN x y ≤ -1 := by rw [n0f (by omega)]; omega
      have HXY := lHd (show x ≤ y by omega)
      have HM := lHd hm
      have lm : (dig B32 m).length ≤ 5000000 := by rw [← hm]; have := a0l a0b (Nat.sub_le y x); omega
      clear hxy hm
      go_wp2_with fail
      ((with_reducible refine (e0a px py _ _ cx cy x y _ hox.rd hoy.rd rfl rfl (by omega) (by omega)).mono ?_))
      rintro e9 w9 ⟨rfl, hb9⟩
      have O5 := O5.past hb9
      have A5 := A5.past hb9
      have B5 := B5.past hb9
      have R5 := R5.past hb9
      have hTW := hTW.past hb9
      have hox := hox.past hb9
      have hoy := hoy.past hb9
      have hs5 := hs5.trans (hb9.mono hs5.size)
      have hz9 := hb9.size
      clear hb9 a0 a0' b0'
      have hzB := B4.lt
      go_wp2_with fail
      go_region_held3 (fun w' => w'.cell? ⟨w.heap.size + 1, 0, none⟩ = some (.bool h))
       (first | exact B5.c0 | exact B5.drew.c0 | exact (B5.drew.past hb6).c0 | exact ((B5.drew.past hb6).set hzB).c0 | exact (((B5.drew.past hb6).set hzB).set hzB).c0)
       (first | (go_at_call 173; refine (x0g py px _ _ cy cx y x _ hoy.rd.drew hox.rd.drew rfl rfl (by omega) HXY.out).mono ?_; rw [HM.out]; rintro e6 w6 ⟨p6, c6, rfl, ho6, hb6⟩; obtain ⟨o0, o1, o2, f0, f1, f2, olt⟩ := O5.drew.past hb6))
      all_goals (go_wp2_with fail)
      have R6 := R5.drew.past hb6
      have hTW6 := hTW.drew.past hb6
      have hs6 := hs5.drew.trans (hb6.mono hs5.size)
      have hzc := R4.lt
      have hol := O5.lt
      have hne6 : 0 < (dig B32 m).length → blk p6 ≠ wc.heap.size := fun h0 => by
       have := (ho6.blk_lt (ho6.rd.solid h0).1).1
       have : w9.drew.heap.size = w9.heap.size := rfl
       omega
      have hbS : Below wc.heap.size w6 ((w6.setCell ⟨wc.heap.size, 0, none⟩ (.bool h)).setCell ⟨wc.heap.size, 1, none⟩ (.slice p6 (dig B32 m).length c6)) := ((Below.refl _ _).setCell (by simp) _).setCell (by simp) _
      have hr7 : Rd ((w6.setCell ⟨wc.heap.size, 0, none⟩ (.bool h)).setCell ⟨wc.heap.size, 1, none⟩ (.slice p6 (dig B32 m).length c6)) .u32 p6 (dig B32 m) := ho6.rd.same fun h0 => by rw [Below.heap_setCell _ _ _ _ (hne6 h0), Below.heap_setCell _ _ _ _ (hne6 h0)]
      have hT7 := hTW6.below hbS (by omega)
      have R7 := R6.below hbS (by omega)
      have hs7 := hs6.trans (hbS.mono (by omega))
      ((with_reducible refine (f0t h p6 _ c6 k m _ hr7 rfl ho6.le_cap (by omega) ⟨by omega, by omega⟩ hT7).mono ?_))
      generalize bare ⟨h, m, k⟩ = rr at *
      rintro e8 w8 ⟨p8, c8, rfl, ho8, hb8⟩
      obtain ⟨d0, d1, d2, f0', f1', f2', dlt⟩ := R7.past hb8
      have hsz7 : w.heap.size + 1 + 1 < ((w6.setCell ⟨wc.heap.size, 0, none⟩ (.bool h)).setCell ⟨wc.heap.size, 1, none⟩ (.slice p6 (dig B32 m).length c6)).heap.size := R7.lt
      go_wp2_with fail
      refine bodyPost_ret (v := .agg #[.bool rr.neg, .slice p8 (dig B32 rr.m).length c8, .int .i64 rr.e]) (by simp [results, Tryz.results126, go_sem, d0, d1, d2]) rfl ?_
      rw [HJ.out]
      have hs8 := hs7.trans (hb8.mono hs7.size)
      refine ⟨p8, c8, rfl, (ho8.mono hs7.size).same (fun h => ?_), ((hs8.setCell (by simp; omega) _).setCell (by simp; omega) _).setCell (by simp; omega) _⟩
      have hk := (ho8.blk_lt h).1
      have hne : blk p8 ≠ w.heap.size + 1 + 1 := by omega
      rw [Below.heap_setCell _ _ _ _ hne, Below.heap_setCell _ _ _ _ hne, Below.heap_setCell _ _ _ _ hne]
theorem f1h (g h : Bool) (p q : OA) (c d base : Nat) (e f : Int) (b : Nat) (w : World) (hq : Own w base .u32 139 q d (dig B32 b)) (_hbase : base ≤ w.heap.size) :
 Calls Tryz.prog 126 #[.agg #[.bool g, .slice p 0 c, .int .i64 e], .agg #[.bool h, .slice q (dig B32 b).length d, .int .i64 f]] w (f0s w base ⟨h, b, f⟩) := by
 obtain ⟨W1, hW1⟩ : ∃ W1, W1 = ((w.alloc (.cells #[.bool g, .slice p 0 c, .int .i64 e] 129)).alloc (.cells #[.bool h, .slice q (dig B32 b).length d, .int .i64 f] 129)).alloc (.cells #[.bool false, .slice none 0 0, .int .i64 0] 129) := ⟨_, rfl⟩
 have hs1 : Below w.heap.size w W1 := by rw [hW1]; exact (m0x _ _ _).alloc (by simp; omega) _
 have A1 : Box3 W1 w.heap.size (.bool g) (.slice p 0 c) (.int .i64 e) := by
  rw [hW1]; exact ((c0r w _ _ _ _).past ((Below.refl _ _).alloc (Nat.le_refl _) _)).past ((Below.refl _ _).alloc (Nat.le_refl _) _)
 have B1 : Box3 W1 (w.heap.size + 1) (.bool h) (.slice q (dig B32 b).length d) (.int .i64 f) := by
  have := (c0r (w.alloc (.cells #[.bool g, .slice p 0 c, .int .i64 e] 129)) (.bool h) (.slice q (dig B32 b).length d) (.int .i64 f) 129).past ((Below.refl _ _).alloc (Nat.le_refl _) (.cells #[.bool false, .slice none 0 0, .int .i64 0] 129))
  rw [hW1]; simpa using this
 have R1 : Box3 W1 (w.heap.size + 1 + 1) (.bool false) (.slice none 0 0) (.int .i64 0) := by
  have := c0r ((w.alloc (.cells #[.bool g, .slice p 0 c, .int .i64 e] 129)).alloc (.cells #[.bool h, .slice q (dig B32 b).length d, .int .i64 f] 129)) (.bool false) (.slice none 0 0) (.int .i64 0) 129
  rw [hW1]; simpa using this
 have HW1 := lHd hW1
 clear hW1
 have hqW := hq.past hs1
 have hsa : f0a ⟨g, 0, e⟩ = 0 := rfl
 have HS := lHd hsa
 clear hsa
 go_enter Tryz.func126, Tryz.ntmps126
 go_wp2_with fail
 rw [← HW1.out]
 ((with_reducible refine (d0o g p _ c e 0 _ (by simp [a0e])).mono ?_))
 rintro e2 w2 ⟨rfl, hb2⟩
 rw [HS.out]
 have hs2 := hs1.trans (hb2.mono hs1.size)
 obtain ⟨b0, b1, b2, _, _, _, _⟩ := B1.past hb2
 obtain ⟨d0, d1, d2, f0, f1, f2, dlt⟩ := R1.past hb2
 have hqW := hqW.past hb2
 clear hb2 HW1
 go_wp2_with fail
 refine bodyPost_ret (v := .agg #[.bool h, .slice q (dig B32 b).length d, .int .i64 f]) (by simp [results, Tryz.results126, go_sem, d0, d1, d2]) rfl ?_
 refine ⟨q, d, rfl, hqW.same (fun hh => ?_), ((hs2.setCell (by simp; omega) _).setCell (by simp; omega) _).setCell (by simp; omega) _⟩
 have hk := (hq.blk_lt hh).2
 have hne : blk q ≠ w.heap.size + 1 + 1 := by omega
 rw [Below.heap_setCell _ _ _ _ hne, Below.heap_setCell _ _ _ _ hne, Below.heap_setCell _ _ _ _ hne]
theorem b1l (g h : Bool) (p q : OA) (c d base : Nat) (e f : Int) (a : Nat) (w : World) (hp : Own w base .u32 139 p c (dig B32 a)) (ha : 0 < a) (_hbase : base ≤ w.heap.size) :
 Calls Tryz.prog 126 #[.agg #[.bool g, .slice p (dig B32 a).length c, .int .i64 e], .agg #[.bool h, .slice q 0 d, .int .i64 f]] w (f0s w base ⟨g, a, e⟩) := by
 obtain ⟨W1, hW1⟩ : ∃ W1, W1 = ((w.alloc (.cells #[.bool g, .slice p (dig B32 a).length c, .int .i64 e] 129)).alloc (.cells #[.bool h, .slice q 0 d, .int .i64 f] 129)).alloc (.cells #[.bool false, .slice none 0 0, .int .i64 0] 129) := ⟨_, rfl⟩
 have hs1 : Below w.heap.size w W1 := by rw [hW1]; exact (m0x _ _ _).alloc (by simp; omega) _
 have A1 : Box3 W1 w.heap.size (.bool g) (.slice p (dig B32 a).length c) (.int .i64 e) := by
  rw [hW1]; exact ((c0r w _ _ _ _).past ((Below.refl _ _).alloc (Nat.le_refl _) _)).past ((Below.refl _ _).alloc (Nat.le_refl _) _)
 have B1 : Box3 W1 (w.heap.size + 1) (.bool h) (.slice q 0 d) (.int .i64 f) := by
  have := (c0r (w.alloc (.cells #[.bool g, .slice p (dig B32 a).length c, .int .i64 e] 129)) (.bool h) (.slice q 0 d) (.int .i64 f) 129).past ((Below.refl _ _).alloc (Nat.le_refl _) (.cells #[.bool false, .slice none 0 0, .int .i64 0] 129))
  rw [hW1]; simpa using this
 have R1 : Box3 W1 (w.heap.size + 1 + 1) (.bool false) (.slice none 0 0) (.int .i64 0) := by
  have := c0r ((w.alloc (.cells #[.bool g, .slice p (dig B32 a).length c, .int .i64 e] 129)).alloc (.cells #[.bool h, .slice q 0 d, .int .i64 f] 129)) (.bool false) (.slice none 0 0) (.int .i64 0) 129
  rw [hW1]; simpa using this
 have HW1 := lHd hW1
 clear hW1
 have hpW := hp.past hs1
 have hsa := k0z (g := g) (e := e) ha
 have HS := lHd (show f0a ⟨h, 0, f⟩ = 0 from rfl)
 go_enter Tryz.func126, Tryz.ntmps126
 go_wp2_with fail
 rw [← HW1.out]
 ((with_reducible refine (d0o g p _ c e a _ rfl).mono ?_))
 rintro e2 w2 ⟨rfl, hb2⟩
 generalize f0a ⟨g, a, e⟩ = sa at *
 have hs2 := hs1.trans (hb2.mono hs1.size)
 have A2 := A1.past hb2
 have B2 := B1.past hb2
 have R2 := R1.past hb2
 have hpW := hpW.past hb2
 obtain ⟨b0, b1, b2, _, _, _, _⟩ := B2
 clear hb2 HW1
 go_wp2_with fail
 ((with_reducible refine (d0o h q _ d f 0 _ (by simp [a0e])).mono ?_))
 rintro e3 w3 ⟨rfl, hb3⟩
 rw [HS.out]
 have hs3 := hs2.trans (hb3.mono hs2.size)
 obtain ⟨a0, a1, a2, _, _, _, _⟩ := A2.past hb3
 obtain ⟨d0, d1, d2, f0, f1, f2, dlt⟩ := R2.past hb3
 have hpW := hpW.past hb3
 clear hb3 b0 b1 b2
 go_wp2_with fail
 refine bodyPost_ret (v := .agg #[.bool g, .slice p (dig B32 a).length c, .int .i64 e]) (by simp [results, Tryz.results126, go_sem, d0, d1, d2]) rfl ?_
 refine ⟨p, c, rfl, hpW.same (fun hh => ?_), ((hs3.setCell (by simp; omega) _).setCell (by simp; omega) _).setCell (by simp; omega) _⟩
 have hk := (hp.blk_lt hh).2
 have hne : blk p ≠ w.heap.size + 1 + 1 := by omega
 rw [Below.heap_setCell _ _ _ _ hne, Below.heap_setCell _ _ _ _ hne, Below.heap_setCell _ _ _ _ hne]
theorem f1i (g h : Bool) (p q : OA) (n c m d base : Nat) (e f : Int) (a b : Nat) (w : World) (hp : Own w base .u32 139 p c (dig B32 a)) (hq : Own w base .u32 139 q d (dig B32 b)) (hn : n = (dig B32 a).length) (hm : m = (dig B32 b).length)
 (hl : (dig B32 a).length ≤ 1000000) (hl2 : (dig B32 b).length ≤ 1000000) (he : -1000000 ≤ e ∧ e ≤ 1000000) (hf : -1000000 ≤ f ∧ f ≤ 1000000) (hT : TabW w) (hbase : base ≤ w.heap.size) :
 Calls Tryz.prog 126 #[.agg #[.bool g, .slice p n c, .int .i64 e], .agg #[.bool h, .slice q m d, .int .i64 f]] w (f0s w base (k0h ⟨g, a, e⟩ ⟨h, b, f⟩)) := by
 subst hn hm
 by_cases ha : a = 0
 · subst ha
   have hE : k0h ⟨g, 0, e⟩ ⟨h, b, f⟩ = ⟨h, b, f⟩ := by unfold k0h; rw [if_pos rfl]
   rw [hE, a0e]
   exact f1h g h p q c d base e f b w hq hbase
 · by_cases hb : b = 0
   · subst hb
     have hE : k0h ⟨g, a, e⟩ ⟨h, 0, f⟩ = ⟨g, a, e⟩ := by unfold k0h; rw [if_neg ha, if_pos rfl]
     rw [hE, a0e]
     exact b1l g h p q c d base e f a w hp (by omega) hbase
   · refine (u0o g h p q c d base e f a b w hp hq hl hl2 he hf (by omega) (by omega) hT).mono ?_
     rintro en w' ⟨p', c', h1, h2, h3⟩
     exact ⟨p', c', h1, h2.mono hbase, h3⟩
theorem b1m (g h : Bool) (p q : OA) (n c m d base : Nat) (e f : Int) (a b : Nat) (w : World) (hp : Own w base .u32 139 p c (dig B32 a)) (hq : Own w base .u32 139 q d (dig B32 b)) (hn : n = (dig B32 a).length) (hm : m = (dig B32 b).length)
 (hl : (dig B32 a).length ≤ 1000000) (hl2 : (dig B32 b).length ≤ 1000000) (he : -1000000 ≤ e ∧ e ≤ 1000000) (hf : -1000000 ≤ f ∧ f ≤ 1000000) (hT : TabW w) :
 Calls Tryz.prog 178 #[.agg #[.bool g, .slice p n c, .int .i64 e], .agg #[.bool h, .slice q m d, .int .i64 f]] w (f0s w w.heap.size (j0d ⟨g, a, e⟩ ⟨h, b, f⟩)) := by
 subst hn hm
 obtain ⟨W1, hW1⟩ : ∃ W1, W1 = ((w.alloc (.cells #[.bool g, .slice p (dig B32 a).length c, .int .i64 e] 129)).alloc (.cells #[.bool h, .slice q (dig B32 b).length d, .int .i64 f] 129)).alloc (.cells #[.bool false, .slice none 0 0, .int .i64 0] 129) := ⟨_, rfl⟩
 have hs1 : Below w.heap.size w W1 := by rw [hW1]; exact (m0x _ _ _).alloc (by simp; omega) _
 have A1 : Box3 W1 w.heap.size (.bool g) (.slice p (dig B32 a).length c) (.int .i64 e) := by
  rw [hW1]; exact ((c0r w _ _ _ _).past ((Below.refl _ _).alloc (Nat.le_refl _) _)).past ((Below.refl _ _).alloc (Nat.le_refl _) _)
 have B1 : Box3 W1 (w.heap.size + 1) (.bool h) (.slice q (dig B32 b).length d) (.int .i64 f) := by
  have := (c0r (w.alloc (.cells #[.bool g, .slice p (dig B32 a).length c, .int .i64 e] 129)) (.bool h) (.slice q (dig B32 b).length d) (.int .i64 f) 129).past ((Below.refl _ _).alloc (Nat.le_refl _) (.cells #[.bool false, .slice none 0 0, .int .i64 0] 129))
  rw [hW1]; simpa using this
 have R1 : Box3 W1 (w.heap.size + 1 + 1) (.bool false) (.slice none 0 0) (.int .i64 0) := by
  have := c0r ((w.alloc (.cells #[.bool g, .slice p (dig B32 a).length c, .int .i64 e] 129)).alloc (.cells #[.bool h, .slice q (dig B32 b).length d, .int .i64 f] 129)) (.bool false) (.slice none 0 0) (.int .i64 0) 129
  rw [hW1]; simpa using this
 have hpW := hp.rd.past hs1
 have hqW := hq.rd.past hs1
 have hTW := hT.past hs1
 have HW1 := lHd hW1
 clear hW1
 obtain ⟨m, hm⟩ : ∃ m, a * b = m := ⟨_, rfl⟩
 have HM := lHd hm
 have HJ := lHd (show j0d ⟨g, a, e⟩ ⟨h, b, f⟩ = bare ⟨!(g == h), m, e + f⟩ by rw [← hm]; unfold j0d; cases g <;> cases h <;> rfl)
 have lm : (dig B32 m).length ≤ 5000000 := by rw [← hm]; have := b0l a0b a b; omega
 have e1 : IntKind.i64.wrap (e + f) = e + f := iwo
 have hzR := R1.lt
 have hr3 : -1000000000 ≤ e + f ∧ e + f ≤ 1000000000 := ⟨by omega, by omega⟩
 clear hm
 go_enter Tryz.func178, Tryz.ntmps178
 go_wp2_with fail
 rw [← HW1.out]
 clear HW1
 go_region_held3 (fun w' => (w'.cell? ⟨w.heap.size, 0, none⟩ = some (.bool g) ∧ w'.cell? ⟨w.heap.size, 1, none⟩ = some (.slice p (dig B32 a).length c) ∧ w'.cell? ⟨w.heap.size, 2, none⟩ = some (.int .i64 e)) ∧
     (w'.cell? ⟨w.heap.size + 1, 0, none⟩ = some (.bool h) ∧ w'.cell? ⟨w.heap.size + 1, 1, none⟩ = some (.slice q (dig B32 b).length d) ∧ w'.cell? ⟨w.heap.size + 1, 2, none⟩ = some (.int .i64 f)))
  (first | exact ⟨⟨A1.c0, A1.c1, A1.c2⟩, B1.c0, B1.c1, B1.c2⟩
         | (have D1 := A1.drew; have D2 := B1.drew; exact ⟨⟨D1.c0, D1.c1, D1.c2⟩, D2.c0, D2.c1, D2.c2⟩)
         | (have D1 := A1.drew.past hb2; have D2 := B1.drew.past hb2; exact ⟨⟨D1.c0, D1.c1, D1.c2⟩, D2.c0, D2.c1, D2.c2⟩)
         | (have D1 := (A1.drew.past hb2).past hb3; have D2 := (B1.drew.past hb2).past hb3; exact ⟨⟨D1.c0, D1.c1, D1.c2⟩, D2.c0, D2.c1, D2.c2⟩)
         | (have D1 := (A1.drew.past hb2).past hb3; have D2 := (B1.drew.past hb2).past hb3; clear e1; exact ⟨⟨(((D1.set (by omega)).set (by omega)).set (by omega)).c0, (((D1.set (by omega)).set (by omega)).set (by omega)).c1, (((D1.set (by omega)).set (by omega)).set (by omega)).c2⟩, (((D2.set (by omega)).set (by omega)).set (by omega)).c0, (((D2.set (by omega)).set (by omega)).set (by omega)).c1, (((D2.set (by omega)).set (by omega)).set (by omega)).c2⟩))
  (first
    | (go_at_call 48; refine (o0p p q _ _ c d a b _ hpW.drew hqW.drew rfl rfl (by clear e1; omega)).mono ?_; rw [HM.out]; rintro ex w2 ⟨p2, c2, rfl, ho2, hb2⟩)
    | (go_at_call 174; refine (f0t (!(g == h)) p2 _ c2 (e + f) m _ ho2.rd rfl ho2.le_cap (by clear e1; omega) hr3 (hTW.drew.past hb2)).mono ?_; generalize bare ⟨!(g == h), m, e + f⟩ = rr at *; rintro ex w3 ⟨p3, c3, rfl, ho3, hb3⟩; obtain ⟨d0, d1, d2, f0, f1, f2, dlt⟩ := (R1.drew.past hb2).past hb3))
 all_goals (go_wp2_with fail)
 refine bodyPost_ret (v := .agg #[.bool rr.neg, .slice p3 (dig B32 rr.m).length c3, .int .i64 rr.e]) (by simp [results, Tryz.results178, go_sem, d0, d1, d2]) rfl ?_
 rw [HJ.out]
 clear e1
 have hs2 := hs1.drew.trans (hb2.mono hs1.size)
 have hs3 := hs2.trans (hb3.mono hs2.size)
 have hz2 := hb2.size
 have hzd : W1.drew.heap.size = W1.heap.size := rfl
 refine ⟨p3, c3, rfl, (ho3.mono hs2.size).same (fun hh => ?_), ((hs3.setCell (by simp; omega) _).setCell (by simp; omega) _).setCell (by simp; omega) _⟩
 have hk := (ho3.blk_lt hh).1
 have hne : blk p3 ≠ w.heap.size + 1 + 1 := by omega
 rw [Below.heap_setCell _ _ _ _ hne, Below.heap_setCell _ _ _ _ hne, Below.heap_setCell _ _ _ _ hne]
theorem Rd.kept {w w' : World} {k : IntKind} {p : OA} {xs : List Nat} (h : Rd w k p xs) (hb : Below w.heap.size w w') : Rd w' k p xs := h.past hb
def e0n : List (List Nat) → Int
 | [] => 0
 | x :: xs => if b0b x = 0 then e0n xs else b0b x
theorem u0p (g c : Nat) (L : List (OA × Nat × List Nat)) (w : World) (hc : ∀ j (h : j < L.length), w.cell? ⟨g, j, none⟩ = some (.slice L[j].1 L[j].2.2.length L[j].2.1))
 (hr : ∀ j (h : j < L.length), Rd w .u32 L[j].1 L[j].2.2 ∧ L[j].2.2.length ≤ 9223372036854775807) (n : Nat) (hn : n = L.length) (hl : L.length ≤ 1000000) :
 Calls Tryz.prog 166 #[.slice (some ⟨g, 0, none⟩) n c] w fun e w' => e = .returned (.int .i64 (e0n (L.map (·.2.2)))) ∧ w = w' := by
 subst hn
 have HC := lHd hc
 have HR := lHd hr
 clear hc hr
 go_enter Tryz.func166, Tryz.ntmps166
 go_wp2
 go_loopg [7] L.length (fun gk iv wr => ∃ (i : Nat), iv = .int .i64 i ∧ gk + i = L.length ∧ wr = w ∧ Hid (e0n (L.map (·.2.2)) = e0n ((L.drop i).map (·.2.2))))
 case atStart => exact ⟨0, rfl, rfl, rfl, rfl⟩
 case round =>
  obtain ⟨i, rfl, hg, rfl, HF⟩ := hrel
  by_cases hlt : i < L.length
  · obtain ⟨p, cc, xs, hL⟩ : ∃ p cc xs, L[i] = (p, cc, xs) := ⟨_, _, _, rfl⟩
    have hcell := HC.out i hlt
    obtain ⟨hx, hxl⟩ := HR.out i hlt
    have hF := HF.out
    rw [List.drop_eq_getElem_cons hlt, List.map_cons, hL] at hF
    rw [hL] at hcell hx hxl
    simp only [e0n] at hcell hx hxl hF
    clear hL
    have hs := hx.solid
    have hgi : 0 < gk := by omega
    by_cases h1 : 0 < xs.length
    · have hcx := hx.cells (xs.length - 1) (by omega)
      have t1 : (0 : Int) < (xs.length : Int) := by omega
      by_cases h2 : dg xs (xs.length - 1) = 0
      · rw [h2] at hcx
        have he : b0b xs = 1 := by unfold b0b; rw [if_pos ⟨h1, h2⟩]
        rw [he] at hF
        have H := lHd hF
        clear h2 he hF
        go_wp2
        go_ret
        exact ⟨j0n (by rw [H.out]; simp), rfl⟩
      · have h3 : 0 < dg xs (xs.length - 1) := by omega
        have he : b0b xs = if 1200 < xs.length then 2 else 0 := by unfold b0b; rw [if_neg (fun h => h2 h.2)]
        clear h2
        by_cases h4 : 1200 < xs.length
        · rw [he, if_pos h4] at hF
          have H := lHd hF
          clear hF he
          go_wp2
          go_ret
          exact ⟨j0n (by rw [H.out]; simp), rfl⟩
        · rw [he, if_neg h4] at hF
          have H := lHd hF
          clear hF he
          go_wp2
          go_roundg (gk - 1)
          case measure => omega
          case rel => exact ⟨i + 1, by go_num, by omega, rfl, by show e0n _ = _; rw [H.out]; simp⟩
    · obtain rfl : xs = [] := List.eq_nil_of_length_eq_zero (by omega)
      have he : b0b [] = 0 := by simp [b0b]
      rw [he] at hF
      have H := lHd hF
      clear hF he
      go_wp2
      go_roundg (gk - 1)
      case measure => omega
      case rel => exact ⟨i + 1, by go_num, by omega, rfl, by show e0n _ = _; rw [H.out]; simp⟩
  · have H : Hid (e0n (L.map (·.2.2)) = 0) := by
     have := HF.out
     rw [List.drop_of_length_le (by omega)] at this
     exact this
    go_wp2
    go_ret
    exact ⟨j0n H.out.symm, rfl⟩
theorem u0q (xs : List Nat) : e0n [xs] = b0b xs := by
 simp only [e0n]; split <;> simp_all
theorem b1n (p : OA) (c n : Nat) (xs : List Nat) (w : World) (hx : Rd w .u32 p xs) (hn : n = xs.length) (hl : xs.length ≤ 9223372036854775807) :
 Calls Tryz.prog 166 #[.slice (some ⟨w.heap.size, 0, none⟩) 1 1] (w.alloc (.cells #[.slice p n c] 51)) fun e w' => e = .returned (.int .i64 (b0b xs)) ∧ w.alloc (.cells #[.slice p n c] 51) = w' := by
 subst hn
 rw [← u0q]
 refine u0p w.heap.size 1 [(p, c, xs)] _ ?_ ?_ 1 rfl (by simp)
 · intro j h
   obtain rfl : j = 0 := by simp at h; omega
   simp
 · intro j h
   obtain rfl : j = 0 := by simp at h; omega
   exact ⟨hx.laid _, hl⟩
theorem h0b (p : OA) (n c : Nat) (xs : List Nat) (w : World) (hp : Rd w .u32 p xs) (hn : n = xs.length) (hl : xs.length ≤ 9223372036854775807) :
 Calls Tryz.prog 117 #[.slice p n c] w fun e w' => e = .returned (.int .i64 (b0b xs)) ∧ Below w.heap.size w w' := by
 subst hn
 go_enter Tryz.func117, Tryz.ntmps117
 go_wp2_with fail
 refine (b1n p c _ xs _ hp rfl hl).mono ?_
 rintro e w1 ⟨rfl, rfl⟩
 go_wp2_with fail
 go_ret
 exact ⟨rfl, (Below.refl _ _).alloc (Nat.le_refl _) _⟩
structure Din where
 g : Bool
 p : OA
 c : Nat
 xs : List Nat
 e : Int
def s1w (d : Din) : Int := if b0b d.xs = 0 then (if d.e < -20000 ∨ 20000 < d.e then 3 else 0) else b0b d.xs
structure InD (w : World) (a : Din) : Prop where
 rd : Rd w .u32 a.p a.xs
 cap : a.xs.length ≤ a.c
 len : a.xs.length ≤ 9223372036854775807
 lt : ∀ x ∈ a.xs, x < B32
theorem InD.past {w w' : World} {a : Din} (h : InD w a) (hb : Below w.heap.size w w') : InD w' a := ⟨h.rd.past hb, h.cap, h.len, h.lt⟩
theorem InD.laid {w : World} {a : Din} (h : InD w a) (o : Obj) : InD (w.alloc o) a := ⟨h.rd.laid o, h.cap, h.len, h.lt⟩
theorem InD.drew {w : World} {a : Din} (h : InD w a) : InD w.drew a := ⟨h.rd.drew, h.cap, h.len, h.lt⟩
theorem InD.ok {w : World} {a : Din} (h : InD w a) (he : s1w a = 0) : ∃ m, a.xs = dig B32 m ∧ val B32 a.xs = m ∧ (dig B32 m).length ≤ 1200 ∧ -20000 ≤ a.e ∧ a.e ≤ 20000 := by
 unfold s1w at he
 by_cases h1 : b0b a.xs = 0
 · rw [if_pos h1] at he
   obtain ⟨h2, h3⟩ := e0r h.lt h1
   refine ⟨_, h2, rfl, by rw [← h2]; exact h3, ?_⟩
   by_cases h4 : a.e < -20000 ∨ 20000 < a.e
   · rw [if_pos h4] at he; simp at he
   · omega
 · rw [if_neg h1] at he; exact absurd he h1
theorem x0e.mono {w w' : World} {base base' : Nat} {d : Dv} {er : Int} {en : Ending} (h : x0e w base d er en w') (hb : base' ≤ base) : x0e w base' d er en w' := by
 obtain ⟨p, c, h1, h2, h3⟩ := h
 exact ⟨p, c, h1, h2.mono hb, h3⟩
theorem TabW.far {w : World} {b : Nat} {t : TypeId} {vs : Array Value} (h : TabW w) (hX : Bt w b t vs) (hne : (match vs[0]? with | some (.int .u8 _) => false | _ => true) = true) : ¬ (0 = b) := by
 intro e
 subst e
 have h1 := h.1 0 (by omega)
 rw [hX.bx.cell 0] at h1
 rw [h1] at hne
 cases hne
theorem u0r (p : OA) (n c : Nat) (a d : Nat) (w : World) (hp : Rd w .u32 p (dig B32 a)) (hn : n = (dig B32 a).length) (hl : (dig B32 a).length ≤ 1000000000) (hd0 : 0 < d) (hd1 : d < 4294967296) :
 Calls Tryz.prog 113 #[.slice p n c, .int .u32 d] w fun e w' => ∃ p' c', e = .returned (.tuple #[.slice p' (dig B32 (a / d)).length c', .int .u32 (a % d : Nat)]) ∧
  Own w' w.heap.size .u32 139 p' c' (dig B32 (a / d)) ∧ Below w.heap.size w w' := by
 subst hn
 have HA := lHd (b0o a0b a)
 have HXL := lHd (c0c a0b a)
 generalize dig B32 a = xs at hp hl HA HXL ⊢
 have hsx := hp.solid
 go_enter Tryz.func113, Tryz.ntmps113
 go_wp2_with (refine r0c rfl _ _ _ rfl b0y .i64 .i64 xs.length _ _ rfl rfl ?_ ?_ ?_ ?_; omega; omega; omega; intro p1 c1 w1 ho1 hb1 hz1)
 go_loopw [7, 8] (fun rv iv wr => ∃ (k r : Nat) (L : List Nat), iv = .int .i64 ((k : Int) - 1) ∧ rv = .int .u64 r ∧ k ≤ xs.length ∧ r < d ∧ Hid (L.length = xs.length) ∧ Own wr w.heap.size .u32 139 p1 c1 L ∧ Below w.heap.size w wr ∧ Hid (SmallRel B32 L xs d k r))
  (fun _ iv _ => (intOf iv + 1).toNat)
 case atStart => exact ⟨xs.length, 0, _, rfl, rfl, Nat.le_refl _, hd0, List.length_replicate, ho1, hb1, (show SmallRel B32 _ xs d xs.length 0 from ⟨fun x hx => by rw [(List.mem_replicate.1 hx).2]; exact c0j, hd0, by simp⟩)⟩
 case round =>
  obtain ⟨k, r, L, rfl, rfl, hk, hrd, hL, hoL, hbL, HR⟩ := hrel
  have hpL := hp.past hbL
  have hsL := hoL.solid
  rw [hL.out] at hsL
  by_cases h0 : 0 < k
  · obtain ⟨k, rfl⟩ : ∃ j, k = j + 1 := ⟨k - 1, by omega⟩
    have hc1 := hpL.cells k (by omega)
    have hxd := a0r (B := 4294967296) (by omega) xs HXL.out k
    have hor := or32 r (dg xs k) (by omega) hxd
    obtain ⟨HS, HQ⟩ := HR.out.step (by omega) (by rw [hL.out]; omega) (by unfold B32; exact hxd)
    have HS := lHd HS
    have ej : ((k + 1 : Nat) : Int) - 1 = k := by omega
    rw [ej]
    unfold B32 at HQ
    obtain ⟨t, ht⟩ : ∃ t, t = r * 4294967296 + dg xs k := ⟨_, rfl⟩
    have et : (r : Int) * 4294967296 + (dg xs k : Nat) = (t : Nat) := by omega
    have htb : t < 18446744073709551616 := by omega
    rw [et] at hor
    rw [← ht] at HQ
    have HT := lHd ht
    have hq0 : (0 : Int) ≤ (t : Int) / (d : Int) := Int.ediv_nonneg (by omega) (by omega)
    have hq1 : (t : Int) / (d : Int) < 4294967296 := by have : ((t / d : Nat) : Int) = (t : Int) / (d : Int) := rfl; omega
    have hd2 : (1 : Int) ≤ (d : Int) := by omega
    have k0 : (0 : Int) ≤ (k : Int) := by omega
    have k1 : (k : Int) < (xs.length : Int) := by omega
    clear ht et hc1
    have hc1 := hpL.cells k (by omega)
    go_wp2_with fail
    clear hc1 hor ej
    have e1 : IntKind.u64.wrap (d : Int) = (d : Int) := IntWalk.u64_in _ (by omega)
    have e2 : ¬ d = 0 := by omega
    have e3 : IntKind.u64.wrap ((t : Int) / (d : Int)) = (t : Int) / (d : Int) := IntWalk.u64_in _ (by omega)
    have e4 : IntKind.u32.wrap ((t : Int) / (d : Int)) = (t : Int) / (d : Int) := IntWalk.u32_in _ (by omega)
    have e5 : (t : Int).tmod (d : Int) = (t : Int) % (d : Int) := Int.tmod_eq_emod_of_nonneg (by omega)
    have hcL := hoL.rd.cells k (by rw [hL.out]; omega)
    have hfL := f0g hoL k (by rw [hL.out]; omega)
    go_region
    obtain ⟨ho3, hg3, hb3⟩ := g0g hoL k (by rw [hL.out]; omega) (t / d)
    clear e1 e2 e3 e4 e5 hcL hfL
    have hb3 := hbL.trans (c0w hg3 hbL.size (fun j hj => by cases hj; exact hb3))
    have ho3 := ho3.drew
    have hb3 := hb3.drew
    have eq : ((t / d : Nat) : Int) = (t : Int) / (d : Int) := rfl
    rw [eq] at ho3 hb3 hg3
    generalize (wr.setCell (at_ p1 k) (.int .u32 ((t : Int) / (d : Int)))).drew = w3 at ho3 hb3 ⊢
    clear eq hg3
    go_wp2
    go_roundw
    case rel =>
     have e6 : r * B32 + dg xs k = t := by rw [HT.out]; rfl
     rw [e6] at HS
     exact ⟨k, t % d, _, rfl, rfl, by omega, Nat.mod_lt _ hd0, (by show (List.set _ _ _).length = _; rw [List.length_set]; exact hL.out), ho3, hb3, HS⟩
    case measure => first | (simp [intOf]; done) | (simp [intOf]; omega)
  · obtain rfl : k = 0 := by omega
    obtain ⟨hv, hm⟩ := HR.out.done HA.out
    have HM := lHd hm
    have HV := lHd hv
    clear hv hm
    go_wp2_with (go_at_call 111; refine (f0e _ _ _ L _ hoL.rd hL.out.symm hoL.le_cap HR.out.1 (by rw [hL.out]; omega)).mono ?_; rintro e w3 ⟨rfl, rfl⟩)
    go_ret2
    have ht := c0d a0b L HR.out.1
    have ho2 := hoL.take (dig B32 (val B32 L)).length
    rw [ht, HV.out] at ho2
    refine ⟨p1, c1, ?_, ho2, hbL⟩
    rw [HV.out, ← HM.out]
    rfl
end Go.Proofs.YtgbbhlginbmghaaGreatDoor
namespace Go.Slip
def WRel (L xs : List Nat) (i : Nat) : Prop := L.length = xs.length ∧ i % 2 = 0 ∧ i ≤ xs.length ∧ ∀ t, t < xs.length → dg L t = if t < i then dg xs (plc 1 xs.length t) else dg xs t
theorem WRel.start (xs : List Nat) : WRel xs xs 0 := ⟨rfl, rfl, by omega, fun t _ => by simp⟩
theorem WRel.step {L xs : List Nat} {i : Nat} (h : WRel L xs i) (hi : i + 1 < xs.length) : WRel ((L.set i (dg L (i + 1))).set (i + 1) (dg L i)) xs (i + 2) := by
 obtain ⟨h1, h2, h3, h4⟩ := h
 refine ⟨by simp [h1], by omega, by omega, fun t ht => ?_⟩
 have e1 := h4 (i + 1) hi
 have e2 := h4 i (by omega)
 rw [if_neg (by omega)] at e1 e2
 by_cases a : t = i + 1
 · subst a
   rw [b0k (by simp; omega), if_pos (by omega), e2]
   unfold plc
   rw [if_neg (by omega), if_pos rfl]
   congr 1
   omega
 · rw [b0p (by omega)]
   by_cases b : t = i
   · subst b
     rw [b0k (by omega), if_pos (by omega), e1]
     unfold plc
     rw [if_neg (by omega), if_pos rfl]
     congr 1
     omega
   · rw [b0p (by omega), h4 t ht]
     by_cases c : t < i
     · rw [if_pos c, if_pos (by omega)]
     · rw [if_neg c, if_neg (by omega)]
theorem WRel.done {L xs : List Nat} {i : Nat} (h : WRel L xs i) (hi : ¬ i + 1 < xs.length) (h2 : xs.length % 2 = 0) : L = ordL 1 xs := by
 obtain ⟨k1, k2, k3, k4⟩ := h
 refine q0g (by rw [c0i, k1]) fun t ht => ?_
 rw [k1] at ht
 rw [o0j ht, k4 t ht, if_pos (by omega)]
end Go.Slip
namespace Go.Proofs.YtgbbhlginbmghaaGreatDoor
open Go.RowKit Go.Slip
def ordF (f : Fm) : Nat := if f.ext then 99 else if f.fam = 3 then 101 else 98
abbrev fV (f : Fm) : Value := .agg #[.int .i64 (f.size : Int), .int .i64 (f.E : Int), .int .i64 (f.F : Int), .int .i64 f.g.rad, .int .i64 f.g.digs, .int .i64 f.g.lo, .int .i64 f.g.hi, .bool f.g.grad, .bool f.hid, .bool f.inf, .bool f.res, .func (.func (ordF f)) #[] #[]]
theorem u0s (base : Nat) (p : OA) (n c : Nat) (xs : List Nat) (w : World) (ho : Wr w base .u8 p xs) (hn : n = xs.length) (hl : xs.length ≤ 4000000000) (h0 : 0 < xs.length) :
 Calls Tryz.prog 99 #[.slice p n c] w fun e w' => e = .returned (.tuple #[]) ∧ Wr w' base .u8 p xs.reverse ∧ w.grownBy w' (some (blk p)) := by
 subst hn
 have HR0 := lHd (h0q.start xs h0)
 have hsx := ho.rd.solid
 go_enter Tryz.func99, Tryz.ntmps99
 go_wp2
 go_loopw [2, 3] (fun iv jv wr => ∃ (i j : Nat) (L : List Nat), iv = .int .i64 i ∧ jv = .int .i64 j ∧ i ≤ xs.length ∧ j < xs.length ∧ Wr wr base .u8 p L ∧ w.grownBy wr (some (blk p)) ∧ Hid (h0q L xs i j))
  (fun iv _ _ => xs.length - (intOf iv).toNat)
 case atStart => exact ⟨0, xs.length - 1, xs, rfl, by go_num, Nat.zero_le _, by omega, ho, World.grownBy.refl _ _, HR0⟩
 case round =>
  obtain ⟨i, j, L, rfl, rfl, hi, hj, hoL, hbL, HR⟩ := hrel
  by_cases hij : i < j
  · have hLl := lHd HR.out.1
    have ci := hoL.rd.cells i (by rw [hLl.out]; omega)
    have cj := hoL.rd.cells j (by rw [hLl.out]; omega)
    have fi := hoL.fr i (by rw [hLl.out]; omega)
    have s1 := hoL.set i (by rw [hLl.out]; omega) (dg L j)
    have fj := s1.1.fr j (by rw [List.length_set, hLl.out]; omega)
    have cj2 := s1.1.rd.cells j (by rw [List.length_set, hLl.out]; omega)
    rw [b0p (by omega)] at cj2
    have s2 := s1.1.set j (by rw [List.length_set, hLl.out]; omega) (dg L i)
    have HS := lHd (HR.out.step hij)
    have i1 : (i : Int) < (xs.length : Int) := by omega
    have j1 : (j : Int) < (xs.length : Int) := by omega
    have i0 : (0 : Int) ≤ (i : Int) := by omega
    have j0 : (0 : Int) ≤ (j : Int) := by omega
    have hb3 : w.grownBy ((wr.setCell (at_ p i) (.int .u8 (dg L j : Nat))).setCell (at_ p j) (.int .u8 (dg L i : Nat))) (some (blk p)) :=
     j1r (j1r hbL s1.2.1) s2.2.1
    have S2 := lHd s2
    have HB := lHd hb3
    clear s1 s2 hb3
    go_wp2_with fail
    go_region
    have ho3 := S2.out.1.drew
    have hb3 := f1c HB.out
    clear ci cj fi fj cj2 S2 HB
    generalize ((wr.setCell (at_ p i) (.int .u8 (dg L j : Nat))).setCell (at_ p j) (.int .u8 (dg L i : Nat))).drew = w3 at ho3 hb3 ⊢
    go_wp2
    go_roundw
    case rel => exact ⟨i + 1, j - 1, _, by go_num, by go_num, by omega, by omega, ho3, hb3, HS⟩
    case measure => first | (simp [intOf]; done) | (simp [intOf]; omega)
  · have HD := lHd (HR.out.done hij)
    go_wp2
    go_end0
    exact ⟨rfl, HD.out ▸ hoL, hbL⟩
theorem f1j (base : Nat) (p : OA) (n c : Nat) (xs : List Nat) (w : World) (ho : Wr w base .u8 p xs) (hn : n = xs.length) (hl : xs.length ≤ 4000000000) (h2 : xs.length % 2 = 0) :
 Calls Tryz.prog 101 #[.slice p n c] w fun e w' => e = .returned (.tuple #[]) ∧ Wr w' base .u8 p (ordL 1 xs) ∧ w.grownBy w' (some (blk p)) := by
 subst hn
 have HR0 := lHd (WRel.start xs)
 have HE := lHd h2
 clear h2
 have hsx := ho.rd.solid
 go_enter Tryz.func101, Tryz.ntmps101
 go_wp2
 go_loopw [2] (fun iv wr => ∃ (i : Nat) (L : List Nat), iv = .int .i64 i ∧ i ≤ xs.length ∧ Wr wr base .u8 p L ∧ w.grownBy wr (some (blk p)) ∧ Hid (WRel L xs i))
  (fun iv _ => xs.length - (intOf iv).toNat)
 case atStart => exact ⟨0, xs, rfl, Nat.zero_le _, ho, World.grownBy.refl _ _, HR0⟩
 case round =>
  obtain ⟨i, L, rfl, hi, hoL, hbL, HR⟩ := hrel
  by_cases hij : i + 1 < xs.length
  · have hLl := lHd HR.out.1
    have ci := hoL.rd.cells i (by rw [hLl.out]; omega)
    have cj := hoL.rd.cells (i + 1) (by rw [hLl.out]; omega)
    have fi := hoL.fr i (by rw [hLl.out]; omega)
    have s1 := hoL.set i (by rw [hLl.out]; omega) (dg L (i + 1))
    have fj := s1.1.fr (i + 1) (by rw [List.length_set, hLl.out]; omega)
    have cj2 := s1.1.rd.cells (i + 1) (by rw [List.length_set, hLl.out]; omega)
    rw [b0p (by omega)] at cj2
    have s2 := s1.1.set (i + 1) (by rw [List.length_set, hLl.out]; omega) (dg L i)
    have HS := lHd (HR.out.step hij)
    have i1 : (i : Int) < (xs.length : Int) := by omega
    have j1 : ((i + 1 : Nat) : Int) < (xs.length : Int) := by omega
    have i0 : (0 : Int) ≤ (i : Int) := by omega
    have j0 : (0 : Int) ≤ ((i + 1 : Nat) : Int) := by omega
    have e1 : IntKind.i64.wrap ((i : Int) + 1) = ((i + 1 : Nat) : Int) := (iwo).trans (by omega)
    have e2 : IntKind.i64.wrap ((i : Int) + 2) = ((i + 2 : Nat) : Int) := (iwo).trans (by omega)
    have hb3 : w.grownBy ((wr.setCell (at_ p i) (.int .u8 (dg L (i + 1) : Nat))).setCell (at_ p (i + 1)) (.int .u8 (dg L i : Nat))) (some (blk p)) :=
     j1r (j1r hbL s1.2.1) s2.2.1
    have S2 := lHd s2
    have HB := lHd hb3
    clear s1 s2 hb3
    generalize hj : i + 1 = j at *
    go_wp2_with fail
    go_region
    have ho3 := S2.out.1.drew
    have hb3 := f1c HB.out
    clear ci cj fi fj cj2 S2 HB
    generalize ((wr.setCell (at_ p i) (.int .u8 (dg L j : Nat))).setCell (at_ p j) (.int .u8 (dg L i : Nat))).drew = w3 at ho3 hb3 ⊢
    go_wp2
    go_roundw
    case rel => exact ⟨i + 2, _, by go_num, by omega, ho3, hb3, HS⟩
    case measure => first | (simp [intOf]; done) | (simp [intOf]; omega)
  · have HD := lHd (HR.out.done hij HE.out)
    go_wp2
    go_end0
    exact ⟨rfl, HD.out ▸ hoL, hbL⟩
theorem j1v (p : OA) (n c : Nat) (w : World) :
 Calls Tryz.prog 98 #[.slice p n c] w fun e w' => e = .returned (.tuple #[]) ∧ Below w.heap.size w w' := by
 have I := Inv.start w [] True.intro
 refine a0c [.v (.slice p n c)] I Tryz.func98 ?_
 exact zrb I
theorem f1k (f : Fm) (args : Array Value) (w : World) : (callFunc (ordF f) args).run Tryz.prog w = .ok (.enter (ordF f) args) w := by
 unfold ordF
 split
 · kernel_rfl
 · split <;> kernel_rfl
theorem f1l (f : Fm) (base : Nat) (p : OA) (n c : Nat) (xs : List Nat) (w : World) (G : c0g f) (ho : Wr w base .u8 p xs) (hn : n = xs.length) (hs : xs.length = f.size) :
 Calls Tryz.prog (ordF f) #[.slice p n c] w fun e w' => e = .returned (.tuple #[]) ∧ Wr w' base .u8 p (ordL f.ord xs) ∧ w.grownBy w' (some (blk p)) := by
 have hz := G.sz
 unfold ordF Fm.ord
 cases f.ext with
 | true =>
  rw [if_pos rfl, if_pos rfl, j1h]
  exact u0s base p n c xs w ho hn (by omega) (by omega)
 | false =>
  rw [if_neg (show ¬ (false = true) by simp), if_neg (show ¬ (false = true) by simp)]
  by_cases h : f.fam = 3
  · rw [if_pos h, if_pos h]
    exact f1j base p n c xs w ho hn (by omega) (by omega)
  · rw [if_neg h, if_neg h, e1v]
    exact (j1v p n c w).mono fun e w' ⟨h1, h2⟩ => ⟨h1, ho.past h2, u1i h2 _⟩
theorem f0h (d l g : Int) (gr : Bool) (w : World) : Calls Tryz.prog 97 #[.int .i64 d, .int .i64 l, .int .i64 g, .bool gr] w
 fun e w' => e = .returned (.agg #[.int .i64 2, .int .i64 d, .int .i64 l, .int .i64 g, .bool gr]) ∧ Below w.heap.size w w' := by
 have I := Inv.start w [] True.intro
 refine a0c [.v (.int .i64 d), .v (.int .i64 l), .v (.int .i64 g), .v (.bool gr)] I Tryz.func97 ?_
 exact zrb I
theorem u0t (d l g : Int) (w : World) : Calls Tryz.prog 100 #[.int .i64 d, .int .i64 l, .int .i64 g] w
 fun e w' => e = .returned (.agg #[.int .i64 16, .int .i64 d, .int .i64 l, .int .i64 g, .bool false]) ∧ Below w.heap.size w w' := by
 have I := Inv.start w [] True.intro
 refine a0c [.v (.int .i64 d), .v (.int .i64 l), .v (.int .i64 g)] I Tryz.func100 ?_
 exact zrb I
def s1x : Value := .agg #[.int .i64 0, .int .i64 0, .int .i64 0, .int .i64 0, .int .i64 0, .int .i64 0, .int .i64 0, .bool false, .bool false, .bool false, .bool false, .nilFunc]
theorem g0q (n : Int) (hn : IsFm n) (w : World) : Calls Tryz.prog 41 #[.int .i64 n] w
 fun e w' => e = .returned (.tuple #[.agg #[.int .i64 (((fmt n).size : Nat) : Int), .int .i64 (((fmt n).E : Nat) : Int), .int .i64 (((fmt n).F : Nat) : Int), .int .i64 (fmt n).g.rad, .int .i64 (fmt n).g.digs, .int .i64 (fmt n).g.lo, .int .i64 (fmt n).g.hi, .bool (fmt n).g.grad, .bool (fmt n).hid, .bool (fmt n).inf, .bool (fmt n).res, .func (.func (ordF (fmt n))) #[] #[]], .int .i64 0]) ∧ Below w.heap.size w w' := by
 rcases s0f hn with rfl | rfl | rfl | rfl | rfl | rfl | rfl | rfl
 · have I := Inv.start w [] True.intro
   refine a0c [.v (.int .i64 1)] I Tryz.func41 ?_
   refine zq I (fun Al W I => f0h 24 (-149) 104 true W) fun Al W I => zret I (v := fun Al => .tuple #[.agg #[vI 4, vI 8, vI 23, vI 2, vI 24, vI (-149), vI 104, .bool true, .bool true, .bool true, .bool false, .func (.func 98) #[] #[]], vI 0]) fun Al W I => ⟨by kernel_rfl, I.below⟩
 · have I := Inv.start w [] True.intro
   refine a0c [.v (.int .i64 2)] I Tryz.func41 ?_
   refine zq I (fun Al W I => f0h 53 (-1074) 971 true W) fun Al W I => zret I (v := fun Al => .tuple #[.agg #[vI 8, vI 11, vI 52, vI 2, vI 53, vI (-1074), vI 971, .bool true, .bool true, .bool true, .bool false, .func (.func 98) #[] #[]], vI 0]) fun Al W I => ⟨by kernel_rfl, I.below⟩
 · have I := Inv.start w [] True.intro
   refine a0c [.v (.int .i64 3)] I Tryz.func41 ?_
   refine zq I (fun Al W I => f0h 64 (-16445) 16320 true W) fun Al W I => zret I (v := fun Al => .tuple #[.agg #[vI 10, vI 15, vI 64, vI 2, vI 64, vI (-16445), vI 16320, .bool true, .bool false, .bool true, .bool false, .func (.func 99) #[] #[]], vI 0]) fun Al W I => ⟨by kernel_rfl, I.below⟩
 · have I := Inv.start w [] True.intro
   refine a0c [.v (.int .i64 4)] I Tryz.func41 ?_
   refine zq I (fun Al W I => u0t 6 (-70) 57 W) fun Al W I => zret I (v := fun Al => .tuple #[.agg #[vI 4, vI 7, vI 24, vI 16, vI 6, vI (-70), vI 57, .bool false, .bool false, .bool false, .bool false, .func (.func 98) #[] #[]], vI 0]) fun Al W I => ⟨by kernel_rfl, I.below⟩
 · have I := Inv.start w [] True.intro
   refine a0c [.v (.int .i64 5)] I Tryz.func41 ?_
   refine zq I (fun Al W I => u0t 14 (-78) 49 W) fun Al W I => zret I (v := fun Al => .tuple #[.agg #[vI 8, vI 7, vI 56, vI 16, vI 14, vI (-78), vI 49, .bool false, .bool false, .bool false, .bool false, .func (.func 98) #[] #[]], vI 0]) fun Al W I => ⟨by kernel_rfl, I.below⟩
 · have I := Inv.start w [] True.intro
   refine a0c [.v (.int .i64 6)] I Tryz.func41 ?_
   refine zq I (fun Al W I => f0h 24 (-151) 103 false W) fun Al W I => zret I (v := fun Al => .tuple #[.agg #[vI 4, vI 8, vI 23, vI 2, vI 24, vI (-151), vI 103, .bool false, .bool true, .bool false, .bool true, .func (.func 101) #[] #[]], vI 0]) fun Al W I => ⟨by kernel_rfl, I.below⟩
 · have I := Inv.start w [] True.intro
   refine a0c [.v (.int .i64 7)] I Tryz.func41 ?_
   refine zq I (fun Al W I => f0h 56 (-183) 71 false W) fun Al W I => zret I (v := fun Al => .tuple #[.agg #[vI 8, vI 8, vI 55, vI 2, vI 56, vI (-183), vI 71, .bool false, .bool true, .bool false, .bool true, .func (.func 101) #[] #[]], vI 0]) fun Al W I => ⟨by kernel_rfl, I.below⟩
 · have I := Inv.start w [] True.intro
   refine a0c [.v (.int .i64 8)] I Tryz.func41 ?_
   refine zq I (fun Al W I => f0h 53 (-1076) 970 false W) fun Al W I => zret I (v := fun Al => .tuple #[.agg #[vI 8, vI 11, vI 52, vI 2, vI 53, vI (-1076), vI 970, .bool false, .bool true, .bool false, .bool true, .func (.func 101) #[] #[]], vI 0]) fun Al W I => ⟨by kernel_rfl, I.below⟩
theorem i0e (n : Int) (hn : ¬ IsFm n) (w : World) : Calls Tryz.prog 41 #[.int .i64 n] w
 fun e w' => e = .returned (.tuple #[s1x, .int .i64 6]) ∧ Below w.heap.size w w' := by
 unfold IsFm at hn
 have I := Inv.start w [] True.intro
 refine a0c [.v (.int .i64 n)] I Tryz.func41 ?_
 refine zb I 6 (n == 1) (false) (bFn (by omega)) fun Al W I => zb I 10 (n == 2) (false) (bFn (by omega)) fun Al W I => zb I 14 (n == 3) (false) (bFn (by omega)) fun Al W I => zb I 18 (n == 4) (false) (bFn (by omega)) fun Al W I => zb I 22 (n == 5) (false) (bFn (by omega)) fun Al W I => zb I 26 (n == 6) (false) (bFn (by omega)) fun Al W I => zb I 30 (n == 7) (false) (bFn (by omega)) fun Al W I => zb I 34 (n == 8) (false) (bFn (by omega)) fun Al W I => zret I (v := fun Al => .tuple #[.agg #[vI 0, vI 0, vI 0, vI 0, vI 0, vI 0, vI 0, .bool false, .bool false, .bool false, .bool false, .nilFunc], vI 6]) fun Al W I => ⟨by kernel_rfl, I.below⟩
def h0c (O : List Nat) (u N : Nat) : Prop := O ++ dig B32 u = dig B32 N
theorem h0c.len {O : List Nat} {u N : Nat} (h : h0c O u N) : O.length ≤ (dig B32 N).length := by
 have := congrArg List.length h
 simp at this; omega
theorem h0c.step {O : List Nat} {u N : Nat} (h : h0c O u N) (h0 : 0 < u) : h0c (O ++ [u % 4294967296]) (u / 4294967296) N := by
 unfold h0c at *
 rw [e0e a0b h0] at h
 rw [← h]
 simp [B32]
theorem n1m (N : Nat) (w : World) (hN : N < 9223372036854775808) : Calls Tryz.prog 45 #[.int .i64 N] w (f0w w .u32 139 (dig B32 N)) := by
 have hl : (dig B32 N).length ≤ 2 := (a0g a0b N 2).2 (by unfold B32; omega)
 go_enter Tryz.func45, Tryz.ntmps45
 go_wp2
 go_loopw [3, 4] (fun av uv wr => ∃ (u : Nat) (t : OA) (e : Nat) (O : List Nat), uv = .int .u64 u ∧ av = .slice t O.length e ∧ u ≤ N ∧ Own wr w.heap.size .u32 139 t e O ∧ Below w.heap.size w wr ∧ Hid (h0c O u N))
  (fun _ uv _ => (intOf uv).toNat)
 case atStart => exact ⟨N, none, 0, [], by go_num, rfl, Nat.le_refl _, Own.nil _ _ _ _, Below.refl _ _, (show h0c [] N N from rfl)⟩
 case round =>
  obtain ⟨u, t, e, O, rfl, rfl, hu, hoO, hb, HR⟩ := hrel
  have hOl : O.length ≤ 2 := Nat.le_trans HR.out.len hl
  by_cases h0 : 0 < u
  · have HS := lHd (HR.out.step h0)
    go_wp2_with (first
      | (refine c0l rfl _ _ rfl b0y _ ?_ rfl ?_; omega; intro p2 w2 ho2 hb2 hz2 hp2)
      | (at_builtin; refine c0k rfl _ _ _ rfl b0y _ _ _ _ _ (hoO.past hb2) rfl _ _ _ _ ho2.rd rfl rfl rfl ?_ ?_ ?_; (simp; omega); (have := hb2.size; have := hb.size; omega); intro p3 c3 w3 ho3 hg3 hb3 hn3))
    have e4 : ((u : Int) % 4294967296).toNat = u % 4294967296 := by omega
    rw [e4] at ho3
    have hb4 := hb.trans ((hb2.mono hb.size).trans hb3)
    go_roundw
    case rel => exact ⟨u / 4294967296, p3, c3, _, by go_num, by simp, by omega, ho3, hb4, HS⟩
    case measure => simp [intOf]; omega
  · obtain rfl : u = 0 := by omega
    go_wp2
    go_ret
    have := HR.out
    unfold h0c at this
    rw [a0e, List.append_nil] at this
    rw [← this]
    exact ⟨t, e, rfl, hoO, hb⟩
theorem Box3.put {w : World} {b : Nat} {v0 v1 v2 : Value} (h : Box3 w b v0 v1 v2) (u0 u1 u2 : Value) : Box3 (((w.setCell ⟨b, 0, none⟩ u0).setCell ⟨b, 1, none⟩ u1).setCell ⟨b, 2, none⟩ u2) b u0 u1 u2 := by
 have h1 : Box3 (w.setCell ⟨b, 0, none⟩ u0) b u0 v1 v2 :=
  ⟨World.cell?_setCell_same _ _ _ h.c0, (World.cell?_setCell_other _ _ _ _ (by simp)).trans h.c1, (World.cell?_setCell_other _ _ _ _ (by simp)).trans h.c2, by simpa using h.f0, by simpa using h.f1, by simpa using h.f2, by simpa using h.lt⟩
 have h2 : Box3 ((w.setCell ⟨b, 0, none⟩ u0).setCell ⟨b, 1, none⟩ u1) b u0 u1 v2 :=
  ⟨(World.cell?_setCell_other _ _ _ _ (by simp)).trans h1.c0, World.cell?_setCell_same _ _ _ h1.c1, (World.cell?_setCell_other _ _ _ _ (by simp)).trans h1.c2, by simpa using h.f0, by simpa using h.f1, by simpa using h.f2, by simpa using h.lt⟩
 exact ⟨(World.cell?_setCell_other _ _ _ _ (by simp)).trans h2.c0, (World.cell?_setCell_other _ _ _ _ (by simp)).trans h2.c1, World.cell?_setCell_same _ _ _ h2.c2, by simpa using h.f0, by simpa using h.f1, by simpa using h.f2, by simpa using h.lt⟩
theorem _root_.Go.Slip.Bx.bb3 {w : World} {b : Nat} {v0 v1 v2 : Value} (h : Bx w b #[v0, v1, v2]) : Box3 w b v0 v1 v2 :=
 ⟨h.e3.1, h.e3.2.1, h.e3.2.2, h.f 0, h.f 1, h.f 2, h.lt⟩
theorem u0u (p : OA) (n c : Nat) (e : Int) (m : Nat) (w : World) (hp : Rd w .u32 p (dig B32 m)) (hn : n = (dig B32 m).length) (hc : n ≤ c) (hl : (dig B32 m).length ≤ 10000000)
 (he : -1000000000 ≤ e ∧ e ≤ 1000000000) (hT : TabW w) :
 Calls Tryz.prog 129 #[.slice p n c, .int .i64 e] w (f0s w w.heap.size (bare ⟨false, m, e⟩)) := by
 subst hn
 go_enter Tryz.func129, Tryz.ntmps129
 go_wp2_with fail
 refine a1m (fun W1 hb1 hz1 R => ?_)
 replace hp := hp.past hb1
 replace hT := hT.past hb1
 have hs1 := hb1
 ((with_reducible refine (f0t false p _ c e m _ hp rfl hc hl he hT).mono ?_))
 generalize bare ⟨false, m, e⟩ = r at *
 rintro e2 w2 ⟨p2, c2, rfl, ho2, hb2⟩
 replace R := R.past hb2
 obtain ⟨R_0, R_1, R_2⟩ := R.e3
 have R_f0 := R.f 0
 have R_f1 := R.f 1
 have R_f2 := R.f 2
 go_wp2_with fail
 clear R_0 R_1 R_2 R_f0 R_f1 R_f2
 obtain ⟨R_0, R_1, R_2⟩ := R.e3
 refine bodyPost_ret (v := .agg #[.bool r.neg, .slice p2 (dig B32 r.m).length c2, .int .i64 r.e]) (by simp [results, Tryz.results129, go_sem, R_0, R_1, R_2]) rfl ?_
 have hz := hs1.size
 exact u0n (hs1.trans (hb2.mono hs1.size)) ho2 hz (Nat.le_refl _) (fun h => by have := (ho2.blk_lt h).1; omega)
theorem f1m (g : Bool) (p : OA) (n c : Nat) (e : Int) (m : Nat) (w : World) (hn : n = (dig B32 m).length) :
 Calls Tryz.prog 131 #[.agg #[.bool g, .slice p n c, .int .i64 e]] w fun en w' => en = .returned (.agg #[.bool (f0z ⟨g, m, e⟩).neg, .slice p (dig B32 m).length c, .int .i64 e]) ∧ Below w.heap.size w w' := by
 subst hn
 have hz := a0h a0b m
 have A := (j0e w #[.bool g, .slice p (dig B32 m).length c, .int .i64 e] 129).bb3
 cases g
 · by_cases h0 : 0 < (dig B32 m).length
   · have t1 : decide ((0 : Int) < ((dig B32 m).length : Int)) = true := dTr (by omega)
     have hd : (f0z ⟨false, m, e⟩).neg = true := by unfold f0z; simp; (try omega)
     rw [hd]
     clear hd hz
     obtain ⟨A_0, A_1, A_2, A_f0, A_f1, A_f2, A_lt⟩ := A
     go_enter Tryz.func131, Tryz.ntmps131
     go_wp2_with fail
     refine bodyPost_ret (v := .agg #[.bool true, .slice p (dig B32 m).length c, .int .i64 e]) (by simp [results, Tryz.results131, go_sem]) rfl ?_
     exact ⟨rfl, g0l _ _ _⟩
   · have t1 : decide ((0 : Int) < ((dig B32 m).length : Int)) = false := dFa (by omega)
     have hd : (f0z ⟨false, m, e⟩).neg = false := by unfold f0z; simp; (try omega)
     rw [hd]
     clear hd hz
     obtain ⟨A_0, A_1, A_2, A_f0, A_f1, A_f2, A_lt⟩ := A
     go_enter Tryz.func131, Tryz.ntmps131
     go_wp2_with fail
     refine bodyPost_ret (v := .agg #[.bool false, .slice p (dig B32 m).length c, .int .i64 e]) (by simp [results, Tryz.results131, go_sem]) rfl ?_
     exact ⟨rfl, g0l _ _ _⟩
 · have t1 := True.intro
   have hd : (f0z ⟨true, m, e⟩).neg = false := by unfold f0z; simp; (try omega)
   rw [hd]
   clear hd hz
   obtain ⟨A_0, A_1, A_2, A_f0, A_f1, A_f2, A_lt⟩ := A
   go_enter Tryz.func131, Tryz.ntmps131
   go_wp2_with fail
   refine bodyPost_ret (v := .agg #[.bool false, .slice p (dig B32 m).length c, .int .i64 e]) (by simp [results, Tryz.results131, go_sem]) rfl ?_
   exact ⟨rfl, g0l _ _ _⟩
structure Rw where
 g : Bool
 p : OA
 c : Nat
 m : Nat
 e : Int
def Rw.v (a : Rw) : Dv := ⟨a.g, a.m, a.e⟩
structure InW (w : World) (base : Nat) (a : Rw) : Prop where
 ow : Own w base .u32 139 a.p a.c (dig B32 a.m)
 len : (dig B32 a.m).length ≤ 1000000
 lo : -1000000 ≤ a.e
 hi : a.e ≤ 1000000
theorem InW.past {w w' : World} {base : Nat} {a : Rw} (h : InW w base a) (hb : Below w.heap.size w w') : InW w' base a := ⟨h.ow.past hb, h.len, h.lo, h.hi⟩
theorem InW.drew {w : World} {base : Nat} {a : Rw} (h : InW w base a) : InW w.drew base a := ⟨h.ow.drew, h.len, h.lo, h.hi⟩
theorem InW.mono {w : World} {base base' : Nat} {a : Rw} (h : InW w base a) (hb : base' ≤ base) : InW w base' a := ⟨h.ow.mono hb, h.len, h.lo, h.hi⟩
theorem InW.only {w w' : World} {base k : Nat} {a : Rw} (h : InW w base a) (hb : Only k w w') (hne : a.p.isSome = true → blk a.p ≠ k) : InW w' base a := ⟨h.ow.only hb hne, h.len, h.lo, h.hi⟩
structure El (w : World) (g o : Nat) (a : Rw) : Prop where
 c0 : w.cell? ⟨g, o, none⟩ = some (.bool a.g)
 c1 : w.cell? ⟨g, o + 1, none⟩ = some (.slice a.p (dig B32 a.m).length a.c)
 c2 : w.cell? ⟨g, o + 2, none⟩ = some (.int .i64 a.e)
 lt : g < w.heap.size
theorem El.e3 {w : World} {g o : Nat} {a : Rw} (h : El w g o a) : w.cell? ⟨g, o, none⟩ = some (.bool a.g) ∧ w.cell? ⟨g, o + 1, none⟩ = some (.slice a.p (dig B32 a.m).length a.c) ∧ w.cell? ⟨g, o + 2, none⟩ = some (.int .i64 a.e) := ⟨h.c0, h.c1, h.c2⟩
theorem El.below {w w' : World} {B g o : Nat} {a : Rw} (h : El w g o a) (hb : Below B w w') (hB : g < B) : El w' g o a :=
 ⟨by rw [Below.cell hb hB]; exact h.c0, by rw [Below.cell hb hB]; exact h.c1, by rw [Below.cell hb hB]; exact h.c2, Nat.lt_of_lt_of_le h.lt hb.size⟩
theorem El.past {w w' : World} {g o : Nat} {a : Rw} (h : El w g o a) (hb : Below w.heap.size w w') : El w' g o a := h.below hb h.lt
theorem El.drew {w : World} {g o : Nat} {a : Rw} (h : El w g o a) : El w.drew g o a := ⟨h.c0, h.c1, h.c2, h.lt⟩
theorem El.laid {w : World} {g o : Nat} {a : Rw} (h : El w g o a) (ob : Obj) : El (w.alloc ob) g o a := h.past (c0y _ _)
theorem El.set {w : World} {g o k i : Nat} {a : Rw} {v : Value} (h : El w g o a) (hne : g < k) : El (w.setCell ⟨k, i, none⟩ v) g o a :=
 h.below ((Below.refl k w).setCell (p := ⟨k, i, none⟩) (Nat.le_refl _) v) hne
def Tb (w : World) (b : Nat) (t : TypeId) : Prop := ∃ vs fz, w.heap[b]? = some (.cells vs t fz)
theorem Tb.lt {w : World} {b : Nat} {t : TypeId} (h : Tb w b t) : b < w.heap.size := by
 obtain ⟨_, _, h⟩ := h
 exact (Array.getElem?_eq_some_iff.1 h).1
theorem Tb.past {w w' : World} {b : Nat} {t : TypeId} (h : Tb w b t) (hb : Below w.heap.size w w') : Tb w' b t := by
 have hl := h.lt
 obtain ⟨vs, fz, h⟩ := h
 exact ⟨vs, fz, (hb.block _ hl).trans h⟩
theorem Tb.drew {w : World} {b : Nat} {t : TypeId} (h : Tb w b t) : Tb w.drew b t := h
theorem Tb.only {w w' : World} {b k : Nat} {t : TypeId} (h : Tb w b t) (hb : Only k w w') (hne : b ≠ k) : Tb w' b t := by
 obtain ⟨vs, fz, h⟩ := h
 exact ⟨vs, fz, (hb.block _ hne).trans h⟩
theorem _root_.Go.Slip.Own.ne_tb {w : World} {base b : Nat} {k : IntKind} {e t : TypeId} {p : OA} {c : Nat} {xs : List Nat} (h : Own w base k e p c xs) (hb : Tb w b t) (hne : e ≠ t) (hp : p.isSome = true) : blk p ≠ b := by
 obtain ⟨vs, fz, hb⟩ := hb
 rcases h.2 with ⟨h1, _⟩ | ⟨g, cap, cur, hv, _, hg, _⟩
 · simp only [Value.slice.injEq] at h1
   rw [h1.1] at hp; simp at hp
 · simp only [Value.slice.injEq] at hv
   obtain ⟨rfl, _, rfl⟩ := hv
   intro h2
   have h3 : g = b := h2
   rw [h3, hb] at hg
   simp only [Option.some.injEq, Obj.cells.injEq] at hg
   exact hne hg.2.1.symm
theorem q0k {w : World} {base : Nat} {k : IntKind} {e : TypeId} {p : OA} {c : Nat} {X : List Nat} (h : Own w base k e p c X) (j : Nat) (hj : j < X.length) :
 (∀ i, at_ (p.map (·.add j)) i = at_ p (j + i)) ∧ h0m (p.map (·.add j)) (X.length - j) := by
 have h1 := h.rd.solid (by omega)
 refine ⟨fun i => c1s p j i h1.1, ?_⟩
 have := (h.rd.drop j).solid
 rwa [List.length_drop] at this
def f1n (w : World) (base : Nat) (e : TypeId) (p : OA) (c : Nat) (X ys : List Nat) (j t : Nat) (en : Ending) (w' : World) : Prop :=
 ∃ L br, br ≤ 1 ∧ en = .returned (.bool (decide (0 < br))) ∧ Own w' base .u32 e p c L ∧ w.grownBy w' (some (blk p)) ∧ Below base w w' ∧
  c0u L X j (ys.length + 1) ∧ val B32 L + B32 ^ j * (t * val B32 ys) = val B32 X + br * B32 ^ (j + (ys.length + 1))
theorem s0o (p pw q : OA) (c cw n m d : Nat) (X ys : List Nat) (j t base : Nat) (w : World) (hX : Own w base .u32 139 p c X) (hq : Rd w .u32 q ys) (hpw : pw = p.map (·.add j)) (hm : m = ys.length) (hn : n = ys.length + 1)
 (hj : j + ys.length < X.length) (hxl : ∀ x ∈ X, x < B32) (hyl : ∀ x ∈ ys, x < B32) (ht : t < 4294967296) (hap : n0e p q ys) (hps : p.isSome = true) (hl : X.length ≤ 1000000000) :
 Calls Tryz.prog 115 #[.slice pw n cw, .slice q m d, .int .u32 t] w (f1n w base 139 p c X ys j t) := by
 subst hm hn
 obtain ⟨hat, hsw⟩ := q0k hX j (by omega)
 have hsw := hsw.mono (show ys.length + 1 ≤ X.length - j by omega)
 rw [← hpw] at hat hsw
 clear hpw
 have hsy := hq.solid
 have HXL := lHd hxl
 have HYL := lHd hyl
 have HAT := lHd hat
 have H0 := lHd (r0f.start hxl ys j t)
 have HPS := lHd hps
 clear hxl hyl hat hps
 go_enter Tryz.func115, Tryz.ntmps115
 go_wp2
 go_loopw [7, 8, 14] (fun cv bv iv wr => ∃ (i cr br : Nat) (L : List Nat), iv = .int .i64 i ∧ cv = .int .u64 cr ∧ bv = .int .u32 br ∧ i ≤ ys.length ∧ cr < 4294967296 ∧ br ≤ 1 ∧ Hid (L.length = X.length) ∧ Own wr base .u32 139 p c L ∧ w.grownBy wr (some (blk p)) ∧ Below base w wr ∧ Hid (r0f L X ys j t i cr br))
  (fun _ _ iv _ => ys.length - (intOf iv).toNat)
 case atStart => exact ⟨0, 0, 0, X, rfl, rfl, rfl, Nat.zero_le _, by omega, by omega, rfl, hX, World.grownBy.refl _ _, Below.refl _ _, H0⟩
 case round =>
  obtain ⟨i, cr, br, L, rfl, rfl, rfl, hi, hcr, hbr, hL, hoL, hgL, hbL, HR⟩ := hrel
  have hqL := hq.written hgL hap HPS.out
  have hLd := a0r (B := 4294967296) (by omega) L HR.out.1.1 (j + i)
  have hXd := a0r (B := 4294967296) (by omega) X HXL.out (j + i)
  have hc1 := hoL.rd.cells (j + i) (by rw [hL.out]; omega)
  rw [← HAT.out i] at hc1
  by_cases hlt : i < ys.length
  · have hc2 := hqL.cells i hlt
    have hyd := a0r (B := 4294967296) (by omega) ys HYL.out i
    obtain ⟨hpr, hpr0⟩ := x0d hyd ht
    obtain ⟨P, hP⟩ : ∃ P, P = dg ys i * t + cr := ⟨_, rfl⟩
    have HS := lHd (HR.out.step (by omega) hXd hbr P hP)
    have et : (dg ys i : Int) * (t : Nat) + (cr : Nat) = (P : Nat) := by rw [hP]; simp
    have hP0 : P < 18446744073709551616 := by omega
    obtain ⟨pl, hpl⟩ : ∃ pl, pl = P % 4294967296 := ⟨_, rfl⟩
    obtain ⟨ph, hph⟩ : ∃ ph, ph = P / 4294967296 := ⟨_, rfl⟩
    have em : (P : Int) % 4294967296 = (pl : Nat) := by omega
    have ed : (P : Int) / 4294967296 = (ph : Nat) := by omega
    have hpl0 : pl < 4294967296 := by omega
    have hph0 : ph < 4294967296 := by omega
    rw [← hpl, ← hph] at HS
    have HC := r0e (dg L (j + i)) pl br
    clear hP hpl hph
    go_wp2_with (first
      | (go_at_call 165; refine (k0y _ _ br _ hLd hpl0 hbr).mono ?_; rintro e w2 ⟨rfl, rfl⟩)
      | (refine b0a rfl _ _ _ rfl 139 b0y _ _ _ _ hoL (j + i) (by rw [hL.out]; omega) _ ?_ (by rw [← HAT.out i]; rfl) rfl ?_; omega; intro w3 ho3 hg3 hb3))
    rw [Int.toNat_natCast] at ho3
    go_roundw
    case rel => exact ⟨i + 1, ph, subB (dg L (j + i)) pl br, _, by go_num, rfl, rfl, hlt, hph0, HC, (by show (List.set _ _ _).length = _; rw [List.length_set]; exact hL.out), ho3, hgL.trans hg3, hbL.trans hb3, HS⟩
    case measure => simp [intOf]; omega
  · obtain rfl : i = ys.length := by omega
    obtain ⟨HW, HV⟩ := HR.out.last (by omega) hXd hbr hcr
    have HW := lHd HW
    have HV := lHd HV
    have HC := r0e (dg L (j + ys.length)) cr br
    have ec : (cr : Int) % 4294967296 = (cr : Nat) := by omega
    go_wp2_with (first
      | (go_at_call 165; refine (k0y _ _ br _ hLd hcr hbr).mono ?_; rintro e w2 ⟨rfl, rfl⟩)
      | (refine b0a rfl _ _ _ rfl 139 b0y _ _ _ _ hoL (j + ys.length) (by rw [hL.out]; omega) _ ?_ (by rw [← HAT.out ys.length]; rfl) rfl ?_; omega; intro w3 ho3 hg3 hb3))
    rw [Int.toNat_natCast] at ho3
    go_ret
    exact ⟨_, subB (dg L (j + ys.length)) cr br, HC, i1c (by simp), ho3, hgL.trans hg3, hbL.trans hb3, HW.out, HV.out⟩
def f1o (w : World) (base : Nat) (e : TypeId) (p : OA) (c : Nat) (X ys : List Nat) (j : Nat) (en : Ending) (w' : World) : Prop :=
 ∃ L co, en = .returned (.tuple #[]) ∧ Own w' base .u32 e p c L ∧ w.grownBy w' (some (blk p)) ∧ Below base w w' ∧
  c0u L X j (ys.length + 1) ∧ val B32 L + co * B32 ^ (j + (ys.length + 1)) = val B32 X + B32 ^ j * val B32 ys
theorem s0p (p pw q : OA) (c cw n m d : Nat) (X ys : List Nat) (j base : Nat) (w : World) (hX : Own w base .u32 139 p c X) (hq : Rd w .u32 q ys) (hpw : pw = p.map (·.add j)) (hm : m = ys.length) (hn : n = ys.length + 1)
 (hj : j + ys.length < X.length) (hxl : ∀ x ∈ X, x < B32) (hyl : ∀ x ∈ ys, x < B32) (hap : n0e p q ys) (hps : p.isSome = true) (hl : X.length ≤ 1000000000) :
 Calls Tryz.prog 116 #[.slice pw n cw, .slice q m d] w (f1o w base 139 p c X ys j) := by
 subst hm hn
 obtain ⟨hat, hsw⟩ := q0k hX j (by omega)
 have hsw := hsw.mono (show ys.length + 1 ≤ X.length - j by omega)
 rw [← hpw] at hat hsw
 clear hpw
 have hsy := hq.solid
 have HXL := lHd hxl
 have HYL := lHd hyl
 have HAT := lHd hat
 have H0 := lHd (r0g.start hxl ys j)
 have HPS := lHd hps
 clear hxl hyl hat hps
 go_enter Tryz.func116, Tryz.ntmps116
 go_wp2
 go_loopw [4, 9] (fun cv iv wr => ∃ (i cr : Nat) (L : List Nat), iv = .int .i64 i ∧ cv = .int .u32 cr ∧ i ≤ ys.length ∧ cr ≤ 1 ∧ Hid (L.length = X.length) ∧ Own wr base .u32 139 p c L ∧ w.grownBy wr (some (blk p)) ∧ Below base w wr ∧ Hid (r0g L X ys j i cr))
  (fun _ iv _ => ys.length - (intOf iv).toNat)
 case atStart => exact ⟨0, 0, X, rfl, rfl, Nat.zero_le _, by omega, rfl, hX, World.grownBy.refl _ _, Below.refl _ _, H0⟩
 case round =>
  obtain ⟨i, cr, L, rfl, rfl, hi, hcr, hL, hoL, hgL, hbL, HR⟩ := hrel
  have hqL := hq.written hgL hap HPS.out
  have hLd := a0r (B := 4294967296) (by omega) L HR.out.1.1 (j + i)
  have hc1 := hoL.rd.cells (j + i) (by rw [hL.out]; omega)
  rw [← HAT.out i] at hc1
  by_cases hlt : i < ys.length
  · have hc2 := hqL.cells i hlt
    have hyd := a0r (B := 4294967296) (by omega) ys HYL.out i
    have HS := lHd (HR.out.step (by omega) _ rfl)
    have HC : (dg L (j + i) + dg ys i + cr) / 4294967296 ≤ 1 := by omega
    go_wp2_with (first
      | (go_at_call 137; refine (h0s _ _ cr _ hLd hyd hcr).mono ?_; rintro e w2 ⟨rfl, rfl⟩)
      | (refine b0a rfl _ _ _ rfl 139 b0y _ _ _ _ hoL (j + i) (by rw [hL.out]; omega) _ ?_ (by rw [← HAT.out i]; rfl) rfl ?_; omega; intro w3 ho3 hg3 hb3))
    have e3 : (((dg L (j + i) : Int) + dg ys i + cr) % 4294967296).toNat = (dg L (j + i) + dg ys i + cr) % 4294967296 := by omega
    rw [e3] at ho3
    go_roundw
    case rel => exact ⟨i + 1, (dg L (j + i) + dg ys i + cr) / 4294967296, _, by go_num, by go_num, hlt, HC, (by show (List.set _ _ _).length = _; rw [List.length_set]; exact hL.out), ho3, hgL.trans hg3, hbL.trans hb3, HS⟩
    case measure => simp [intOf]; omega
  · obtain rfl : i = ys.length := by omega
    obtain ⟨HW, HV⟩ := HR.out.last (by omega)
    have HW := lHd HW
    have HV := lHd HV
    go_wp2_with (refine b0a rfl _ _ _ rfl 139 b0y _ _ _ _ hoL (j + ys.length) (by rw [hL.out]; omega) _ ?_ (by rw [← HAT.out ys.length]; rfl) rfl ?_; omega; intro w3 ho3 hg3 hb3)
    have e3 : (((dg L (j + ys.length) : Int) + cr) % 4294967296).toNat = (dg L (j + ys.length) + cr) % 4294967296 := by omega
    rw [e3] at ho3
    go_end0
    exact ⟨_, _, rfl, ho3, hgL.trans hg3, hbL.trans hb3, HW.out, HV.out⟩
theorem j1w (x : Nat) (w : World) (h1 : x < 4294967296) :
 Calls Tryz.prog 114 #[.int .u32 x] w fun e w' => e = .returned (.int .i64 ((32 - blen x : Nat) : Int)) ∧ w = w' := by
 have hb : blen x ≤ 32 := (a0w x 32).2 (by omega)
 go_enter Tryz.func114, Tryz.ntmps114
 go_wp2_with (go_at_call 135; refine (u0m x _ h1).mono ?_; rintro e w1 ⟨rfl, rfl⟩)
 go_ret
 exact ⟨j0n (by omega), rfl⟩
theorem _root_.Go.Slip.DivRel.even' {A mm j t r : Nat} {ys U Q L : List Nat} (h : DivRel A (val B32 ys) ys.length U Q (j + 1)) (k : e0s ys U mm j) (ht : i0v ys U mm j t r) (hj : j < Q.length) (hB : t < 4294967296)
 (hw : c0u L U j (ys.length + 1)) (hv : val B32 L + B32 ^ j * (t * val B32 ys) = val B32 U + 0 * B32 ^ (j + (ys.length + 1))) : DivRel A (val B32 ys) ys.length L (Q.set j t) j := by
 have e := k.ly
 rw [e] at h hw hv ⊢
 exact h.even k ht hj hB hw hv
theorem _root_.Go.Slip.DivRel.owed' {A mm j t r co : Nat} {ys U Q L M : List Nat} (h : DivRel A (val B32 ys) ys.length U Q (j + 1)) (k : e0s ys U mm j) (ht : i0v ys U mm j t r) (he : t ≤ val B32 (U.drop j) / val B32 ys + 1) (hj : j < Q.length) (hB : t < 4294967296)
 (hw : c0u L U j (ys.length + 1)) (hv : val B32 L + B32 ^ j * (t * val B32 ys) = val B32 U + 1 * B32 ^ (j + (ys.length + 1)))
 (hw2 : c0u M L j (ys.length + 1)) (hv2 : val B32 M + co * B32 ^ (j + (ys.length + 1)) = val B32 L + B32 ^ j * val B32 ys) : 0 < t ∧ DivRel A (val B32 ys) ys.length M (Q.set j (t - 1)) j := by
 have e := k.ly
 rw [e] at h hw hv hw2 hv2 ⊢
 exact h.owed k ht he hj hB hw hv hw2 hv2
theorem s0q {mm j t : Nat} {ys U L : List Nat} (k : e0s ys U mm j) (hw : c0u L U j (ys.length + 1)) (hv : val B32 L + B32 ^ j * (t * val B32 ys) = val B32 U + 1 * B32 ^ (j + (ys.length + 1))) : 0 < t := by
 have e := k.ly
 rw [e] at hw hv
 have h1 := d1f hw hv
 have h2 := d1g hw k.z
 rcases Nat.eq_zero_or_pos t with h0 | h0
 · subst h0
   rw [Nat.zero_mul] at h1
   omega
 · exact h0
def z0a (w : World) (e : TypeId) (xs ys : List Nat) (en : Ending) (w' : World) : Prop :=
 ∃ p c q d, en = .returned (.tuple #[.slice p xs.length c, .slice q ys.length d]) ∧ Own w' w.heap.size .u32 e p c xs ∧ Own w' w.heap.size .u32 e q d ys ∧ Below w.heap.size w w' ∧ (p.isSome = true → q.isSome = true → blk p ≠ blk q)
theorem j1x (p q : OA) (n m c d : Nat) (a b : Nat) (w : World) (hp : Rd w .u32 p (dig B32 a)) (hq : Rd w .u32 q (dig B32 b)) (hn : n = (dig B32 a).length) (hm : m = (dig B32 b).length)
 (hl : (dig B32 a).length ≤ 1000000000) (hl2 : (dig B32 b).length ≤ 1000000000) (hab : a < b) :
 Calls Tryz.prog 49 #[.slice p n c, .slice q m d] w (z0a w 139 [] (dig B32 a)) := by
 subst hn hm
 have hC : cmpN a b ≤ -1 := by rw [n0f hab]; omega
 go_enter Tryz.func49, Tryz.ntmps49
 go_wp2_with fail
 refine (e0a p q _ _ c d a b _ hp hq rfl rfl (by omega) (by omega)).mono ?_
 rintro e w1 ⟨rfl, hb1⟩
 go_wp2_with fail
 refine (h0r p _ c _ _ (hp.past hb1) rfl hl).mono ?_
 rintro e w2 ⟨p2, c2, rfl, ho2, hb2⟩
 go_wp2_with fail
 go_ret2
 exact ⟨none, 0, p2, c2, rfl, Own.nil _ _ _ _, ho2.mono hb1.size, hb1.trans (hb2.mono hb1.size), fun h => by simp at h⟩
theorem f1p (p q : OA) (n m c d : Nat) (a b : Nat) (w : World) (hp : Rd w .u32 p (dig B32 a)) (hq : Rd w .u32 q [b]) (hn : n = (dig B32 a).length) (hm : m = 1)
 (hl : (dig B32 a).length ≤ 1000000000) (hb0 : 0 < b) (hb1 : b < 4294967296) (hab : b ≤ a) :
 Calls Tryz.prog 49 #[.slice p n c, .slice q m d] w (z0a w 139 (dig B32 (a / b)) (dig B32 (a % b))) := by
 subst hn hm
 have hC : 0 ≤ cmpN a b := by unfold cmpN; rw [if_neg (by omega)]; split <;> omega
 have eb : [b] = dig B32 b := by rw [e0e a0b hb0, Nat.div_eq_of_lt (by unfold B32; omega), a0e, Nat.mod_eq_of_lt (by unfold B32; omega)]
 have hr : a % b < 4294967296 := Nat.lt_trans (Nat.mod_lt a hb0) hb1
 obtain ⟨r, hrr⟩ : ∃ r, a % b = r := ⟨_, rfl⟩
 have HR := lHd hrr
 rw [hrr] at hr ⊢
 clear hrr
 have hX := lHd (show ∀ x ∈ [r], x < B32 by simp; unfold B32; omega)
 have hV := lHd (show val B32 [r] = r by simp)
 have hq2 := lHd (show Rd w .u32 q (dig B32 b) by rw [← eb]; exact hq)
 have hl1 := lHd (show 1 = (dig B32 b).length by rw [← eb]; rfl)
 clear eb
 have hsq := hq.solid
 simp only [List.length_singleton] at hsq
 go_enter Tryz.func49, Tryz.ntmps49
 go_wp2_with fail
 refine (e0a p q _ 1 c d a b _ hp hq2.out rfl hl1.out (by omega) (by rw [← hl1.out]; omega)).mono ?_
 rintro e w1 ⟨rfl, hb1'⟩
 have hcd : w1.cell? (at_ q 0) = some (.int .u32 (b : Nat)) := (hq.past hb1').cells 0 (by simp)
 go_wp2_with fail
 refine (u0r p _ c a b _ (hp.past hb1') rfl hl hb0 hb1).mono ?_
 rw [HR.out]
 rintro e w2 ⟨p2, c2, rfl, ho2, hb2⟩
 go_wp2_with (refine c0l rfl _ _ rfl b0y _ ?_ rfl ?_; omega; intro p3 w3 ho3 hb3 hz3 hp3)
 rw [Int.toNat_natCast] at ho3
 refine (f0e p3 1 1 [r] _ ho3.rd rfl (by simp) hX.out (by simp)).mono ?_
 rintro e w4 ⟨rfl, rfl⟩
 rw [hV.out]
 go_wp2_with fail
 go_ret2
 have ht := c0d a0b [r] hX.out
 have ho4 := ho3.take (dig B32 (val B32 [r])).length
 rw [ht, hV.out] at ho4
 have hs2 := hb1'.trans (hb2.mono hb1'.size)
 exact ⟨p2, c2, p3, _, rfl, (ho2.past hb3).mono hb1'.size, ho4.mono hs2.size, hs2.trans (hb3.mono hs2.size), fun h1 h2 => by have := (ho2.blk_lt h1).2; have := (ho4.blk_lt h2).1; omega⟩
theorem j1y (p q : OA) (n m c d : Nat) (a b : Nat) (w : World) (hp : Rd w .u32 p (dig B32 a)) (hq : Rd w .u32 q (dig B32 b)) (hn : n = (dig B32 a).length) (hm : m = (dig B32 b).length)
 (hl : (dig B32 a).length ≤ 100000000) (h2 : 2 ≤ (dig B32 b).length) (hab : b ≤ a) :
 Calls Tryz.prog 49 #[.slice p n c, .slice q m d] w (z0a w 139 (dig B32 (a / b)) (dig B32 (a % b))) := by
 subst hn hm
 have hC : 0 ≤ cmpN a b := by unfold cmpN; rw [if_neg (by omega)]; split <;> omega
 have hlb := a0l a0b hab
 have hb0 : 0 < b := by
  have := a0h a0b b
  omega
 obtain ⟨bt, hbt⟩ : ∃ bt, bt = dg (dig B32 b) ((dig B32 b).length - 1) := ⟨_, rfl⟩
 have hbt1 : bt < 4294967296 := by rw [hbt]; exact a0r (B := 4294967296) (by omega) _ (c0c a0b b) _
 have hbt2 : blen bt ≤ 32 := (a0w bt 32).2 (by omega)
 have hbt3 : 1 ≤ blen bt := (e0k bt).2 (by rw [hbt]; exact (m0u (B := B32) (s := 32) (by decide) a0b b hb0).2)
 obtain ⟨s, hs⟩ : ∃ s, s = 32 - blen bt := ⟨_, rfl⟩
 obtain ⟨nl, nt⟩ := i1i hb0 (s := s) (by rw [← hbt]; omega)
 have hs32 : s < 32 := by omega
 have HS := lHd hs
 have hcb := hq.cells ((dig B32 b).length - 1) (by omega)
 rw [← hbt] at hcb
 have t1 : (((dig B32 b).length : Int) == 1) = false := bFn (by omega)
 have lu1 := a0l a0b (show a ≤ a * 2 ^ s from Nat.le_mul_of_pos_right _ (Nat.pow_pos (by omega)))
 have lu2 : (dig B32 (a * 2 ^ s)).length ≤ (dig B32 a).length + 2 := by
  refine Nat.le_trans (b0l a0b _ _) ?_
  have : (dig B32 (2 ^ s)).length ≤ 1 := (a0g a0b _ 1).2 (Nat.lt_of_lt_of_le (Nat.pow_lt_pow_right (by omega) hs32) (by decide))
  omega
 obtain ⟨ys, hys⟩ : ∃ ys, ys = dig B32 (b * 2 ^ s) := ⟨_, rfl⟩
 obtain ⟨us, hus⟩ : ∃ us, us = dig B32 (a * 2 ^ s) := ⟨_, rfl⟩
 obtain ⟨mm, hmm⟩ : ∃ mm, ys.length = mm + 2 := ⟨ys.length - 2, by rw [hys, nl]; omega⟩
 have HYD := lHd (show ∀ x ∈ ys, x < B32 by rw [hys]; exact c0c a0b _)
 have HYV := lHd (show val B32 ys = b * 2 ^ s by rw [hys]; exact b0o a0b _)
 have hbig : 2147483648 ≤ dg ys (mm + 1) := by
  rw [hys, show mm + 1 = (dig B32 b).length - 1 by rw [← nl, ← hys, hmm]; omega]; exact nt
 rw [← hys] at nl
 rw [← hus] at lu1 lu2
 have hyl1 := Nat.le_of_eq nl
 have hyl2 := Nat.le_of_eq nl.symm
 have hU0 : DivRel (a * 2 ^ s) (val B32 ys) ys.length (us ++ [0]) (List.replicate (us.length + 1 - ys.length) 0) (us.length + 1 - ys.length) := by
  have := DivRel.start (A := a * 2 ^ s) (V := val B32 ys) (n := ys.length) (U := us ++ [0]) (fun x hx => by
    rcases List.mem_append.1 hx with h | h
    · rw [hus] at h; exact c0c a0b _ x h
    · simp at h; rw [h]; exact c0j) (by simp; omega) (by omega) (by rw [e0i, hus, b0o a0b]; simp)
   (by simp; rw [hus]; exact (a0g a0b _ _).1 (Nat.le_refl _))
   (by rw [HYV.out, hys]; exact e0f a0b _ (Nat.mul_pos hb0 (Nat.pow_pos (by omega))))
  simpa using this
 have HU0 := lHd hU0
 have HYS := lHd hys
 have HUS := lHd hus
 have HMM := lHd hmm
 obtain ⟨QL, hQL⟩ : ∃ QL, QL = us.length + 1 - ys.length := ⟨_, rfl⟩
 rw [← hQL] at HU0
 have q1 : QL + ys.length ≤ us.length + 1 := by omega
 have q2 : us.length + 1 ≤ QL + ys.length := by omega
 have y2 : 2 ≤ ys.length := by omega
 have HB0 := lHd hb0
 have HBT := lHd hbt
 clear hbt hs nl nt hU0 hys hus hmm hQL hb0
 go_enter Tryz.func49, Tryz.ntmps49
 go_wp2_with fail
 refine (e0a p q _ _ c d a b _ hp hq rfl rfl (by omega) (by omega)).mono ?_
 rintro e w1 ⟨rfl, hb1⟩
 have hp1 := hp.past hb1
 have hq1 := hq.past hb1
 have hsq := hq1.solid
 have hcb1 : w1.cell? (at_ q ((dig B32 b).length - 1)) = some (.int .u32 (bt : Nat)) := by
  have h := hq1.cells ((dig B32 b).length - 1) (by omega)
  rw [← HBT.out] at h; exact h
 go_wp2_with fail
 refine (j1w bt _ hbt1).mono ?_
 rintro e w2 ⟨rfl, rfl⟩
 rw [← HS.out]
 go_wp2_with fail
 refine (i0c q _ d b s _ hq1 rfl (by omega) (by omega)).mono ?_
 rw [← HYS.out]
 rintro e w3 ⟨pv, cv, rfl, hov, hb3⟩
 have hs3 := hb1.trans (hb3.mono hb1.size)
 go_wp2_with fail
 refine (i0c p _ c a s _ (hp1.past hb3) rfl (by omega) (by omega)).mono ?_
 rw [← HUS.out]
 rintro e w4 ⟨pu0, cu0, rfl, hou0, hb4⟩
 have hs4 := hs3.trans (hb4.mono hs3.size)
 go_wp2_with (first
   | (refine c0l rfl _ _ rfl b0y 0 (by omega) rfl ?_; intro p5 w5 ho5 hb5 hz5 hp5)
   | (at_builtin; refine c0k rfl _ _ _ rfl b0y w3.heap.size _ _ _ _ (hou0.past hb5) rfl _ _ _ _ ho5.rd rfl rfl rfl ?_ ?_ ?_; (simp; omega); (have := hb5.size; have := hb4.size; omega); intro pu cu w6 hou hg6 hb6 hn6))
 have hs5 := hs4.trans (hb5.mono hs4.size)
 have hs6 := hs5.trans (hb6.mono hs3.size)
 have hvl := hov.rd.lt (by omega)
 have hsz3 := hs3.size
 have hvr6 := ((hov.rd.past hb4).past hb5).below hb6 (fun _ => hvl)
 have hus6 := hou.solid
 rw [List.length_append, List.length_singleton] at hus6
 clear hb1 hb3 hb4 hb5 hb6 hs3 hs4 hs5 hp1 hq1 hcb hcb1 hsq t1 hn6 hg6 hou0 ho5 hz5 hp5
 go_loopw [10] (fun uv wr => uv = .slice pu (us.length + 1) cu ∧ w6 = wr) (fun _ _ => 0)
 case atStart => exact ⟨rfl, rfl⟩
 case round =>
  obtain ⟨rfl, rfl⟩ := hrel
  go_wp2_with (refine r0c rfl _ _ _ rfl b0y .i64 .i64 QL _ _ rfl rfl ?_ ?_ ?_ ?_; omega; omega; omega; intro pq cq w7 hoq hb7 hz7)
  obtain ⟨top, htop⟩ : ∃ top, dg ys (ys.length - 1) = top := ⟨_, rfl⟩
  obtain ⟨nx, hnx⟩ : ∃ nx, dg ys (ys.length - 2) = nx := ⟨_, rfl⟩
  have hvr7 := hvr6.past hb7
  have hc1 := hvr7.cells (ys.length - 1) (by omega)
  have hc2 := hvr7.cells (ys.length - 2) (by omega)
  rw [htop] at hc1
  rw [hnx] at hc2
  have hvs := hvr7.solid
  have htop1 : top < 4294967296 := by rw [← htop]; exact a0r (B := 4294967296) (by omega) ys HYD.out _
  have hnx1 : nx < 4294967296 := by rw [← hnx]; exact a0r (B := 4294967296) (by omega) ys HYD.out _
  have htop2 : 2147483648 ≤ top := by rw [← htop, HMM.out]; exact hbig
  have HTOP := lHd htop
  have HNX := lHd hnx
  clear htop hnx hbig
  have b1 : (0 : Int) ≤ (ys.length : Int) - 1 := by omega
  have b2 : (ys.length : Int) - 1 < (ys.length : Int) := by omega
  have b3 : (0 : Int) ≤ (ys.length : Int) - 2 := by omega
  have b4 : (ys.length : Int) - 2 < (ys.length : Int) := by omega
  have e1 : IntKind.i64.wrap ((ys.length : Int) - 1) = (ys.length : Int) - 1 := iwo
  have e2 : IntKind.i64.wrap ((ys.length : Int) - 2) = (ys.length : Int) - 2 := iwo
  have e3 : ((ys.length : Int) - 1).toNat = ys.length - 1 := by omega
  have e4 : ((ys.length : Int) - 2).toNat = ys.length - 2 := by omega
  have e5 : IntKind.u64.wrap (top : Int) = (top : Int) := IntWalk.u64_in _ (by omega)
  have e6 : IntKind.u64.wrap (nx : Int) = (nx : Int) := IntWalk.u64_in _ (by omega)
  go_wp2_with fail
  go_quiet (fail)
  clear b1 b2 b3 b4 e1 e2 e3 e4 e5 e6 hc1 hc2
  have hsvu : w3.heap.size ≤ w6.heap.size := by
   have := hou.rd.lt (by simp)
   have := (hou.blk_lt (hou.rd.solid (by simp)).1).1
   omega
  have hou7 := hou.past hb7
  have hups := (hou.rd.solid (by simp)).1
  have hbu := hou.blk_lt hups
  have hvu : blk pv ≠ blk pu := by omega
  have hqu : pq.isSome = true → some (blk pq) ≠ some (blk pu) := fun h => by
   have := hoq.blk_lt h
   simp only [ne_eq, Option.some.injEq]; omega
  have hqv : pq.isSome = true → blk pq ≠ blk pv := fun h => by
   have := hoq.blk_lt h
   omega
  have HVU := lHd hvu
  have HQU := lHd hqu
  have HQV := lHd hqv
  have HUPS := lHd hups
  have hs7 := hs6.trans (hb7.mono hs6.size)
  have hsz6 := hs6.size
  clear hvu hqu hqv hups hbu hsvu
  have hcu := hou.le_cap
  rw [List.length_append, List.length_singleton] at hcu
  go_wp2_with fail
  go_loopw [15] (fun jv wr => ∃ (k : Nat) (U Q : List Nat), jv = .int .i64 ((k : Int) - 1) ∧ k ≤ QL ∧ Hid (U.length = us.length + 1) ∧ Hid (Q.length = QL) ∧ Own wr w3.heap.size .u32 139 pu cu U ∧
      Own wr w6.heap.size .u32 139 pq cq Q ∧ Below w.heap.size w wr ∧ Rd wr .u32 pv ys ∧ Hid (DivRel (a * 2 ^ s) (val B32 ys) ys.length U Q k))
   (fun jv _ => (intOf jv + 1).toNat)
  case atStart => exact ⟨QL, _, _, by go_num, Nat.le_refl _, (by show (us ++ [Int.toNat 0]).length = us.length + 1; simp), List.length_replicate, hou7.drewN _, hoq.drewN _, below_drewN hs7 _, hvr7.drewN _, HU0⟩
  case round =>
   obtain ⟨k, U, Q, rfl, hk, hUl, hQl, hoU, hoQ, hbL, hrv, HR⟩ := hrel
   by_cases h0 : 0 < k
   · obtain ⟨j, rfl⟩ : ∃ j, k = j + 1 := ⟨k - 1, by omega⟩
     have ej : ((j + 1 : Nat) : Int) - 1 = j := by omega
     rw [ej]
     have KN : e0s ys U mm j := ⟨HYD.out, HR.out.dU, HMM.out, by rw [show mm + 1 = ys.length - 1 by rw [HMM.out]; omega, HTOP.out]; exact htop2, HR.out.win⟩
     have KN := lHd KN
     obtain ⟨u2, hu2⟩ : ∃ u2, dg U (j + ys.length) = u2 := ⟨_, rfl⟩
     obtain ⟨u1, hu1⟩ : ∃ u1, dg U (j + ys.length - 1) = u1 := ⟨_, rfl⟩
     obtain ⟨u0, hu0⟩ : ∃ u0, dg U (j + ys.length - 2) = u0 := ⟨_, rfl⟩
     have hc2 := hoU.rd.cells (j + ys.length) (by rw [hUl.out]; omega)
     have hc1 := hoU.rd.cells (j + ys.length - 1) (by rw [hUl.out]; omega)
     have hc0 := hoU.rd.cells (j + ys.length - 2) (by rw [hUl.out]; omega)
     have hsU := hoU.solid
     rw [hUl.out] at hsU
     rw [hu2] at hc2
     rw [hu1] at hc1
     rw [hu0] at hc0
     have hu2l : u2 < 4294967296 := by rw [← hu2]; exact a0r (B := 4294967296) (by omega) U HR.out.dU _
     have hu1l : u1 < 4294967296 := by rw [← hu1]; exact a0r (B := 4294967296) (by omega) U HR.out.dU _
     have hu0l : u0 < 4294967296 := by rw [← hu0]; exact a0r (B := 4294967296) (by omega) U HR.out.dU _
     have HU2 := lHd hu2
     have HU1 := lHd hu1
     have HUZ := lHd hu0
     clear hu2 hu1 hu0
     obtain ⟨two, htwo⟩ : ∃ two, two = u2 * 4294967296 + u1 := ⟨_, rfl⟩
     have HT0 : Hid (i0v ys U mm j (two / top) (two % top)) := by
      have := KN.out.start two (by rw [htwo, ← HU2.out, ← HU1.out, HMM.out]; rfl)
      rw [show mm + 1 = ys.length - 1 by rw [HMM.out]; omega, HTOP.out] at this
      exact this
     have HT0 := lHd HT0.out
     have hor := or32 u2 u1 hu2l hu1l
     have etw : (u2 : Int) * 4294967296 + (u1 : Nat) = (two : Nat) := by omega
     rw [etw] at hor
     have htwl : two < 18446744073709551616 := by omega
     have HTW := lHd htwo
     clear etw htwo
     have b0 : (0 : Int) ≤ (j : Int) + ys.length := by omega
     have b1 : (0 : Int) ≤ (j : Int) + ys.length - 1 := by omega
     have b2 : (j : Int) + ys.length < (us.length : Int) + 1 := by omega
     have b3 : (j : Int) + ys.length - 1 < (us.length : Int) + 1 := by omega
     have e1 : IntKind.i64.wrap ((j : Int) + ys.length) = (j : Int) + ys.length := iwo
     have e2 : IntKind.i64.wrap ((j : Int) + ys.length - 1) = (j : Int) + ys.length - 1 := iwo
     have e3 : ((j : Int) + ys.length).toNat = j + ys.length := by omega
     have e4 : ((j : Int) + ys.length - 1).toNat = j + ys.length - 1 := by omega
     have e5 : IntKind.u64.wrap (u2 : Int) = (u2 : Int) := IntWalk.u64_in _ (by omega)
     have e6 : IntKind.u64.wrap (u1 : Int) = (u1 : Int) := IntWalk.u64_in _ (by omega)
     have e7 : IntKind.u64.wrap ((u2 : Int) * 4294967296) = (u2 : Int) * 4294967296 := IntWalk.u64_in _ (by omega)
     go_wp2_with fail
     go_quiet (fail)
     obtain ⟨n1, rfl⟩ : ∃ n1, n1 = nq := ⟨_, rfl⟩
     go_wp2_with fail
     clear b0 b1 b2 b3 e1 e2 e3 e4 e5 e6 e7 hor
     obtain ⟨t0, ht0⟩ : ∃ t0, t0 = two / top := ⟨_, rfl⟩
     obtain ⟨r0, hr0⟩ : ∃ r0, r0 = two % top := ⟨_, rfl⟩
     rw [← ht0, ← hr0] at HT0
     have hr0l : r0 < 4294967296 := by rw [hr0]; exact Nat.lt_trans (Nat.mod_lt _ (by omega)) htop1
     have ht0l : t0 < 18446744073709551616 := by rw [ht0]; exact Nat.lt_of_le_of_lt (Nat.div_le_self _ _) htwl
     have e1 : (two : Int) / (top : Int) = (t0 : Nat) := by rw [ht0]; rfl
     have e2 : (two : Int).tmod (top : Int) = (r0 : Nat) := by rw [hr0, Int.tmod_eq_emod_of_nonneg (by omega)]; rfl
     have e3 : IntKind.u64.wrap (t0 : Int) = (t0 : Int) := IntWalk.u64_in _ (by omega)
     have e4 : ¬ top = 0 := by omega
     have e5 : IntKind.u64.wrap (r0 : Int) = (r0 : Int) := IntWalk.u64_in _ (by omega)
     clear ht0 hr0
     go_quiet (fail)
     clear e1 e2 e3 e4 e5
     have hoU8 := (hoU.drewN n1).drewN nq
     have hoQ8 := (hoQ.drewN n1).drewN nq
     have hrv8 := (hrv.drewN n1).drewN nq
     have hbL8 := below_drewN (below_drewN hbL n1) nq
     have hc8 := hoU8.rd.cells (j + ys.length - 2) (by rw [hUl.out]; omega)
     rw [HUZ.out] at hc8
     generalize (wr.drewN n1).drewN nq = w8 at *
     clear hc0 hc1 hc2 hoU hoQ hrv hbL
     have hju : j + ys.length + 1 ≤ us.length + 1 := by omega
     have hsQ := hoQ8.solid
     rw [hQl.out] at hsQ
     have hjc : j + ys.length + 1 ≤ cu := by omega
     clear ej
     have HXT : Hid (dg ys (mm + 1) = top) := by show dg ys (mm + 1) = top; rw [show mm + 1 = ys.length - 1 by rw [HMM.out]; omega]; exact HTOP.out
     have HXN : Hid (dg ys mm = nx) := by show dg ys mm = nx; rw [show mm = ys.length - 2 by rw [HMM.out]; omega]; exact HNX.out
     have HXU : Hid (dg U (j + mm) = u0) := by show dg U (j + mm) = u0; rw [show j + mm = j + ys.length - 2 by rw [HMM.out]; omega]; exact HUZ.out
     go_wp2_with fail
     go_loop [17, 18] (fun tv rv => ∃ (t r : Nat), tv = .int .u64 t ∧ rv = .int .u64 r ∧ r < 4294967296 ∧ t ≤ 4294967298 ∧ Hid (i0v ys U mm j t r)) (fun tv _ => (intOf tv).toNat)
     case atStart => exact ⟨t0, r0, rfl, rfl, hr0l, HT0.out.bound KN.out, HT0⟩
     case round =>
      obtain ⟨t, r, rfl, rfl, hrl, htl, HT⟩ := hrel
      by_cases hA : 4294967296 ≤ t
      · obtain ⟨hd1, hd2⟩ := HT.out.down KN.out (.inl hA)
        obtain ⟨u, rfl⟩ : ∃ u, t = u + 1 := ⟨t - 1, by omega⟩
        rw [HXT.out, Nat.add_sub_cancel] at hd2
        have HT' := lHd hd2
        have dA : decide ((4294967296 : Int) ≤ (u : Int) + 1) = true := dTr (by omega)
        clear hd2 hA
        by_cases hbk : 4294967296 ≤ r + top
        · obtain ⟨ht1, ht2⟩ := HT'.out.breaks KN.out hbk
          have HTE := lHd (HT'.out.exit KN.out ht1 ht2)
          have ht1 : u < 4294967296 := ht1
          have dB : decide ((4294967296 : Int) ≤ (r : Int) + (top : Int)) = true := dTr (by omega)
          clear hbk
          go_wp2_with fail
          ((with_reducible refine (s0o pu _ pv cu _ _ _ _ U ys j u w3.heap.size _ hoU8 hrv8 rfl rfl ?_ ?_ ?_ ?_ ?_ ?_ ?_ ?_).mono ?_))
          · omega
          · rw [hUl.out]; omega
          · exact HR.out.dU
          · exact HYD.out
          · exact ht1
          · exact fun _ _ => HVU.out.symm
          · exact HUPS.out
          · rw [hUl.out]; omega
          rintro e w9 ⟨L, br, hbr, rfl, hoL, hgL, hbL9, HW, HV⟩
          have HW := lHd HW
          have HV := lHd HV
          have hoQ9 := hoQ8.grown hgL HQU.out
          have hrv9 := hrv8.written hgL (fun _ _ => HVU.out.symm) HUPS.out
          have hb9 := hbL8.trans (hbL9.mono hsz3)
          have hjQ : j < Q.length := by rw [hQl.out]; omega
          have hqs := lHd (hoQ9.rd.solid (by omega)).1
          have hLl := lHd (show L.length = us.length + 1 by rw [HW.out.2.1]; exact hUl.out)
          rcases (show br = 0 ∨ br = 1 by omega) with rfl | rfl
          · have HS := lHd (HR.out.even' KN.out HT'.out hjQ ht1 HW.out HV.out)
            go_wp2_with (refine b0a rfl _ _ _ rfl 139 b0y _ _ _ _ hoQ9 j hjQ _ ?_ rfl rfl ?_; omega; intro w10 ho10 hg10 hb10)
            rw [Int.toNat_natCast] at ho10
            go_roundw
            case rel => exact ⟨j, L, _, rfl, by omega, hLl, (by show (List.set _ _ _).length = _; rw [List.length_set]; exact hQl.out), hoL.grown hg10 (fun _ => (HQU.out hqs.out).symm), ho10, hb9.trans (hb10.mono hsz6), hrv9.written hg10 (fun _ h => HQV.out h) hqs.out, HS⟩
            case measure => first | (simp [intOf]; done) | (simp [intOf]; omega)
          · have htp : 0 < u := s0q KN.out HW.out HV.out
            obtain ⟨v, rfl⟩ : ∃ v, u = v + 1 := ⟨u - 1, by omega⟩
            go_wp2_with fail
            ((with_reducible refine (s0p pu _ pv cu _ _ _ _ L ys j w3.heap.size _ hoL hrv9 rfl rfl ?_ ?_ ?_ ?_ ?_ ?_ ?_).mono ?_))
            · omega
            · rw [hLl.out]; omega
            · exact HW.out.1
            · exact HYD.out
            · exact fun _ _ => HVU.out.symm
            · exact HUPS.out
            · rw [hLl.out]; omega
            rintro e w10 ⟨M, co, rfl, hoM, hgM, hbM, HW2, HV2⟩
            obtain ⟨_, HS⟩ := HR.out.owed' KN.out HT'.out HTE.out hjQ ht1 HW.out HV.out HW2 HV2
            rw [Nat.add_sub_cancel] at HS
            have HS := lHd HS
            have hMl := lHd (show M.length = us.length + 1 by rw [HW2.2.1]; exact hLl.out)
            have hoQ10 := hoQ9.grown hgM HQU.out
            have hrv10 := hrv9.written hgM (fun _ _ => HVU.out.symm) HUPS.out
            have hb10 := hb9.trans (hbM.mono hsz3)
            clear HW2 HV2
            go_wp2_with (refine b0a rfl _ _ _ rfl 139 b0y _ _ _ _ hoQ10 j hjQ _ ?_ rfl rfl ?_; omega; intro w11 ho11 hg11 hb11)
            rw [Int.toNat_natCast] at ho11
            go_roundw
            case rel => exact ⟨j, M, _, rfl, by omega, hMl, (by show (List.set _ _ _).length = _; rw [List.length_set]; exact hQl.out), hoM.grown hg11 (fun _ => (HQU.out hqs.out).symm), ho11, hb10.trans (hb11.mono hsz6), hrv10.written hg11 (fun _ h => HQV.out h) hqs.out, HS⟩
            case measure => first | (simp [intOf]; done) | (simp [intOf]; omega)
        · have dB : decide ((4294967296 : Int) ≤ (r : Int) + (top : Int)) = false := dFa (by omega)
          have hbk' : r + top < 4294967296 := by omega
          clear hbk
          go_wp2_with fail
          go_round
          case rel => exact ⟨u, r + top, by go_num, by go_num, by omega, by omega, HT'⟩
          case measure => first | (simp [intOf]; done) | (simp [intOf]; omega)
      · have htlt : t < 4294967296 := by omega
        obtain ⟨tn, htn⟩ : ∃ tn, tn = t * nx := ⟨_, rfl⟩
        obtain ⟨rr, hrr⟩ : ∃ rr, rr = r * 4294967296 + u0 := ⟨_, rfl⟩
        have etn : (t : Int) * (nx : Int) = (tn : Nat) := by rw [htn]; simp
        obtain ⟨hpr, hpr0⟩ := x0d htlt hnx1
        rw [etn] at hpr hpr0
        have hor := or32 r u0 hrl hu0l
        have etw : (r : Int) * 4294967296 + (u0 : Nat) = (rr : Nat) := by omega
        rw [etw] at hor
        have dA : decide ((4294967296 : Int) ≤ (t : Int)) = false := dFa (by omega)
        have HTL := lHd htlt
        clear etw hA htlt
        by_cases hB : rr < tn
        · obtain ⟨hd1, hd2⟩ := HT.out.down KN.out (.inr (by rw [HXN.out, HXU.out, ← htn]; show r * 4294967296 + u0 < tn; omega))
          rw [HXT.out] at hd2
          obtain ⟨u, hu⟩ : ∃ u, u = t - 1 := ⟨_, rfl⟩
          rw [← hu] at hd2
          have HT' := lHd hd2
          have e6 : (t : Int) - 1 = (u : Int) := by omega
          have hut : u < t := by omega
          clear hd2 htn hrr hu
          by_cases hbk : 4294967296 ≤ r + top
          · obtain ⟨ht1, ht2⟩ := HT'.out.breaks KN.out hbk
            have HTE := lHd (HT'.out.exit KN.out ht1 ht2)
            have ht1 : u < 4294967296 := ht1
            have dB : decide ((4294967296 : Int) ≤ (r : Int) + (top : Int)) = true := dTr (by omega)
            clear hbk
            go_wp2_with fail
            ((with_reducible refine (s0o pu _ pv cu _ _ _ _ U ys j u w3.heap.size _ hoU8 hrv8 rfl rfl ?_ ?_ ?_ ?_ ?_ ?_ ?_ ?_).mono ?_))
            · omega
            · rw [hUl.out]; omega
            · exact HR.out.dU
            · exact HYD.out
            · exact ht1
            · exact fun _ _ => HVU.out.symm
            · exact HUPS.out
            · rw [hUl.out]; omega
            rintro e w9 ⟨L, br, hbr, rfl, hoL, hgL, hbL9, HW, HV⟩
            have HW := lHd HW
            have HV := lHd HV
            have hoQ9 := hoQ8.grown hgL HQU.out
            have hrv9 := hrv8.written hgL (fun _ _ => HVU.out.symm) HUPS.out
            have hb9 := hbL8.trans (hbL9.mono hsz3)
            have hjQ : j < Q.length := by rw [hQl.out]; omega
            have hqs := lHd (hoQ9.rd.solid (by omega)).1
            have hLl := lHd (show L.length = us.length + 1 by rw [HW.out.2.1]; exact hUl.out)
            rcases (show br = 0 ∨ br = 1 by omega) with rfl | rfl
            · have HS := lHd (HR.out.even' KN.out HT'.out hjQ ht1 HW.out HV.out)
              go_wp2_with (refine b0a rfl _ _ _ rfl 139 b0y _ _ _ _ hoQ9 j hjQ _ ?_ rfl rfl ?_; omega; intro w10 ho10 hg10 hb10)
              rw [Int.toNat_natCast] at ho10
              go_roundw
              case rel => exact ⟨j, L, _, rfl, by omega, hLl, (by show (List.set _ _ _).length = _; rw [List.length_set]; exact hQl.out), hoL.grown hg10 (fun _ => (HQU.out hqs.out).symm), ho10, hb9.trans (hb10.mono hsz6), hrv9.written hg10 (fun _ h => HQV.out h) hqs.out, HS⟩
              case measure => first | (simp [intOf]; done) | (simp [intOf]; omega)
            · have htp : 0 < u := s0q KN.out HW.out HV.out
              obtain ⟨v, rfl⟩ : ∃ v, u = v + 1 := ⟨u - 1, by omega⟩
              go_wp2_with fail
              ((with_reducible refine (s0p pu _ pv cu _ _ _ _ L ys j w3.heap.size _ hoL hrv9 rfl rfl ?_ ?_ ?_ ?_ ?_ ?_ ?_).mono ?_))
              · omega
              · rw [hLl.out]; omega
              · exact HW.out.1
              · exact HYD.out
              · exact fun _ _ => HVU.out.symm
              · exact HUPS.out
              · rw [hLl.out]; omega
              rintro e w10 ⟨M, co, rfl, hoM, hgM, hbM, HW2, HV2⟩
              obtain ⟨_, HS⟩ := HR.out.owed' KN.out HT'.out HTE.out hjQ ht1 HW.out HV.out HW2 HV2
              rw [Nat.add_sub_cancel] at HS
              have HS := lHd HS
              have hMl := lHd (show M.length = us.length + 1 by rw [HW2.2.1]; exact hLl.out)
              have hoQ10 := hoQ9.grown hgM HQU.out
              have hrv10 := hrv9.written hgM (fun _ _ => HVU.out.symm) HUPS.out
              have hb10 := hb9.trans (hbM.mono hsz3)
              clear HW2 HV2
              go_wp2_with (refine b0a rfl _ _ _ rfl 139 b0y _ _ _ _ hoQ10 j hjQ _ ?_ rfl rfl ?_; omega; intro w11 ho11 hg11 hb11)
              rw [Int.toNat_natCast] at ho11
              go_roundw
              case rel => exact ⟨j, M, _, rfl, by omega, hMl, (by show (List.set _ _ _).length = _; rw [List.length_set]; exact hQl.out), hoM.grown hg11 (fun _ => (HQU.out hqs.out).symm), ho11, hb10.trans (hb11.mono hsz6), hrv10.written hg11 (fun _ h => HQV.out h) hqs.out, HS⟩
              case measure => first | (simp [intOf]; done) | (simp [intOf]; omega)
          · have dB : decide ((4294967296 : Int) ≤ (r : Int) + (top : Int)) = false := dFa (by omega)
            have hbk' : r + top < 4294967296 := by omega
            clear hbk
            go_wp2_with fail
            go_round
            case rel => exact ⟨u, r + top, by go_num, by go_num, by omega, by omega, HT'⟩
            case measure => first | (simp [intOf]; done) | (simp [intOf]; omega)
        · have HTE := lHd (HT.out.exit KN.out HTL.out (by rw [HXN.out, HXU.out, ← htn]; show tn ≤ r * 4294967296 + u0; omega))
          have em : (t : Int) % 4294967296 = (t : Int) := by have := HTL.out; omega
          clear htn hrr
          have ht1 := HTL.out
          have ht1 := lHd ht1
          go_wp2_with fail
          have ht1 := ht1.out
          clear em dA hor etn
          ((with_reducible refine (s0o pu _ pv cu _ _ _ _ U ys j t w3.heap.size _ hoU8 hrv8 rfl rfl ?_ ?_ ?_ ?_ ?_ ?_ ?_ ?_).mono ?_))
          · omega
          · rw [hUl.out]; omega
          · exact HR.out.dU
          · exact HYD.out
          · exact ht1
          · exact fun _ _ => HVU.out.symm
          · exact HUPS.out
          · rw [hUl.out]; omega
          rintro e w9 ⟨L, br, hbr, rfl, hoL, hgL, hbL9, HW, HV⟩
          have HW := lHd HW
          have HV := lHd HV
          have hoQ9 := hoQ8.grown hgL HQU.out
          have hrv9 := hrv8.written hgL (fun _ _ => HVU.out.symm) HUPS.out
          have hb9 := hbL8.trans (hbL9.mono hsz3)
          have hjQ : j < Q.length := by rw [hQl.out]; omega
          have hqs := lHd (hoQ9.rd.solid (by omega)).1
          have hLl := lHd (show L.length = us.length + 1 by rw [HW.out.2.1]; exact hUl.out)
          rcases (show br = 0 ∨ br = 1 by omega) with rfl | rfl
          · have HS := lHd (HR.out.even' KN.out HT.out hjQ ht1 HW.out HV.out)
            go_wp2_with (refine b0a rfl _ _ _ rfl 139 b0y _ _ _ _ hoQ9 j hjQ _ ?_ rfl rfl ?_; omega; intro w10 ho10 hg10 hb10)
            rw [Int.toNat_natCast] at ho10
            go_roundw
            case rel => exact ⟨j, L, _, rfl, by omega, hLl, (by show (List.set _ _ _).length = _; rw [List.length_set]; exact hQl.out), hoL.grown hg10 (fun _ => (HQU.out hqs.out).symm), ho10, hb9.trans (hb10.mono hsz6), hrv9.written hg10 (fun _ h => HQV.out h) hqs.out, HS⟩
            case measure => first | (simp [intOf]; done) | (simp [intOf]; omega)
          · have htp : 0 < t := s0q KN.out HW.out HV.out
            obtain ⟨v, rfl⟩ : ∃ v, t = v + 1 := ⟨t - 1, by omega⟩
            go_wp2_with fail
            ((with_reducible refine (s0p pu _ pv cu _ _ _ _ L ys j w3.heap.size _ hoL hrv9 rfl rfl ?_ ?_ ?_ ?_ ?_ ?_ ?_).mono ?_))
            · omega
            · rw [hLl.out]; omega
            · exact HW.out.1
            · exact HYD.out
            · exact fun _ _ => HVU.out.symm
            · exact HUPS.out
            · rw [hLl.out]; omega
            rintro e w10 ⟨M, co, rfl, hoM, hgM, hbM, HW2, HV2⟩
            obtain ⟨_, HS⟩ := HR.out.owed' KN.out HT.out HTE.out hjQ ht1 HW.out HV.out HW2 HV2
            rw [Nat.add_sub_cancel] at HS
            have HS := lHd HS
            have hMl := lHd (show M.length = us.length + 1 by rw [HW2.2.1]; exact hLl.out)
            have hoQ10 := hoQ9.grown hgM HQU.out
            have hrv10 := hrv9.written hgM (fun _ _ => HVU.out.symm) HUPS.out
            have hb10 := hb9.trans (hbM.mono hsz3)
            clear HW2 HV2
            go_wp2_with (refine b0a rfl _ _ _ rfl 139 b0y _ _ _ _ hoQ10 j hjQ _ ?_ rfl rfl ?_; omega; intro w11 ho11 hg11 hb11)
            rw [Int.toNat_natCast] at ho11
            go_roundw
            case rel => exact ⟨j, M, _, rfl, by omega, hMl, (by show (List.set _ _ _).length = _; rw [List.length_set]; exact hQl.out), hoM.grown hg11 (fun _ => (HQU.out hqs.out).symm), ho11, hb10.trans (hb11.mono hsz6), hrv10.written hg11 (fun _ h => HQV.out h) hqs.out, HS⟩
            case measure => first | (simp [intOf]; done) | (simp [intOf]; omega)
   · obtain rfl : k = 0 := by omega
     obtain ⟨hd1, hd2⟩ := HR.out.done
     rw [HYV.out, Nat.mul_div_mul_right _ _ (Nat.pow_pos (by omega))] at hd1
     rw [HYV.out, Nat.mul_mod_mul_right] at hd2
     have HD1 := lHd hd1
     have HD2 := lHd hd2
     have HM := lHd (show a % b * 2 ^ s / 2 ^ s = a % b from Nat.mul_div_cancel _ (Nat.pow_pos (by omega)))
     have hTQ := hoQ.take (dig B32 (val B32 Q)).length
     rw [c0d a0b Q HR.out.dQ, hd1] at hTQ
     have hTU := hoU.take (dig B32 (val B32 U)).length
     rw [c0d a0b U HR.out.dU, hd2] at hTU
     have hlU := a1d a0b U HR.out.dU
     rw [hd2, hUl.out] at hlU
     clear hd1 hd2
     go_wp2_with fail
     refine (f0e pq QL cq Q _ hoQ.rd hQl.out.symm hoQ.le_cap HR.out.dQ (by rw [hQl.out]; omega)).mono ?_
     rintro e w9 ⟨rfl, rfl⟩
     rw [HD1.out]
     go_wp2_with fail
     refine (f0e pu (us.length + 1) cu U _ hoU.rd hUl.out.symm hoU.le_cap HR.out.dU (by rw [hUl.out]; omega)).mono ?_
     rintro e w10 ⟨rfl, rfl⟩
     rw [HD2.out]
     go_wp2_with fail
     refine (x0c pu _ cu (a % b * 2 ^ s) s _ hTU.rd rfl hTU.le_cap (by omega) (by omega)).mono ?_
     rw [HM.out]
     rintro e w11 ⟨p9, c9, rfl, ho9, hb9⟩
     go_wp2_with fail
     go_ret2
     exact ⟨pq, cq, p9, c9, rfl, (hTQ.past hb9).mono hsz6, ho9.mono hbL.size, hbL.trans (hb9.mono hbL.size), fun h1 h2 => by have := (hTQ.blk_lt h1).2; have := (ho9.blk_lt h2).1; omega⟩
theorem h0d (p q : OA) (n m c d : Nat) (a b : Nat) (w : World) (hp : Rd w .u32 p (dig B32 a)) (hq : Rd w .u32 q (dig B32 b)) (hn : n = (dig B32 a).length) (hm : m = (dig B32 b).length)
 (hl : (dig B32 a).length ≤ 100000000) (hl2 : (dig B32 b).length ≤ 100000000) (hb : 0 < b) :
 Calls Tryz.prog 49 #[.slice p n c, .slice q m d] w (z0a w 139 (dig B32 (a / b)) (dig B32 (a % b))) := by
 by_cases hab : a < b
 · rw [Nat.div_eq_of_lt hab, Nat.mod_eq_of_lt hab, a0e]
   exact j1x p q n m c d a b w hp hq hn hm (by omega) (by omega) hab
 · by_cases h1 : (dig B32 b).length = 1
   · have h2 := (a0g a0b b 1).1 (by omega)
     rw [Nat.pow_one] at h2
     have eb : dig B32 b = [b] := by rw [e0e a0b hb, Nat.div_eq_of_lt h2, a0e, Nat.mod_eq_of_lt h2]
     rw [h1] at hm
     rw [eb] at hq
     exact f1p p q n m c d a b w hp hq hn hm (by omega) hb h2 (by omega)
   · have h0 : (dig B32 b).length ≠ 0 := by
      have := a0h a0b b
      omega
     exact j1y p q n m c d a b w hp hq hn hm hl (by omega) (by omega)
end Go.Proofs.YtgbbhlginbmghaaGreatDoor
namespace Go.Slip
end Go.Slip
namespace Go.Proofs.YtgbbhlginbmghaaGreatDoor
open Go.RowKit Go.Slip
def j1z (L : List Rw) : List Value := L.flatMap fun x => [.bool x.g, .slice x.p (dig B32 x.m).length x.c, .int .i64 x.e]
def RowW (w : World) (base : Nat) (v : Value) (L : List Rw) : Prop := w.ownsRow base 129 3 v L.length (j1z L)
def Ov (w : World) (base0 base : Nat) (v : Value) (D : List Dv) : Prop := ∃ L : List Rw, RowW w base0 v L ∧ L.map Rw.v = D ∧ ∀ x ∈ L, InW w base x
def Off (v : Value) (k : Nat) : Prop := v.ownBlock ≠ some k
theorem Ov.nil (w : World) (base0 base : Nat) : Ov w base0 base (.slice none 0 0) [] := ⟨[], World.ownsRow_nil _ _ _ _, rfl, by simp⟩
theorem Ov.lt {w : World} {base0 base : Nat} {v : Value} {D : List Dv} (h : Ov w base0 base v D) : ∀ k, v.ownBlock = some k → base0 ≤ k ∧ k < w.heap.size := by
 obtain ⟨L, h1, _⟩ := h
 exact World.ownsRow.lt h1
theorem Ov.off {w : World} {base0 base : Nat} {v : Value} {D : List Dv} (h : Ov w base0 base v D) {k : Nat} (hk : k < base0 ∨ w.heap.size ≤ k) : Off v k := fun h1 => by
 have := h.lt k h1
 omega
theorem RowW.past {w w' : World} {base : Nat} {v : Value} {L : List Rw} (h : RowW w base v L) (hb : Below w.heap.size w w') : RowW w' base v L := by
 refine ⟨h.1, ?_⟩
 rcases h.2 with hn | ⟨g, cap, cur, hv, hbg, hg, r⟩
 · exact .inl hn
 · exact .inr ⟨g, cap, cur, hv, hbg, (hb.block _ (Array.getElem?_eq_some_iff.1 hg).1).trans hg, r⟩
theorem Ov.past {w w' : World} {base0 base : Nat} {v : Value} {D : List Dv} (h : Ov w base0 base v D) (hb : Below w.heap.size w w') : Ov w' base0 base v D := by
 obtain ⟨L, h1, h2, h3⟩ := h
 exact ⟨L, h1.past hb, h2, fun x hx => (h3 x hx).past hb⟩
theorem InW.grown {w w' : World} {base base2 : Nat} {x : Rw} {v : Value} {n : Nat} {xs : List Value} (h : InW w base x) (hg : w.grownBy w' v.ownBlock) (h2 : w.ownsRow base2 129 3 v n xs) : InW w' base x :=
 ⟨h.ow.grown hg (fun hp he => by
   rcases h2.2 with ⟨h3, _⟩ | ⟨g, cap, cur, hv, _, hgg, _⟩
   · rw [h3] at he; simp [Value.ownBlock] at he
   · rw [hv] at he
     simp only [Value.ownBlock, Option.some.injEq] at he
     exact h.ow.ne_tb (b := g) ⟨cur, (0, 0), hgg⟩ (by decide) hp he), h.len, h.lo, h.hi⟩
theorem Ov.grown {w w' : World} {base0 base base2 base3 : Nat} {v v2 : Value} {D D2 : List Dv} (h : Ov w base0 base v D) (hg : w.grownBy w' v2.ownBlock) (h2 : Ov w base2 base3 v2 D2) (hne : v.ownBlock = none ∨ v.ownBlock ≠ v2.ownBlock) : Ov w' base0 base v D := by
 obtain ⟨L, h3, h4, h5⟩ := h
 obtain ⟨L2, h6, _⟩ := h2
 exact ⟨L, h3.kept hg hne, h4, fun x hx => (h5 x hx).grown hg h6⟩
theorem _root_.Go.Slip.Bx.grown {w w' : World} {b : Nat} {v : Value} {vs : Array Value} (h : Bx w b vs) (hg : w.grownBy w' v.ownBlock) (hne : Off v b) : Bx w' b vs :=
 h.same (hg.block _ h.lt fun he => hne he.symm)
end Go.Proofs.YtgbbhlginbmghaaGreatDoor
namespace Go.Slip
end Go.Slip
namespace Go.Proofs.YtgbbhlginbmghaaGreatDoor
open Go.RowKit Go.Slip
theorem Tb.grown {w w' : World} {b : Nat} {t : TypeId} {v : Value} (h : Tb w b t) (hg : w.grownBy w' v.ownBlock) (hne : Off v b) : Tb w' b t := by
 have hl := h.lt
 obtain ⟨vs, fz, h⟩ := h
 exact ⟨vs, fz, (hg.block _ hl fun he => hne he.symm).trans h⟩
theorem El.new (w : World) (r : Rw) (t : TypeId) : El (w.alloc (.cells #[.bool r.g, .slice r.p (dig B32 r.m).length r.c, .int .i64 r.e] t)) w.heap.size 0 r :=
 have h := j0e w #[.bool r.g, .slice r.p (dig B32 r.m).length r.c, .int .i64 r.e] t
 ⟨h.c 0 rfl, h.c 1 rfl, h.c 2 rfl, h.lt⟩
end Go.Proofs.YtgbbhlginbmghaaGreatDoor
namespace Go.Slip
theorem k1a {a b : Dv} (hal : (dig B32 a.m).length ≤ 1300) (hbl : (dig B32 b.m).length ≤ 1300) (ha1 : -100000 ≤ a.e) (ha2 : a.e ≤ 100000) (hb1 : -100000 ≤ b.e) (hb2 : b.e ≤ 100000) :
 (dig B32 (k0h a b).m).length ≤ 16000 ∧ -100000 ≤ (k0h a b).e ∧ (k0h a b).e ≤ 700000 := by
 unfold k0h
 split
 · omega
 · split
   · omega
   · have h1 := o0c a.m (a.e - min a.e b.e).toNat
     have h2 := o0c b.m (b.e - min a.e b.e).toNat
     have hj := a1v a.neg b.neg (a.m * 2 ^ (a.e - min a.e b.e).toNat) (b.m * 2 ^ (b.e - min a.e b.e).toNat) (min a.e b.e)
     have h3 := Nat.le_trans (a0l a0b hj.1) (f0m a0b _ _)
     have h4 : (dig B32 (i0w a.neg b.neg (a.m * 2 ^ (a.e - min a.e b.e).toNat) (b.m * 2 ^ (b.e - min a.e b.e).toNat) (min a.e b.e)).m).length ≤ 15200 := by omega
     have h5 := y0p _ (n := 15200) h4 (lo := -100000) (hi := 100000) (by rw [hj.2]; omega) (by rw [hj.2]; omega) (by omega) (by omega)
     have h6 := m0w a0b (i0w a.neg b.neg (a.m * 2 ^ (a.e - min a.e b.e).toNat) (b.m * 2 ^ (b.e - min a.e b.e).toNat) (min a.e b.e))
     omega
end Go.Slip
namespace Go.Proofs.YtgbbhlginbmghaaGreatDoor
open Go.RowKit Go.Slip
structure In2 (w : World) (x : Din × Din) : Prop where
 a : InD w x.1
 b : InD w x.2
theorem In2.past {w w' : World} {x : Din × Din} (h : In2 w x) (hb : Below w.heap.size w w') : In2 w' x := ⟨h.a.past hb, h.b.past hb⟩
structure InL (w : World) (base : Nat) (a : Rw) : Prop where
 ow : Own w base .u32 139 a.p a.c (dig B32 a.m)
 len : (dig B32 a.m).length ≤ 1000000
theorem InL.past {w w' : World} {base : Nat} {a : Rw} (h : InL w base a) (hb : Below w.heap.size w w') : InL w' base a := ⟨h.ow.past hb, h.len⟩
end Go.Proofs.YtgbbhlginbmghaaGreatDoor
namespace Go.Slip
structure SmD (a : Dv) : Prop where
 len : (dig B32 a.m).length ≤ 1300
 lo : -100000 ≤ a.e
 hi : a.e ≤ 100000
end Go.Slip
namespace Go.Proofs.YtgbbhlginbmghaaGreatDoor
open Go.RowKit Go.Slip
theorem sof (N : Int) (n : Nat) (h : N = n) (hn : n < 9223372036854775808) (w : World) : Calls Tryz.prog 45 #[.int .i64 N] w (f0w w .u32 139 (dig B32 n)) := by
 subst h; exact n1m n w hn
theorem sadd (p q : OA) (n m c d : Nat) (a b x : Nat) (w : World) (hp : Rd w .u32 p (dig B32 a)) (hq : Rd w .u32 q (dig B32 b)) (hn : n = (dig B32 a).length) (hm : m = (dig B32 b).length)
 (hl : (dig B32 a).length ≤ 1000000000) (hl2 : (dig B32 b).length ≤ 1000000000) (h : a + b = x) :
 Calls Tryz.prog 68 #[.slice p n c, .slice q m d] w (f0w w .u32 139 (dig B32 x)) := by
 subst h; exact w0e p q n m c d a b w hp hq hn hm hl hl2
theorem j0x : k0n Tryz.prog 44 5 (.int .u8 0) 1 := tyV (by kernel_rfl) (by kernel_rfl) (by omega) rfl rfl
theorem s1y : k0k Tryz.prog 5 := m0v (by kernel_rfl) (by kernel_rfl)
theorem k1b : k0k Tryz.prog 139 := m0v (by kernel_rfl) (by kernel_rfl)
theorem u0v : Tryz.prog.underlying 44 = some (.slice 5) := by kernel_rfl
theorem f1q : Tryz.prog.underlying 5 = some (.int .u8) := by kernel_rfl
theorem uStr : Tryz.prog.underlying 9 = some .string := by kernel_rfl
theorem sshl (p : OA) (n c : Nat) (a N x : Nat) (M : Int) (w : World) (hp : Rd w .u32 p (dig B32 a)) (hn : n = (dig B32 a).length) (hl : (dig B32 a).length ≤ 100000000) (hN : N ≤ 1000000000) (hM : M = N) (h : a * 2 ^ N = x) :
 Calls Tryz.prog 67 #[.slice p n c, .int .i64 M] w (f0w w .u32 139 (dig B32 x)) := by
 subst h hM; exact i0c p n c a N w hp hn (by omega) hN
theorem sshr (p : OA) (n c : Nat) (a N x : Nat) (M : Int) (w : World) (hp : Rd w .u32 p (dig B32 a)) (hn : n = (dig B32 a).length) (hc : (dig B32 a).length ≤ c) (hl : (dig B32 a).length ≤ 100000000) (hN : N ≤ 1000000000) (hM : M = N) (h : a / 2 ^ N = x) :
 Calls Tryz.prog 110 #[.slice p n c, .int .i64 M] w (f0w w .u32 139 (dig B32 x)) := by
 subst h hM; exact x0c p n c a N w hp hn hc (by omega) hN
theorem ssub (p q : OA) (n m c d : Nat) (a b x : Nat) (w : World) (hp : Rd w .u32 p (dig B32 a)) (hq : Rd w .u32 q (dig B32 b)) (hn : n = (dig B32 a).length) (hm : m = (dig B32 b).length)
 (hl : (dig B32 a).length ≤ 1000000000) (hab : b ≤ a) (h : a - b = x) :
 Calls Tryz.prog 173 #[.slice p n c, .slice q m d] w (f0w w .u32 139 (dig B32 x)) := by
 subst h; exact x0g p q n m c d a b w hp hq hn hm hl hab
theorem i0f (N x : Nat) (M : Int) (w : World) (hN : N ≤ 1000000) (hM : M = N) (h : 2 ^ N = x) : Calls Tryz.prog 170 #[.int .i64 M] w (f0w w .u32 139 (dig B32 x)) := by
 subst hM
 have l1 : (dig B32 1).length ≤ 1 := by rw [a0g a0b]; unfold B32; omega
 have I := Inv.start w [] True.intro
 refine a0c [.v (.int .i64 (N : Int))] I Tryz.func170 ?_
 refine zqo I (fun Al W I => have hzW := I.bel.size; sof 1 1 rfl (by omega) W) fun Al W p3 c3 I => zqo I (fun Al W I => have hzW := I.bel.size; sshl p3 _ c3 1 N x _ W I.fa.1.rd rfl (by omega) (by omega) rfl (by omega)) fun Al W p5 c5 I => zret I fun Al W I => ⟨p5, c5, rfl, I.fa.1.mono (by omega), I.below⟩
theorem a0u {x n k : Nat} (h : x < 2 ^ n) (hk : n ≤ 32 * k) : (dig B32 x).length ≤ k := by
 rw [a0g a0b]
 unfold B32
 rw [show (4294967296 : Nat) = 2 ^ 32 from rfl, ← Nat.pow_mul]
 exact Nat.lt_of_lt_of_le h (Nat.pow_le_pow_right (by omega) hk)
theorem f1r {B d : Nat} (hB : 2 ≤ B) (h0 : 0 < d) (h : d < B) : dig B d = [d] := by
 rw [e0e hB h0, Nat.div_eq_of_lt h, a0e, Nat.mod_eq_of_lt h]
def wiB (n m : Int) : Bool := decide (-m ≤ n) && decide (n ≤ m)
theorem i0n {n m : Int} (h1 : -m ≤ n) (h2 : n ≤ m) : wiB n m = true := by unfold wiB; simp [h1, h2]
theorem f0u {n m : Int} (h : n < -m ∨ m < n) : wiB n m = false := by
 unfold wiB
 rcases h with h | h
 · rw [decide_eq_false (by omega)]; rfl
 · rw [decide_eq_false (p := n ≤ m) (by omega)]; simp
theorem c0z (n m : Int) (w : World) (hm : -1000000000 ≤ m ∧ m ≤ 1000000000) :
 Calls Tryz.prog 118 #[.int .i64 n, .int .i64 m] w fun e w' => e = .returned (.bool (wiB n m)) ∧ w = w' := by
 obtain ⟨hm1, hm2⟩ := hm
 by_cases h1 : -m ≤ n
 · by_cases h2 : n ≤ m
   · rw [i0n h1 h2]
     go_enter Tryz.func118, Tryz.ntmps118
     go_wp2
     go_ret
     exact ⟨rfl, rfl⟩
   · rw [f0u (by omega)]
     go_enter Tryz.func118, Tryz.ntmps118
     go_wp2
     go_ret
     exact ⟨rfl, rfl⟩
 · rw [f0u (by omega)]
   go_enter Tryz.func118, Tryz.ntmps118
   go_wp2
   go_ret
   exact ⟨rfl, rfl⟩
theorem f1s (g : Gd) (w : World) :
 Calls Tryz.prog 72 #[.agg #[.int .i64 g.rad, .int .i64 g.digs, .int .i64 g.lo, .int .i64 g.hi, .bool g.grad]] w fun e w' => e = .returned (.int .i64 (wid g : Nat)) ∧ Below w.heap.size w w' := by
 obtain ⟨rad, digs, lo, hi, grad⟩ := g
 simp only
 unfold wid
 simp only
 have hb : Below w.heap.size w (w.alloc (.cells #[.int .i64 rad, .int .i64 digs, .int .i64 lo, .int .i64 hi, .bool grad] 76)) := c0y _ _
 by_cases h : rad = 16
 · subst h
   go_enter Tryz.func72, Tryz.ntmps72
   go_wp2
   go_ret
   exact ⟨by simp, hb⟩
 · have h1 : (rad == 16) = false := bFn h
   rw [if_neg h]
   clear h
   go_enter Tryz.func72, Tryz.ntmps72
   go_wp2
   go_ret
   exact ⟨rfl, hb⟩
theorem b1o {n : Int} {d : Nat} (hd : 1 ≤ d) (_h : n < 0) : -(((d : Int) - 1 - n) / d) = n / d := by
 have h1 := g0d n d hd
 have h2 := g0d ((d : Int) - 1 - n) d hd
 have hp : (0 : Int) < d := by omega
 generalize n / (d : Int) = x at *
 generalize ((d : Int) - 1 - n) / (d : Int) = y at *
 have h3 : (d : Int) * (x + y) < d := by rw [Int.mul_add]; omega
 have h4 : (d : Int) * (-1) < d * (x + y) := by rw [Int.mul_add]; omega
 have h5 := Int.lt_of_mul_lt_mul_left h4 (by omega)
 have h6 : (d : Int) * (x + y) < d * 1 := by omega
 have h7 := Int.lt_of_mul_lt_mul_left h6 (by omega)
 omega
theorem b1p (n : Int) (d : Nat) (w : World) (hn : -1000000000 ≤ n ∧ n ≤ 1000000000) (hd : 1 ≤ d) (hd2 : d ≤ 1000) :
 Calls Tryz.prog 73 #[.int .i64 n, .int .i64 d] w fun e w' => e = .returned (.int .i64 (n / (d : Int))) ∧ w = w' := by
 obtain ⟨hn1, hn2⟩ := hn
 have t1 : ((d : Int) == 0) = false := bFn (by omega)
 by_cases h : n < 0
 · have hq := Int.ediv_le_self (a := (d : Int) - 1 - n) (d : Int) (by omega)
   have hq0 := Int.ediv_nonneg (a := (d : Int) - 1 - n) (b := (d : Int)) (by omega) (by omega)
   rw [← b1o hd h]
   go_enter Tryz.func73, Tryz.ntmps73
   go_wp2
   go_ret
   exact ⟨rfl, rfl⟩
 · have hq := Int.ediv_le_self (a := n) (d : Int) (by omega)
   have hq0 := Int.ediv_nonneg (a := n) (b := (d : Int)) (by omega) (by omega)
   go_enter Tryz.func73, Tryz.ntmps73
   go_wp2
   go_ret
   exact ⟨rfl, rfl⟩
theorem s0r (g : Gd) (w : World) :
 Calls Tryz.prog 119 #[.agg #[.int .i64 g.rad, .int .i64 g.digs, .int .i64 g.lo, .int .i64 g.hi, .bool g.grad]] w fun e w' => e = .returned (.int .i64 (errG g)) ∧ Below w.heap.size w w' := by
 obtain ⟨rad, digs, lo, hi, grad⟩ := g
 unfold errG farG most
 simp only
 have hb : Below w.heap.size w (w.alloc (.cells #[.int .i64 rad, .int .i64 digs, .int .i64 lo, .int .i64 hi, .bool grad] 76)) := c0y _ _
 by_cases hr2 : rad = 2
 · subst hr2
   rw [if_neg (by omega)]
   simp only [show ¬ ((2 : Int) = 16) by omega, if_false]
   by_cases h1 : digs < 1
   · rw [if_pos (by omega)]
     go_enter Tryz.func119, Tryz.ntmps119
     go_wp2
     go_ret
     exact ⟨rfl, hb⟩
   · by_cases h2 : 120 < digs
     · rw [if_pos (by omega)]
       go_enter Tryz.func119, Tryz.ntmps119
       go_wp2
       go_ret
       exact ⟨rfl, hb⟩
     · by_cases h3 : lo < -17000 ∨ 17000 < lo
       · rw [if_pos (by omega)]
         have t3 := f0u h3
         clear h3
         go_enter Tryz.func119, Tryz.ntmps119
         go_wp2_with (go_at_call 118; refine (c0z _ _ _ (by omega)).mono ?_; rintro _ _ ⟨rfl, rfl⟩)
         go_ret
         exact ⟨rfl, hb⟩
       · have t3 := i0n (n := lo) (m := 17000) (by omega) (by omega)
         by_cases h4 : hi < -17000 ∨ 17000 < hi
         · rw [if_pos (by omega)]
           have t4 := f0u h4
           clear h3 h4
           go_enter Tryz.func119, Tryz.ntmps119
           go_wp2_with (go_at_call 118; refine (c0z _ _ _ (by omega)).mono ?_; rintro _ _ ⟨rfl, rfl⟩)
           go_ret
           exact ⟨rfl, hb⟩
         · have t4 := i0n (n := hi) (m := 17000) (by omega) (by omega)
           by_cases h5 : hi < lo
           · rw [if_pos (by omega)]
             clear h3 h4
             go_enter Tryz.func119, Tryz.ntmps119
             go_wp2_with (go_at_call 118; refine (c0z _ _ _ (by omega)).mono ?_; rintro _ _ ⟨rfl, rfl⟩)
             go_ret
             exact ⟨rfl, hb⟩
           · rw [if_neg (by omega)]
             clear h3 h4
             go_enter Tryz.func119, Tryz.ntmps119
             go_wp2_with (go_at_call 118; refine (c0z _ _ _ (by omega)).mono ?_; rintro _ _ ⟨rfl, rfl⟩)
             go_ret
             exact ⟨rfl, hb⟩
 · have u2 : (rad == 2) = false := bFn hr2
   have u2' : (rad != 2) = true := by rw [bne, u2]; rfl
   by_cases hr16 : rad = 16
   · subst hr16
     rw [if_neg (by omega)]
     simp only [if_true]
     by_cases h1 : digs < 1
     · rw [if_pos (by omega)]
       go_enter Tryz.func119, Tryz.ntmps119
       go_wp2
       go_ret
       exact ⟨rfl, hb⟩
     · by_cases h2 : 120 < digs
       · rw [if_pos (by omega)]
         go_enter Tryz.func119, Tryz.ntmps119
         go_wp2
         go_ret
         exact ⟨rfl, hb⟩
       · by_cases h3 : lo < -4000 ∨ 4000 < lo
         · rw [if_pos (by omega)]
           have t3 := f0u h3
           clear h3
           go_enter Tryz.func119, Tryz.ntmps119
           go_wp2_with (go_at_call 118; refine (c0z _ _ _ (by omega)).mono ?_; rintro _ _ ⟨rfl, rfl⟩)
           go_ret
           exact ⟨rfl, hb⟩
         · have t3 := i0n (n := lo) (m := 4000) (by omega) (by omega)
           by_cases h4 : hi < -4000 ∨ 4000 < hi
           · rw [if_pos (by omega)]
             have t4 := f0u h4
             clear h3 h4
             go_enter Tryz.func119, Tryz.ntmps119
             go_wp2_with (go_at_call 118; refine (c0z _ _ _ (by omega)).mono ?_; rintro _ _ ⟨rfl, rfl⟩)
             go_ret
             exact ⟨rfl, hb⟩
           · have t4 := i0n (n := hi) (m := 4000) (by omega) (by omega)
             by_cases h5 : hi < lo
             · rw [if_pos (by omega)]
               clear h3 h4
               go_enter Tryz.func119, Tryz.ntmps119
               go_wp2_with (go_at_call 118; refine (c0z _ _ _ (by omega)).mono ?_; rintro _ _ ⟨rfl, rfl⟩)
               go_ret
               exact ⟨rfl, hb⟩
             · rw [if_neg (by omega)]
               clear h3 h4
               go_enter Tryz.func119, Tryz.ntmps119
               go_wp2_with (go_at_call 118; refine (c0z _ _ _ (by omega)).mono ?_; rintro _ _ ⟨rfl, rfl⟩)
               go_ret
               exact ⟨rfl, hb⟩
   · have u16 : (rad == 16) = false := bFn hr16
     have u16' : (rad != 16) = true := by rw [bne, u16]; rfl
     rw [if_pos ⟨hr2, hr16⟩]
     clear hr2 hr16
     go_enter Tryz.func119, Tryz.ntmps119
     go_wp2
     go_ret
     exact ⟨rfl, hb⟩
theorem l0a (a N n : Nat) (h : (dig B32 a).length ≤ n) : (dig B32 (a * 2 ^ N)).length ≤ n + (N / 32 + 1) := Nat.le_trans (o0c a N) (by omega)
theorem s0s {a : Nat} {n : Int} (h : (dig B32 a).length ≤ 1000000) (hn : -10000000 ≤ n ∧ n ≤ 10000000) : (dig B32 (numP a n)).length ≤ 1400000 := by
 have := l0a a n.toNat _ h; unfold numP; omega
theorem s0t {a : Nat} {n : Int} (h : (dig B32 a).length ≤ 1000000) (hn : -10000000 ≤ n ∧ n ≤ 10000000) : (dig B32 (denP a n)).length ≤ 1400000 := by
 have := l0a a (-n).toNat _ h; unfold denP; omega
theorem x0h (w : World) : Calls Tryz.prog 45 #[.int .i64 1] w (f0w w .u32 139 (dig B32 1)) := n1m 1 w (by omega)
def s1z (w : World) (q0 : OA) (x y z : Nat) (en : Ending) (w' : World) : Prop :=
 ∃ p c q d r f, en = .returned (.tuple #[.slice p (dig B32 x).length c, .slice q (dig B32 y).length d, .slice r (dig B32 z).length f]) ∧ Own w' w.heap.size .u32 139 p c (dig B32 x) ∧ Own w' w.heap.size .u32 139 q d (dig B32 y) ∧ Rd w' .u32 r (dig B32 z) ∧ (r = q0 ∨ (0 < (dig B32 z).length → w.heap.size ≤ blk r)) ∧ Below w.heap.size w w'
theorem m0a (p q : OA) (m k c d : Nat) (a b : Nat) (n : Int) (w : World) (hp : Rd w .u32 p (dig B32 a)) (hq : Rd w .u32 q (dig B32 b)) (hm : m = (dig B32 a).length) (hk : k = (dig B32 b).length)
 (hl : (dig B32 a).length ≤ 1000000) (hl2 : (dig B32 b).length ≤ 1000000) (hb : 0 < b) (hn : -10000000 ≤ n ∧ n ≤ 10000000) :
 Calls Tryz.prog 74 #[.slice p m c, .slice q k d, .int .i64 n] w (s1z w q (qP a b n) (rP a b n) (denP b n)) := by
 subst hm hk
 have l1 := s0s hl hn
 have l2 := s0t hl2 hn
 have h0 := e0l hb n
 unfold qP rP
 by_cases h : 0 ≤ n
 · obtain ⟨N, rfl⟩ : ∃ N : Nat, n = N := ⟨n.toNat, by omega⟩
   have e1 : denP b (N : Int) = b := by unfold denP; rw [show (-(N : Int)).toNat = 0 by omega, Nat.pow_zero, Nat.mul_one]
   have HN := lHd (show numP a (N : Int) = a * 2 ^ N by unfold numP; rw [Int.toNat_natCast])
   rw [e1] at l2 h0 ⊢
   clear e1
   generalize numP a (N : Int) = x at *
   go_enter Tryz.func74, Tryz.ntmps74
   go_wp2_with fail
   ((with_reducible refine (i0c p _ c a N _ hp rfl (by omega) (by omega)).mono ?_))
   rintro e1 w1 ⟨p1, c1, rfl, ho1, hb1⟩
   replace hp := hp.past hb1
   replace hq := hq.past hb1
   have hs1 := hb1
   rw [← HN.out] at ho1 ⊢
   go_wp2_with fail
   ((with_reducible refine (h0d p1 q _ _ c1 d x b _ ho1.rd hq rfl rfl (by omega) (by omega) h0).mono ?_))
   rintro e2 w2 ⟨p2, c2, q2, d2, rfl, ho2, ho3, hb2, -⟩
   replace hp := hp.past hb2
   replace hq := hq.past hb2
   replace ho1 := ho1.past hb2
   have hs2 := hs1.trans (hb2.mono hs1.size)
   go_wp2_with fail
   refine bodyPost_ret (v := .tuple #[.slice p2 (dig B32 (x / b)).length c2, .slice q2 (dig B32 (x % b)).length d2, .slice q (dig B32 b).length d]) (by simp [results, Tryz.results74, go_sem]) rfl ?_
   exact ⟨p2, c2, q2, d2, q, d, rfl, ho2.mono hs1.size, ho3.mono hs1.size, hq, .inl rfl, hs2⟩
 · obtain ⟨N, rfl⟩ : ∃ N : Nat, n = -(N : Int) := ⟨(-n).toNat, by omega⟩
   have e1 : numP a (-(N : Int)) = a := by unfold numP; rw [show (-(N : Int)).toNat = 0 by omega, Nat.pow_zero, Nat.mul_one]
   have HN := lHd (show denP b (-(N : Int)) = b * 2 ^ N by unfold denP; rw [show (-(-(N : Int))).toNat = N by omega])
   rw [e1] at l1 ⊢
   clear e1
   generalize denP b (-(N : Int)) = x at *
   go_enter Tryz.func74, Tryz.ntmps74
   go_wp2_with fail
   ((with_reducible refine (i0c q _ d b N _ hq rfl (by omega) (by omega)).mono ?_))
   rintro e1 w1 ⟨p1, c1, rfl, ho1, hb1⟩
   replace hp := hp.past hb1
   replace hq := hq.past hb1
   have hs1 := hb1
   rw [← HN.out] at ho1 ⊢
   go_wp2_with fail
   ((with_reducible refine (h0d p p1 _ _ c c1 a x _ hp ho1.rd rfl rfl (by omega) (by omega) h0).mono ?_))
   rintro e2 w2 ⟨p2, c2, q2, d2, rfl, ho2, ho3, hb2, -⟩
   replace hp := hp.past hb2
   replace hq := hq.past hb2
   replace ho1 := ho1.past hb2
   have hs2 := hs1.trans (hb2.mono hs1.size)
   go_wp2_with fail
   refine bodyPost_ret (v := .tuple #[.slice p2 (dig B32 (a / x)).length c2, .slice q2 (dig B32 (a % x)).length d2, .slice p1 (dig B32 x).length c1]) (by simp [results, Tryz.results74, go_sem]) rfl ?_
   exact ⟨p2, c2, q2, d2, p1, c1, rfl, ho2.mono hs1.size, ho3.mono hs1.size, ho1.rd, .inr fun h => (ho1.blk_lt (ho1.rd.solid h).1).1, hs2⟩
def o0r : Array MapEntry := #[⟨.int .i64 1, .func (.func 139) #[] #[], 0⟩, ⟨.int .i64 2, .func (.func 140) #[] #[], 1⟩, ⟨.int .i64 3, .func (.func 141) #[] #[], 2⟩, ⟨.int .i64 4, .func (.func 142) #[] #[], 3⟩, ⟨.int .i64 5, .func (.func 143) #[] #[], 4⟩]
theorem f1t : Tryz.prog.underlying 147 = some (.map 3 146) := by kernel_rfl
def Ways (w : World) (b : Nat) : Prop := w.heap[b]? = some (.map o0r 5)
theorem Ways.past {w w' : World} {b : Nat} (h : Ways w b) (hb : Below w.heap.size w w') : Ways w' b := (hb.block b (Array.getElem?_eq_some_iff.1 h).1).trans h
theorem x0i (w : World) :
 Calls Tryz.prog 75 #[] w fun e w' => e = .returned (.map (some w.heap.size)) ∧ Ways w' w.heap.size ∧ Below w.heap.size w w' := by
 have hmm := @run_makeMap Tryz.prog
 go_enter Tryz.func75, Tryz.ntmps75
 go_wp2_with (refine b1j rfl _ _ _ _ rfl f1t Tryz.underlying3 rfl rfl rfl rfl ?_)
 go_ret
 exact ⟨rfl, by show (w.heap.push _)[_]? = _; simp [o0r], (Below.refl _ _).alloc (Nat.le_refl _) _⟩
def wayF (k : Int) : Value := if k = 1 then .func (.func 139) #[] #[] else if k = 2 then .func (.func 140) #[] #[] else if k = 3 then .func (.func 141) #[] #[]
 else if k = 4 then .func (.func 142) #[] #[] else if k = 5 then .func (.func 143) #[] #[] else .nilFunc
theorem b1q {k : Int} (h1 : 1 ≤ k) (h2 : k ≤ 5) : ∃ i, Instr.findNow (.int .i64) (.int .i64 k) o0r.toList 0 = some (some (i, wayF k)) := by
 obtain rfl | rfl | rfl | rfl | rfl : k = 1 ∨ k = 2 ∨ k = 3 ∨ k = 4 ∨ k = 5 := by omega
 · exact ⟨0, rfl⟩
 · exact ⟨1, rfl⟩
 · exact ⟨2, rfl⟩
 · exact ⟨3, rfl⟩
 · exact ⟨4, rfl⟩
theorem x0j {k : Int} (h : k < 1 ∨ 5 < k) : Instr.findNow (.int .i64) (.int .i64 k) o0r.toList 0 = some none := by
 have g : ∀ j : Int, 1 ≤ j → j ≤ 5 → (k == j) = false := fun j h1 h2 => bFn (by omega)
 simp [o0r, Instr.findNow, Instr.sameNow, g 1 (by omega) (by omega), g 2 (by omega) (by omega), g 3 (by omega) (by omega), g 4 (by omega) (by omega), g 5 (by omega) (by omega)]
theorem f1u {w : World} {b : Nat} (h : Ways w b) {k : Int} (h1 : 1 ≤ k) (h2 : k ≤ 5) :
 (Instr.lookup 147 (.map (some b)) (.int .i64 k) false).run Tryz.prog w = .ok (wayF k) w := by
 obtain ⟨i, hi⟩ := b1q h1 h2
 exact g0e f1t Tryz.underlying3 h k hi
theorem k1c {w : World} {b : Nat} (h : Ways w b) {k : Int} (hk : k < 1 ∨ 5 < k) :
 (Instr.lookup 147 (.map (some b)) (.int .i64 k) false).run Tryz.prog w = .ok .nilFunc w :=
 i0b f1t Tryz.underlying3 h k (by kernel_rfl) (x0j hk)
def wayB (k : Int) : Bool := decide (1 ≤ k) && decide (k ≤ 5)
theorem u0w {k : Int} (h1 : 1 ≤ k) (h2 : k ≤ 5) : wayB k = true := by unfold wayB; simp [h1, h2]
theorem q0l {k : Int} (h : k < 1 ∨ 5 < k) : wayB k = false := by
 unfold wayB
 rcases h with h | h
 · rw [decide_eq_false (by omega)]; rfl
 · rw [decide_eq_false (p := k ≤ 5) (by omega)]; simp
theorem u0x (k : Int) (w : World) :
 Calls Tryz.prog 120 #[.int .i64 k] w fun e w' => e = .returned (.bool (wayB k)) ∧ Below w.heap.size w w' := by
 by_cases h : k < 1 ∨ 5 < k
 · rw [q0l h]
   have HL := fun W (hW : Ways W w.heap.size) => k1c hW h
   have HLL := lHd HL
   clear HL h
   have hne : ∀ w, (binOp .neq 146 .nilFunc .nilFunc).run Tryz.prog w = .ok (.bool false) w := fun w => by kernel_rfl
   go_enter Tryz.func120, Tryz.ntmps120
   go_wp2_with fail
   ((with_reducible refine (x0i _).mono ?_))
   rintro e1 w1 ⟨rfl, hw, hb⟩
   have hl := HLL.out w1 hw
   go_wp2
   go_ret
   exact ⟨rfl, hb⟩
 · rw [u0w (by omega) (by omega)]
   have HL := fun W (hW : Ways W w.heap.size) => f1u hW (k := k) (by omega) (by omega)
   have HLL := lHd HL
   obtain ⟨f, hf⟩ : ∃ f, wayF k = .func (.func f) #[] #[] := by
    obtain rfl | rfl | rfl | rfl | rfl : k = 1 ∨ k = 2 ∨ k = 3 ∨ k = 4 ∨ k = 5 := by omega
    · exact ⟨_, rfl⟩
    · exact ⟨_, rfl⟩
    · exact ⟨_, rfl⟩
    · exact ⟨_, rfl⟩
    · exact ⟨_, rfl⟩
   rw [hf] at HLL
   clear HL h hf
   have hne : ∀ w, (binOp .neq 146 (.func (.func f) #[] #[]) .nilFunc).run Tryz.prog w = .ok (.bool true) w := fun w => by kernel_rfl
   go_enter Tryz.func120, Tryz.ntmps120
   go_wp2_with fail
   ((with_reducible refine (x0i _).mono ?_))
   rintro e1 w1 ⟨rfl, hw, hb⟩
   have hl := HLL.out w1 hw
   go_wp2
   go_ret
   exact ⟨rfl, hb⟩
theorem k1d (neg odd : Bool) (half : Int) (w : World) :
 Calls Tryz.prog 139 #[.bool neg, .bool odd, .int .i64 half] w fun e w' => e = .returned (.bool (h0o 1 neg odd half)) ∧ w' = w := by
 unfold h0o
 simp only [if_true]
 by_cases h : 0 < half
 · go_enter Tryz.func139, Tryz.ntmps139
   go_wp2
   go_ret
   exact ⟨by simp [h], rfl⟩
 · by_cases h0 : half = 0
   · subst h0
     cases odd
     · go_enter Tryz.func139, Tryz.ntmps139
       go_wp2
       go_ret
       exact ⟨rfl, rfl⟩
     · go_enter Tryz.func139, Tryz.ntmps139
       go_wp2
       go_ret
       exact ⟨rfl, rfl⟩
   · have t0 : (half == 0) = false := bFn h0
     have H := lHd h0
     clear h0
     go_enter Tryz.func139, Tryz.ntmps139
     go_wp2
     go_ret
     exact ⟨by simp [H.out, show ¬ 0 < half from by omega], rfl⟩
theorem k1e (neg odd : Bool) (half : Int) (w : World) :
 Calls Tryz.prog 140 #[.bool neg, .bool odd, .int .i64 half] w fun e w' => e = .returned (.bool (h0o 2 neg odd half)) ∧ w' = w := by
 have e : h0o 2 neg odd half = decide (0 ≤ half) := rfl
 rw [e]
 clear e
 by_cases h : 0 ≤ half
 · go_enter Tryz.func140, Tryz.ntmps140
   go_wp2
   go_ret
   exact ⟨by simp [h], rfl⟩
 · go_enter Tryz.func140, Tryz.ntmps140
   go_wp2
   go_ret
   exact ⟨by simp; omega, rfl⟩
theorem k1f (neg odd : Bool) (half : Int) (w : World) :
 Calls Tryz.prog 141 #[.bool neg, .bool odd, .int .i64 half] w fun e w' => e = .returned (.bool (h0o 3 neg odd half)) ∧ w' = w := by
 have e : h0o 3 neg odd half = false := rfl
 rw [e]
 clear e
 go_enter Tryz.func141, Tryz.ntmps141
 go_wp2
 go_ret
 exact ⟨rfl, rfl⟩
theorem k1g (neg odd : Bool) (half : Int) (w : World) :
 Calls Tryz.prog 142 #[.bool neg, .bool odd, .int .i64 half] w fun e w' => e = .returned (.bool (h0o 4 neg odd half)) ∧ w' = w := by
 have e : h0o 4 neg odd half = !neg := rfl
 rw [e]
 clear e
 go_enter Tryz.func142, Tryz.ntmps142
 go_wp2
 go_ret
 exact ⟨rfl, rfl⟩
theorem k1h (neg odd : Bool) (half : Int) (w : World) :
 Calls Tryz.prog 143 #[.bool neg, .bool odd, .int .i64 half] w fun e w' => e = .returned (.bool (h0o 5 neg odd half)) ∧ w' = w := by
 have e : h0o 5 neg odd half = neg := rfl
 rw [e]
 clear e
 go_enter Tryz.func143, Tryz.ntmps143
 go_wp2
 go_ret
 exact ⟨rfl, rfl⟩
theorem f1v {k : Int} (h1 : 1 ≤ k) (h2 : k ≤ 5) :
 ∃ f, wayF k = .func (.func f) #[] #[] ∧ (∀ (neg odd : Bool) (half : Int) (w : World), Calls Tryz.prog f #[.bool neg, .bool odd, .int .i64 half] w fun e w' => e = .returned (.bool (h0o k neg odd half)) ∧ w' = w) ∧ ∀ args w, (callFunc f args).run Tryz.prog w = .ok (.enter f args) w := by
 obtain rfl | rfl | rfl | rfl | rfl : k = 1 ∨ k = 2 ∨ k = 3 ∨ k = 4 ∨ k = 5 := by omega
 · exact ⟨_, rfl, k1d, fun _ _ => by kernel_rfl⟩
 · exact ⟨_, rfl, k1e, fun _ _ => by kernel_rfl⟩
 · exact ⟨_, rfl, k1f, fun _ _ => by kernel_rfl⟩
 · exact ⟨_, rfl, k1g, fun _ _ => by kernel_rfl⟩
 · exact ⟨_, rfl, k1h, fun _ _ => by kernel_rfl⟩
end Go.Proofs.YtgbbhlginbmghaaGreatDoor
