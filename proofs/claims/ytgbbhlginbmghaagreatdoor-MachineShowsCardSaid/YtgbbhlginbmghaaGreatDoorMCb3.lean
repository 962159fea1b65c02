/- A walk that reckons: returns, drawn regions, loops, facts. No program is in sight here. -/
import Derived.Laws.Sem
import Derived.Deep.LoopGhost
import Derived.Lib.ConvBytes
import Derived.Maps.Own
import Derived.Carry
import Derived.Test.YtgbbhlginbmghaaGreatDoorMCb1
import Derived.Test.YtgbbhlginbmghaaGreatDoorMCb2
set_option maxHeartbeats 8000000
set_option maxRecDepth 100000
namespace Go.Slip
open Go.RowKit
/-! ### What a function answers -/
def resO (P : Program) (c : Cfg) : List ResultVar → Option (List SV)
 | [] => some []
 | .tmp t :: l => match resO P c l with
  | some r => some (lk (.v undef) c.fr t :: r)
  | none => none
 | .cell a ty :: l => match lk (.v undef) c.fr a with
  | .p k off => match ldB P c.bx ty k off with
   | some x => match resO P c l with
    | some r => some (x :: r)
    | none => none
   | none => none
  | _ => none
def resV (A : List Nat) : Option (List SV) → Option Value
 | some [x] => some (x.r A)
 | some l => some (.tuple (l.map (SV.r A)).toArray)
 | none => none
def o1i (c : Cfg) : Bool :=
 match c.rg with
 | .ret => true
 | .off => match c.ks with
  | [] => true
  | _ => false
 | _ => false
section
variable {P : Program} {fn : Func} {R : Ending → World → Prop} {E : List Nat} {w0 : World} {A : List Nat} {fs : List PF} {W : World} {c : Cfg} {o : Oper}
theorem p0v (I : Inv E w0 A c.bx fs W) : ∀ (rs : List ResultVar) {xs : List SV}, resO P c rs = some xs → (rs.mapM (rvS (act A c.fr).tmps)).run P W = .ok (xs.map (SV.r A)) W
 | [], xs, h => by
  simp only [resO, Option.some.injEq] at h
  subst h
  rfl
 | .tmp t :: l, xs, h => by
  unfold resO at h
  split at h
  · rename_i r hr
    simp only [Option.some.injEq] at h
    subst h
    have ih := p0v I l hr
    rw [List.mapM_cons]
    simp only [rvS, Sem.run_bind, Sem.run_pure, Result.andThen_ok, ih, List.map_cons]
    congr 3
    exact congrFun (b0f A c.fr) (.tmp t)
  · cases h
 | .cell a ty :: l, xs, h => by
  unfold resO at h
  split at h
  · rename_i k off hp
    split at h
    · rename_i x hx
      split at h
      · rename_i r hr
        simp only [Option.some.injEq] at h
        subst h
        have ih := p0v I l hr
        have h2 := j1j (P := P) I.ok hx
        have he : (act A c.fr).tmps.getD a undef = .pointer (some ⟨lk 0 A k, off, none⟩) := by
         have := congrFun (b0f A c.fr) (.tmp a)
         refine this.trans ?_
         show SV.r A (lk (.v undef) c.fr a) = _
         rw [hp]; rfl
        simp only [Instr.loadAt, Instr.sureAddr, Sem.run_bind, Sem.run_pure, Result.andThen_ok] at h2
        rw [List.mapM_cons]
        simp only [rvS, he, asAddr, Sem.run_bind, Sem.run_pure, Result.andThen_ok, h2, ih, List.map_cons]
      · cases h
    · cases h
  · cases h
theorem l1f (I : Inv E w0 A c.bx fs W) {v : Value} (h : resV A (resO P c fn.results.toList) = some v) : (results fn (act A c.fr).tmps).run P W = .ok v W := by
 cases hx : resO P c fn.results.toList with
 | none => rw [hx] at h; cases h
 | some xs =>
  rw [hx] at h
  have := p0v I _ hx
  rw [x0u, ← Array.toArray_toList (xs := fn.results), List.mapM_toArray]
  rw [Sem.run_bind]
  simp only [map_eq_pure_bind, Sem.run_bind, this, Result.andThen_ok, Sem.run_pure]
  congr 1
  match xs, h with
  | [], h => simpa [resV] using h
  | [x], h => simpa [resV] using h
  | x :: y :: l, h => simpa [resV] using h
theorem zret (I : Inv E w0 A c.bx fs W) {v : List Nat → Value} (h : ∀ A W, Inv E w0 A (zr P none c).bx fs W → R (.returned (v A)) W)
 (hv : ∀ A, resV A (resO P (zr P none c) fn.results.toList) = some (v A) := by intro _; kernel_rfl)
 (hr : ∀ A w, (zms P none 5000 c A w).map (·.1) = (zms P none 5000 c A w).map (·.2) := by intro _ _; kernel_rfl)
 (hi : o1i (zr P none c) = true := by kernel_rfl) : G P (bodyPost P fn R) A c W :=
 b0b I hr fun A W I => by
  have hv9 := l1f I (hv A)
  have h9 := h A W I
  clear h hv
  generalize zr P none c = c at *
  refine ⟨?_⟩
  obtain ⟨fr, bx, rg, ks⟩ := c
  cases rg with
  | ret =>
   have : ∀ ks, post P (bodyPost P fn R) ks .ret (act A fr) W := fun ks => by
    induction ks with
    | nil => exact ⟨rfl, _, hv9, h9⟩
    | cons k ks ih => cases k <;> exact ih
   exact this ks
  | off =>
   cases ks with
   | nil => exact ⟨rfl, _, hv9, h9⟩
   | cons => cases hi
  | pl => cases hi
  | dr => cases hi
  | one => cases hi
theorem zrb (I : Inv [] w0 A c.bx fs W) {v : Value}
 (hv : ∀ A, resV A (resO P (zr P none c) fn.results.toList) = some v := by intro _; kernel_rfl)
 (hr : ∀ A w, (zms P none 5000 c A w).map (·.1) = (zms P none 5000 c A w).map (·.2) := by intro _ _; kernel_rfl)
 (hi : o1i (zr P none c) = true := by kernel_rfl) : G P (bodyPost P fn fun en w' => en = .returned v ∧ Below w0.heap.size w0 w') A c W :=
 zret (v := fun _ => v) I (fun _ _ I => ⟨rfl, I.below⟩) hv hr hi
end
/-! ### Drawn regions -/
def f0p (Q : Exit → Act → World → Prop) : Prop := ∀ ch a d v w, Q (.panic ch) (Act.put a d v) w → Q (.panic ch) a w
theorem d0r {P : Program} {fn : Func} {R : Ending → World → Prop} : f0p (bodyPost P fn R) := fun ch a d v w h => by
 cases d <;> exact h
theorem d0z {P : Program} {Q : Exit → Act → World → Prop} (hQ : f0p Q) : ∀ ks, f0p (post P Q ks)
 | [] => hQ
 | .code _ :: ks => fun ch a d v w h => d0z hQ ks ch a d v w h
 | .block _ :: ks => fun ch a d v w h => d0z hQ ks ch a d v w h
 | .stop _ :: ks => fun ch a d v w h => d0z hQ ks ch a d v w h
def memN (k : Nat) : List Nat → Bool
 | [] => false
 | x :: l => match Nat.beq k x with | true => true | false => memN k l
def mkM (ex : List Nat) : Nat → List Box → List (Option Box)
 | _, [] => []
 | k, b :: l => (match memN k ex with | true => none | false => some b) :: mkM ex (k + 1) l
theorem a1u (ex : List Nat) : ∀ (l : List Box) (k : Nat), (mkM ex k l).length = l.length
 | [], _ => rfl
 | _ :: l, k => by simp [mkM, a1u ex l]
theorem u0k (ex : List Nat) : ∀ (l : List Box) (k : Nat), msk (mkM ex k l) l = mkM ex k l
 | [], _ => rfl
 | b :: l, k => by
  unfold mkM
  split
  · simp [msk, u0k ex l]
  · simp [msk, u0k ex l]
def o1j (c : Cfg) : Bool :=
 match c.rg, c.ks with
 | .off, .code (.region _ _ true) :: _ => true
 | _, _ => false
def o1k (ex : List Nat) (c : Cfg) (A : List Nat) : Cfg :=
 match c.rg, c.ks with
 | .off, .code (.region _ ops true) :: ks => ⟨c.fr, c.bx, .dr ops A (mkM ex 0 c.bx) ops.size (Array.replicate ops.size false), ks⟩
 | _, _ => c
def p0w (P : Program) (i : Nat) (c : Cfg) : Cfg :=
 match c.rg with
 | .dr ops A0 m (fuel + 1) listed => match ops[i]? with
  | some o => match wnt ops c.fr o with
   | false => ⟨putO c.fr o.dst (.v undef), c.bx, .dr ops A0 m fuel (listed.setIfInBounds i true), c.ks⟩
   | true => match eff P (m.map unm) c.fr o with
    | .val x => ⟨putO c.fr o.dst x, c.bx, .dr ops A0 m fuel (listed.setIfInBounds i true), c.ks⟩
    | _ => c
  | none => c
 | _ => c
def u0l (P : Program) (i : Nat) (c : Cfg) : Bool :=
 match c.rg with
 | .dr ops _ m (_ + 1) listed => match ops[i]? with
  | some o => match Region.noSelect ops && Region.free .any ops listed i && (Region.ready .any ops listed).contains i with
   | true => match wnt ops c.fr o with
    | false => true
    | true => match eff P (m.map unm) c.fr o with
     | .val _ => true
     | _ => false
   | false => false
  | none => false
 | _ => false
def d0j (P : Program) (i : Nat) (c : Cfg) (A : List Nat) (w : World) : List (Result Next × Result Next) :=
 match c.rg with
 | .dr ops _ m _ _ => match ops[i]? with
  | some o => match wnt ops c.fr o with
   | false => []
   | true => m0k P (m.map unm) c.fr o A w
  | none => []
 | _ => []
def l1g (P : Program) : List Nat → Cfg → Cfg
 | [], c => c
 | i :: is, c => l1g P is (p0w P i c)
def a1v (P : Program) : List Nat → Cfg → Bool
 | [], _ => true
 | i :: is, c => match u0l P i c with | true => a1v P is (p0w P i c) | false => false
def p0x (P : Program) : List Nat → Cfg → List Nat → World → List (Result Next × Result Next)
 | [], _, _, _ => []
 | i :: is, c, A, w => d0j P i c A w ++ p0x P is (p0w P i c) A w
def dk1 : Rg → List Box → List (Option Box)
 | .dr _ _ m _ _, bx => msk m bx
 | _, _ => []
def dk2 : Rg → List (Option Box)
 | .dr _ _ m _ _ => m
 | _ => []
def l1h (c : Cfg) : Prop := dk1 c.rg c.bx = dk2 c.rg
def m0n (c : Cfg) : Option (List Nat) :=
 match c.rg with
 | .dr ops _ _ (_ + 1) listed => some (Region.ready .any ops listed)
 | _ => none
def oneC (i : Nat) (c : Cfg) : Cfg :=
 match c.rg with
 | .dr ops A0 m (fuel + 1) listed => ⟨c.fr, c.bx, .one ops A0 m fuel listed i, c.ks⟩
 | _ => c
section
variable {P : Program} {Q : Exit → Act → World → Prop} {E : List Nat} {w0 : World} {A : List Nat} {fs : List PF} {W : World} {c : Cfg} {o : Oper}
theorem o1l {A0 : List Nat} {m : List (Option Box)} {w : World} (h : PreD A0 m A) (hS : SB A0 m w) : BtOk A (m.map unm) w := fun k hk hc => by
 have := hS k hk hc
 rw [List.length_map] at hk
 rw [r0z h.pre (by have := h.le; omega), a1t h.pre h.wf]
 exact this
theorem u0m (hQ : f0p Q) (I : Inv E w0 A c.bx fs W) (hm : l1h c) (i : Nat) (h : G P Q A (p0w P i c) W) (ho : u0l P i c = true) (hc : ∀ A w, m0l (d0j P i c A w)) : G P Q A c W := by
 refine ⟨?_⟩
 have h := h.out
 obtain ⟨fr, bx, rg, ks⟩ := c
 cases rg with
 | off => cases ho
 | pl => cases ho
 | one => cases ho
 | ret => cases ho
 | dr ops A0 m fuel listed =>
  cases fuel with
  | zero => cases ho
  | succ fuel =>
   unfold u0l at ho
   unfold p0w at h
   unfold d0j at hc
   simp only at ho h hc
   intro pre
   split at ho
   · rename_i o hi
     rw [hi] at h hc
     split at ho
     · rename_i h1
       simp only [Bool.and_eq_true] at h1
       obtain ⟨⟨h1, h2⟩, h3⟩ := h1
       have hS : SB A0 m W := x0x I pre hm
       have hP := fun (x : Value) c a w => d0z (P := P) hQ ks c a o.dst x w
       cases hw : wnt ops fr o with
       | false =>
        simp only [hw] at h
        have h : WpH P ops (post P Q ks) (SB A0 m) fuel (listed.setIfInBounds i true) (act A (putO fr o.dst (.v undef))) W := h pre
        rw [← b0t] at h
        exact m0i i o.dst undef _ hi rfl rfl h1 h2 h3 (hP undef) (.inr ⟨by rw [d0h]; exact hw, rfl⟩) hS h
       | true =>
        simp only [hw] at h ho hc
        split at ho
        · rename_i x hx
          rw [hx] at h
          simp only at h
          have h : WpH P ops (post P Q ks) (SB A0 m) fuel (listed.setIfInBounds i true) (act A (putO fr o.dst x)) W := h pre
          rw [← b0t] at h
          exact m0i i o.dst (x.r A) _ hi rfl rfl h1 h2 h3 (hP _) (.inl ⟨by rw [d0h]; exact hw, fun w' hS' => p0s (o1l pre hS') hx (hc A w')⟩) hS h
        · cases ho
     · cases ho
   · cases ho
theorem a1w (i : Nat) (hm : l1h c) : l1h (p0w P i c) := by
 obtain ⟨fr, bx, rg, ks⟩ := c
 cases rg with
 | dr ops A0 m fuel listed =>
  cases fuel with
  | zero => exact hm
  | succ fuel =>
   unfold p0w
   simp only
   split
   · split
     · exact hm
     · split
       · exact hm
       · exact hm
   · exact hm
 | _ => exact hm
theorem f1r (i : Nat) : (p0w P i c).bx = c.bx := by
 unfold p0w
 repeat' split
 all_goals rfl
theorem zk (is : List Nat) (I : Inv E w0 A c.bx fs W) (h : Inv E w0 A (nrm (l1g P is c)).bx fs W → G P Q A (nrm (l1g P is c)) W) (ho : a1v P is c = true := by kernel_rfl)
 (hc : ∀ A w, (p0x P is c A w).map (·.1) = (p0x P is c A w).map (·.2) := by intro _ _; kernel_rfl) (hm : dk1 c.rg c.bx = dk2 c.rg := by kernel_rfl) (hQ : f0p Q := by exact d0r) : G P Q A c W := by
 rw [a1s] at h
 replace hc := fun A w => f0o (hc A w)
 induction is generalizing c with
 | nil => exact h I
 | cons i is ih =>
  unfold a1v at ho
  split at ho
  · rename_i h1
    refine u0m hQ I hm i (ih (by rw [f1r]; exact I) h ho (a1w i hm) fun A w => (d0p (hc A w)).2) h1 fun A w => (d0p (hc A w)).1
  · cases ho
theorem zd (ex : List Nat) (I : Inv E w0 A c.bx fs W) (h : ∀ A W, Inv E w0 A (o1k ex (zr P none c) A).bx fs W → G P Q A (o1k ex (zr P none c) A) W)
 (hr : ∀ A w, (zms P none 5000 c A w).map (·.1) = (zms P none 5000 c A w).map (·.2) := by intro _ _; kernel_rfl)
 (hd : o1j (zr P none c) = true := by kernel_rfl) (hw : wfB (zr P none c).bx.length ((mkM ex 0 (zr P none c).bx).map unm) = true := by kernel_rfl) (hm : P.follows .mixedOrders = true := by kernel_rfl) : G P Q A c W :=
 b0b I hr fun A W I => by
  have h := h A
  generalize zr P none c = c at *
  refine ⟨?_⟩
  obtain ⟨fr, bx, rg, ks⟩ := c
  cases rg with
  | pl => cases hd
  | dr => cases hd
  | one => cases hd
  | ret => cases hd
  | off =>
   cases ks with
   | nil => cases hd
   | cons k ks =>
    cases k with
    | block => cases hd
    | stop => cases hd
    | code x =>
     cases x with
     | region id ops b =>
      cases b with
      | false => cases hd
      | true =>
       have I2 := I.past (W' := W.drew) (Below.refl _ _).drew
       have hp : PreD A (mkM ex 0 bx) A := ⟨List.prefix_refl _, by rw [a1u, I.len]; exact Nat.le_refl _, by rw [I.len]; exact hw⟩
       have h := (h W.drew I2).out
       exact sxd P _ rfl (x0x I2 hp (u0k ex bx 0)) (h hp) hm
     | _ => cases hd
theorem zor (rs : List Nat) (h : ∀ i ∈ rs, G P Q A (oneC i c) W) (hr : m0n c = some rs) (hne : rs.isEmpty = false) : G P Q A c W := by
 refine ⟨?_⟩
 obtain ⟨fr, bx, rg, ks⟩ := c
 cases rg with
 | off => cases hr
 | pl => cases hr
 | one => cases hr
 | ret => cases hr
 | dr ops A0 m fuel listed =>
  cases fuel with
  | zero => cases hr
  | succ fuel =>
   intro pre
   refine f1m rs (Option.some.inj hr) hne ?_
   clear hr hne
   induction rs with
   | nil => exact l1b
   | cons i rs ih =>
    obtain ⟨o, ho, hk⟩ := (h i (by simp)).out pre
    exact f1n _ ho rfl hk (ih fun j hj => h j (by simp [hj]))
theorem f0q (i : Nat) : (oneC i c).bx = c.bx := by
 unfold oneC
 split <;> rfl
theorem zo (i : Nat) (I : Inv E w0 A c.bx fs W) (h : Inv E w0 A (oneC i c).bx fs W → G P Q A (oneC i c) W) (hr : m0n c = some [i] := by kernel_rfl) : G P Q A c W := zor [i] (fun j hj => by rw [List.mem_singleton] at hj; subst hj; exact h (by rw [f0q]; exact I)) hr rfl
theorem zo2 (i j : Nat) (I : Inv E w0 A c.bx fs W) (h : Inv E w0 A (oneC i c).bx fs W → G P Q A (oneC i c) W) (k : Inv E w0 A (oneC j c).bx fs W → G P Q A (oneC j c) W) (hr : m0n c = some [i, j] := by kernel_rfl) : G P Q A c W :=
 zor [i, j] (fun x hx => by simp only [List.mem_cons, List.not_mem_nil, or_false] at hx; rcases hx with rfl | rfl <;> first | exact h (by rw [f0q]; exact I) | exact k (by rw [f0q]; exact I)) hr rfl
theorem zo3 (i j l : Nat) (I : Inv E w0 A c.bx fs W) (h : Inv E w0 A (oneC i c).bx fs W → G P Q A (oneC i c) W) (k : Inv E w0 A (oneC j c).bx fs W → G P Q A (oneC j c) W) (q : Inv E w0 A (oneC l c).bx fs W → G P Q A (oneC l c) W) (hr : m0n c = some [i, j, l] := by kernel_rfl) : G P Q A c W :=
 zor [i, j, l] (fun x hx => by simp only [List.mem_cons, List.not_mem_nil, or_false] at hx; rcases hx with rfl | rfl | rfl <;> first | exact h (by rw [f0q]; exact I) | exact k (by rw [f0q]; exact I) | exact q (by rw [f0q]; exact I)) hr rfl
def oneN (P : Program) (c : Cfg) : Cfg :=
 match nxt c.rg with
 | some o => match aft c.bx c.fr o.dst (eff P c.bx c.fr o) with
  | some (fr, bx) => ⟨fr, bx, rgN c.rg, c.ks⟩
  | none => c
 | none => c
def j1p (P : Program) (c : Cfg) : Bool :=
 match nxt c.rg with
 | some o => match wnt (p0t c.rg) c.fr o with
  | true => match aft c.bx c.fr o.dst (eff P c.bx c.fr o) with
   | some _ => true
   | none => false
  | false => false
 | none => false
theorem zn (I : Inv E w0 A c.bx fs W) (h : ∀ A W, Inv E w0 A (nrm (oneN P c)).bx fs W → G P Q A (nrm (oneN P c)) W) (ho : j1p P c = true := by kernel_rfl)
 (hc : ∀ A w, (f0e P c A w).map (·.1) = (f0e P c A w).map (·.2) := by intro _ _; kernel_rfl) (hm : ok1 c.rg (oneN P c).bx = ok2 c.rg := by kernel_rfl) : G P Q A c W := by
 rw [a1s] at h
 have hc := f0o (hc A W)
 unfold j1p at ho
 unfold f0e at hc
 unfold oneN at h hm
 split at ho
 · rename_i o hn
   rw [hn] at h hc hm
   simp only at h hc hm
   split at ho
   · rename_i hw
     split at ho
     · rename_i r ha
       obtain ⟨fr, bx⟩ := r
       rw [ha] at h hm
       simp only at h hm
       exact G_op (E := E) (w0 := w0) (fs := fs) hn fun K hK => j1k I hw hc ha fun A' W' hA I' => hK A' W' _ _ hA I' hm (h A' W' I')
     · cases ho
   · cases ho
 · cases ho
/-! ### Loops, and where ways come together -/
def j1q (c : Cfg) : Option (Code × List Kt) :=
 match c.rg, c.ks with
 | .off, .code (.loop b) :: ks => some (b, ks)
 | _, _ => none
def j1r (c : Cfg) (fr : List SV) (bx : List Box) (J : Act → World → Prop) : Cfg :=
 match j1q c with
 | some (b, ks) => ⟨fr, bx, .off, .code b :: .stop J :: ks⟩
 | none => c
def uOf (c : Cfg) (A : List Nat) : Nat → Value := fun i => (lk (.v undef) c.fr i).r A
abbrev vu : SV := .v undef
def su : Nat → List SV → List SV
 | 0, l => l
 | n + 1, l => .v undef :: su n l
def sw (U : Nat → Value) : Nat → Nat → List SV → List SV
 | _, 0, l => l
 | i, n + 1, l => .v (U i) :: sw U (i + 1) n l
theorem h0c (I : Inv E w0 A c.bx fs W) (L : Nat → List SV → List Box → List PF → Prop) (n0 : Nat) {fr : List Nat → (Nat → Value) → List SV} {bx : List Nat → (Nat → Value) → List Box}
 (h0 : ∀ A W U, Inv E w0 A (bx A U) fs W → ∃ gs, L n0 (fr A U) (bx A U) gs ∧ Inv E w0 A (bx A U) gs W)
 (h : ∀ J n fr bx gs, L n fr bx gs → (∀ n' fr' bx' gs' A W, n' < n → L n' fr' bx' gs' → Inv E w0 A bx' gs' W → J (act A fr') W) → ∀ A W, Inv E w0 A (j1r (zr P none c) fr bx J).bx gs W → G P Q A (j1r (zr P none c) fr bx J) W)
 (hr : ∀ A w, (zms P none 5000 c A w).map (·.1) = (zms P none 5000 c A w).map (·.2) := by intro _ _; kernel_rfl)
 (hf : ∀ A, (zr P none c).fr.map (SV.r A) = (fr A (uOf (zr P none c) A)).map (SV.r A) := by intro _; kernel_rfl)
 (hb : ∀ A, (zr P none c).bx = bx A (uOf (zr P none c) A) := by intro _; kernel_rfl)
 (hl : (j1q (zr P none c)).isSome = true := by kernel_rfl) : G P Q A c W :=
 b0b I hr fun A W I => by
  have h9 := h0 A W (uOf (zr P none c) A) (by rw [← hb A]; exact I)
  have hf := hf A
  clear h0 hb
  generalize zr P none c = c at *
  refine ⟨?_⟩
  obtain ⟨gs, h9, I9⟩ := h9
  obtain ⟨cf, cb, rg, ks⟩ := c
  cases rg with
  | pl => cases hl
  | dr => cases hl
  | one => cases hl
  | ret => cases hl
  | off =>
   cases ks with
   | nil => cases hl
   | cons k ks =>
    cases k with
    | block => cases hl
    | stop => cases hl
    | code b =>
     cases b with
     | loop b =>
      refine wp_loop_ghost (fun n a w => ∃ fr bx gs A, L n fr bx gs ∧ a = act A fr ∧ Inv E w0 A bx gs w) n0 ⟨_, _, gs, A, h9, by unfold act; rw [hf], I9⟩ ?_
      rintro n a w ⟨fr, bx, gs, A, hL, rfl, I⟩
      exact (h (fun a w => ∃ n', n' < n ∧ ∃ fr bx gs A, L n' fr bx gs ∧ a = act A fr ∧ Inv E w0 A bx gs w) n fr bx gs hL (fun n' fr' bx' gs' A W hn hL I => ⟨n', hn, fr', bx', gs', A, hL, rfl, I⟩) A w I).out
     | _ => cases hl
def j1s (c : Cfg) : Option (Act → World → Prop) :=
 match c.rg, c.ks with
 | .off, .stop J :: _ => some J
 | _, _ => none
theorem a0j (I : Inv E w0 A c.bx fs W) (J : Act → World → Prop) {fr : List Nat → (Nat → Value) → List SV} {bx : List Nat → (Nat → Value) → List Box} (h : ∀ A W U, Inv E w0 A (bx A U) fs W → J (act A (fr A U)) W)
 (hr : ∀ A w, (zms P none 5000 c A w).map (·.1) = (zms P none 5000 c A w).map (·.2) := by intro _ _; kernel_rfl)
 (hf : ∀ A, (zr P none c).fr.map (SV.r A) = (fr A (uOf (zr P none c) A)).map (SV.r A) := by intro _; kernel_rfl)
 (hb : ∀ A, (zr P none c).bx = bx A (uOf (zr P none c) A) := by intro _; kernel_rfl)
 (hs : j1s (zr P none c) = some J := by kernel_rfl) : G P Q A c W :=
 b0b I hr fun A W I => by
  have h := h A W (uOf (zr P none c) A) (by rw [← hb A]; exact I)
  have hf := hf A
  clear hb
  unfold act at h
  rw [← hf] at h
  generalize zr P none c = c at *
  refine ⟨?_⟩
  obtain ⟨cf, cb, rg, ks⟩ := c
  cases rg with
  | pl => cases hs
  | dr => cases hs
  | one => cases hs
  | ret => cases hs
  | off =>
   cases ks with
   | nil => cases hs
   | cons k ks =>
    cases k with
    | block => cases hs
    | code => cases hs
    | stop J' =>
     obtain rfl : J' = J := Option.some.inj hs
     exact h
def cut1 (c : Cfg) (J : Act → World → Prop) : Cfg :=
 match c.ks with
 | k :: ks => ⟨c.fr, c.bx, c.rg, k :: .stop J :: ks⟩
 | [] => c
def cut2 (c : Cfg) (fr : List SV) (bx : List Box) : Cfg :=
 match c.ks with
 | _ :: ks => ⟨fr, bx, .off, ks⟩
 | [] => c
def o1m (c : Cfg) : Bool :=
 match c.rg, c.ks with
 | .off, .code _ :: _ => true
 | _, _ => false
theorem zcut (I : Inv E w0 A c.bx fs W) (d : Option Nat) (L : List SV → List Box → List PF → Prop)
 (h1 : ∀ J, (∀ fr bx gs A W, L fr bx gs → Inv E w0 A bx gs W → J (act A fr) W) → ∀ A W, Inv E w0 A (cut1 (zr P d c) J).bx fs W → G P Q A (cut1 (zr P d c) J) W)
 (h2 : ∀ fr bx gs, L fr bx gs → ∀ A W, Inv E w0 A (cut2 (zr P d c) fr bx).bx gs W → G P Q A (cut2 (zr P d c) fr bx) W)
 (hr : ∀ A w, (zms P d 5000 c A w).map (·.1) = (zms P d 5000 c A w).map (·.2) := by intro _ _; kernel_rfl)
 (hi : o1m (zr P d c) = true := by kernel_rfl) : G P Q A c W :=
 b0b I hr fun A W I => by
  have h1 := fun J hJ => h1 J hJ A W
  have h2 := fun fr bx gs hL A W I => (h2 fr bx gs hL A W I).out
  generalize zr P d c = c at *
  refine ⟨?_⟩
  obtain ⟨cf, cb, rg, ks⟩ := c
  cases rg with
  | pl => cases hi
  | dr => cases hi
  | one => cases hi
  | ret => cases hi
  | off =>
   cases ks with
   | nil => cases hi
   | cons k ks =>
    cases k with
    | block => cases hi
    | stop => cases hi
    | code b =>
     refine wp_mono (h1 (fun a w => ∃ fr bx gs A, L fr bx gs ∧ a = act A fr ∧ Inv E w0 A bx gs w) (fun fr bx gs A W hL I => ⟨fr, bx, gs, A, hL, rfl, I⟩) I).out ?_
     intro e a w hq
     cases e with
     | normal =>
      obtain ⟨fr, bx, gs, A, hL, rfl, I⟩ := hq
      exact h2 fr bx gs hL A w I
     | exit id => exact hq
     | goto l => exact hq
     | ret => exact hq
     | panic ch => exact hq
     | outgrown => exact hq
def i0d (i : Nat) (y : SV) (c : Cfg) : Cfg :=
 match c.rg with
 | .dr ops A0 m (fuel + 1) listed => match ops[i]? with
  | some o => ⟨putO c.fr o.dst y, c.bx, .dr ops A0 m fuel (listed.setIfInBounds i true), c.ks⟩
  | none => c
 | _ => c
def p0y (P : Program) (i : Nat) (c : Cfg) : Option Eff :=
 match c.rg with
 | .dr ops _ m (_ + 1) listed => match ops[i]? with
  | some o => match Region.noSelect ops && Region.free .any ops listed i && (Region.ready .any ops listed).contains i && wnt ops c.fr o with
   | true => some (eff P (m.map unm) c.fr o)
   | false => none
  | none => none
 | _ => none
theorem p0z (i : Nat) (y : SV) : (i0d i y c).bx = c.bx := by
 unfold i0d
 repeat' split
 all_goals rfl
theorem ztk (i : Nat) (I : Inv E w0 A c.bx fs W) (x y : SV) (hxy : ∀ A, x.r A = y.r A) (h : Inv E w0 A (i0d i y c).bx fs W → G P Q A (i0d i y c) W) (hv : p0y P i c = some (.val x) := by kernel_rfl)
 (hc : ∀ A w, (d0j P i c A w).map (·.1) = (d0j P i c A w).map (·.2) := by intro _ _; kernel_rfl) (hm : dk1 c.rg c.bx = dk2 c.rg := by kernel_rfl) (hQ : f0p Q := by exact d0r) : G P Q A c W := by
 refine ⟨?_⟩
 have h := (h (by rw [p0z]; exact I)).out
 replace hc := fun A w => f0o (hc A w)
 obtain ⟨cf, cb, rg, ks⟩ := c
 cases rg with
 | off => cases hv
 | pl => cases hv
 | one => cases hv
 | ret => cases hv
 | dr ops A0 m fuel listed =>
  cases fuel with
  | zero => cases hv
  | succ fuel =>
   unfold p0y at hv
   unfold i0d at h
   unfold d0j at hc
   simp only at hv h hc
   intro pre
   split at hv
   · rename_i o hi
     rw [hi] at h hc
     split at hv
     · rename_i h1
       simp only [Bool.and_eq_true] at h1
       obtain ⟨⟨⟨h1, h2⟩, h3⟩, hw⟩ := h1
       have hS : SB A0 m W := x0x I pre hm
       have hx := Option.some.inj hv
       simp only [hw] at hc
       have h : WpH P ops (post P Q ks) (SB A0 m) fuel (listed.setIfInBounds i true) (act A (putO cf o.dst y)) W := h pre
       rw [← b0t, ← hxy] at h
       exact m0i i o.dst (x.r A) _ hi rfl rfl h1 h2 h3 (fun c a w => d0z (P := P) hQ ks c a o.dst (x.r A) w) (.inl ⟨by rw [d0h]; exact hw, fun w' hS' => p0s (o1l pre hS') hx (hc A w')⟩) hS h
     · cases hv
   · cases hv
def a1x (i : Nat) (c : Cfg) (A : List Nat) : Option (BinOp × Value × Value) :=
 match c.rg with
 | .dr ops _ _ (_ + 1) listed => match ops[i]? with
  | some o => match Region.noSelect ops && Region.free .any ops listed i && (Region.ready .any ops listed).contains i && wnt ops c.fr o with
   | true => match o.op with
    | .binOp b _ x y _ => some (b, evr A c.fr x, evr A c.fr y)
    | _ => none
   | false => none
  | none => none
 | _ => none
theorem x0y (i : Nat) (I : Inv E w0 A c.bx fs W) {b : BinOp} {X Y : Value} (v : Value) (hx : ∀ t x y W, (do eqGuard b t x y X Y; binOp b t X Y : Sem Value).run P W = .ok v W) (h : Inv E w0 A (i0d i (.v v) c).bx fs W → G P Q A (i0d i (.v v) c) W)
 (hv : a1x i c A = some (b, X, Y) := by kernel_rfl) (hm : dk1 c.rg c.bx = dk2 c.rg := by kernel_rfl) (hQ : f0p Q := by exact d0r) : G P Q A c W := by
 refine ⟨?_⟩
 have h := (h (by rw [p0z]; exact I)).out
 obtain ⟨cf, cb, rg, ks⟩ := c
 cases rg with
 | off => cases hv
 | pl => cases hv
 | one => cases hv
 | ret => cases hv
 | dr ops A0 m fuel listed =>
  cases fuel with
  | zero => cases hv
  | succ fuel =>
   unfold a1x at hv
   unfold i0d at h
   simp only at hv h
   intro pre
   split at hv
   · rename_i o hi
     rw [hi] at h
     split at hv
     · rename_i h1
       simp only [Bool.and_eq_true] at h1
       obtain ⟨⟨⟨h1, h2⟩, h3⟩, hw⟩ := h1
       split at hv
       · rename_i b' t' x y t2 hop
         simp only [Option.some.injEq, Prod.mk.injEq] at hv
         obtain ⟨rfl, e1, e2⟩ := hv
         have hS : SB A0 m W := x0x I pre hm
         have h : WpH P ops (post P Q ks) (SB A0 m) fuel (listed.setIfInBounds i true) (act A (putO cf o.dst (.v v))) W := h pre
         rw [← b0t] at h
         refine m0i i o.dst v _ hi rfl rfl h1 h2 h3 (fun c a w => d0z (P := P) hQ ks c a o.dst v w) (.inl ⟨by rw [d0h]; exact hw, fun w' _ => ?_⟩) hS h
         rw [b0f]
         unfold execOp
         have := hx t' x y w'
         simp only [hop, e1, e2, Sem.run_bind] at this ⊢
         rw [this]
         rfl
       · cases hv
     · cases hv
   · cases hv
theorem zki (i : Nat) (I : Inv E w0 A c.bx fs W) (k : IntKind) (t e : Int) (hp : k.wrap t = e) (h : Inv E w0 A (i0d i (.v (.int k e)) c).bx fs W → G P Q A (i0d i (.v (.int k e)) c) W) (hv : p0y P i c = some (.val (.v (.int k (k.wrap t)))) := by kernel_rfl)
 (hc : ∀ A w, (d0j P i c A w).map (·.1) = (d0j P i c A w).map (·.2) := by intro _ _; kernel_rfl) (hm : dk1 c.rg c.bx = dk2 c.rg := by kernel_rfl) (hQ : f0p Q := by exact d0r) : G P Q A c W :=
 ztk i I (.v (.int k (k.wrap t))) (.v (.int k e)) (fun _ => by show Value.int k (k.wrap t) = .int k e; rw [hp]) h hv hc hm hQ
theorem zkb (i : Nat) (I : Inv E w0 A c.bx fs W) (e b : Bool) (hp : e = b) (h : Inv E w0 A (i0d i (.v (.bool b)) c).bx fs W → G P Q A (i0d i (.v (.bool b)) c) W) (hv : p0y P i c = some (.val (.v (.bool e))) := by kernel_rfl)
 (hc : ∀ A w, (d0j P i c A w).map (·.1) = (d0j P i c A w).map (·.2) := by intro _ _; kernel_rfl) (hm : dk1 c.rg c.bx = dk2 c.rg := by kernel_rfl) (hQ : f0p Q := by exact d0r) : G P Q A c W :=
 ztk i I (.v (.bool e)) (.v (.bool b)) (fun _ => by rw [hp]) h hv hc hm hQ
end
section walk
variable {P : Program} {ops : Array Oper} {rest : List Oper} {o : Oper} {a : Act} {K : Act → World → Prop} {Q : Exit → Act → World → Prop} {w : World}
end walk
theorem Own.kept {w w' : World} {base : Nat} {k : IntKind} {e : TypeId} {p q : OA} {c : Nat} {xs : List Nat} (h : Own w base k e p c xs) (hg : w.grownBy w' (q.map (·.block))) (hne : q.isSome = true → p.isSome = true → blk q ≠ blk p) : Own w' base k e p c xs := by
 refine h.grown hg fun hp => ?_
 cases q with
 | none => simp
 | some a =>
  have := hne rfl hp
  simp [blk] at this ⊢
  exact fun e => this e.symm
end Go.Slip
namespace Go.Proofs.YtgbbhlginbmghaaGreatDoor
open Go.RowKit Go.Slip
end Go.Proofs.YtgbbhlginbmghaaGreatDoor
namespace Go.Slip
open Go.RowKit
theorem Rd.pre {w : World} {k : IntKind} {p : OA} {xs ys : List Nat} (h : Rd w k p (xs ++ ys)) : Rd w k p xs := by
 have hl : (xs ++ ys).length = xs.length + ys.length := List.length_append
 refine ⟨fun h0 => h.solid (by omega), fun j hj => ?_⟩
 rw [h.cells j (by omega)]
 unfold dg
 rw [List.getElem?_append_left hj]
theorem u0n {P : Program} {t e : TypeId} (h : P.underlying t = some (.slice e)) : P.elem t = e := by
 unfold Program.elem
 rw [h]
theorem a1y (p : OA) : p.map (·.add 0) = p := by
 cases p with
 | none => rfl
 | some a => simp [Addr.add]
section
variable {P : Program} {ops : Array Oper} {Q : Exit → Act → World → Prop} {a : Act} {w : World} {rest : List Oper} {o : Oper}
end
def a0b (s : ByteArray) : List Nat := s.data.toList.map UInt8.toNat
theorem b0c (s : ByteArray) : (a0b s).length = s.size := by unfold a0b; rw [List.length_map, Array.length_toList]; rfl
theorem x0z (s : ByteArray) (j : Nat) (h : j < s.size) : (s[j]'h).toNat = dg (a0b s) j := by
 rw [a0t (by rw [b0c]; exact h)]
 simp [a0b]; rfl
theorem o0m (s : ByteArray) : ∀ x ∈ a0b s, x < 256 := by
 intro x hx
 obtain ⟨u, _, rfl⟩ := List.mem_map.1 hx
 exact u.toNat_lt
theorem c0y (s : ByteArray) (i j : Nat) : a0b (s.extract i j) = ((a0b s).take j).drop i := by
 unfold a0b
 rw [ByteArray.data_extract, Array.toList_extract, List.extract_eq_take_drop]
 rw [← List.map_take, ← List.map_drop, List.drop_take]
def j1t (s : ByteArray) : Prop := ∀ j, j < s.size → 48 ≤ dg (a0b s) j ∧ dg (a0b s) j ≤ 57
theorem e0r {w : World} {B : Nat} (hB : B ≤ w.heap.size) (e : TypeId) (s : ByteArray) : Below B w (Lib.bytesWorld w e s) := by
 refine ⟨?_, ?_, ?_, by rw [Lib.bytesWorld_size]; omega, fun i hi => Lib.bytesWorld_at_old w e s i (by omega)⟩
 all_goals (unfold Lib.bytesWorld World.freeze; split <;> rfl)
theorem j0n (w : World) (e : TypeId) (s : ByteArray) : Rd (Lib.bytesWorld w e s) .u8 (some ⟨w.heap.size, 0, none⟩) (a0b s) := by
 refine ⟨fun _ => ⟨rfl, rfl⟩, fun j hj => ?_⟩
 have hj2 : j < s.size := by rw [← b0c]; exact hj
 have h := Lib.bytesWorld_cell w e s j hj2
 simp only [at_, Option.getD_some, Nat.zero_add]
 rw [h, a0t hj]
 simp [a0b, List.getD, hj2]
section walk
variable {P : Program} {ops : Array Oper} {rest : List Oper} {o : Oper} {a : Act} {K : Act → World → Prop} {Q : Exit → Act → World → Prop} {w : World}
theorem f1s (x : Operand) (src dst : TypeId) (ho : o.op = .convert src dst x) {e : TypeId} (hs : P.underlying src = some .string) (hd : P.underlying dst = some (.slice e)) (he : P.underlying e = some (.int .u8))
 (s : ByteArray) (hx : a.eval x = .string s) (h : ∀ p' c' w', Rd w' .u8 p' (a0b s) → Below w.heap.size w w' → K (a.put o.dst (.slice p' s.size c')) w') : o.wp P a w K Q := by
 unfold Oper.wp execOp
 simp only [ho, hx]
 have hr := Lib.run_convert_string_bytes (P := P) w src dst e s hs hd he
 simp [hr, Oper.upon]
 exact h _ _ _ (j0n w e s) (e0r (Nat.le_refl _) e s)
theorem s0b (hgd : o.guard = none) (x : Operand) (src dst : TypeId) (ho : o.op = .convert src dst x) {e : TypeId} (hs : P.underlying src = some .string) (hd : P.underlying dst = some (.slice e)) (he : P.underlying e = some (.int .u8))
 (s : ByteArray) (hx : a.eval x = .string s) (h : ∀ p' c' w', Rd w' .u8 p' (a0b s) → Below w.heap.size w w' → wpList P ops Q rest (a.put o.dst (.slice p' s.size c')) w') : wpList P ops Q (o :: rest) a w :=
 wpList_plain hgd fun _ hK => f1s x src dst ho hs hd he s hx fun p' c' w' h900 h901 => hK _ _ (h p' c' w' h900 h901)
end walk
structure RdV (w : World) (p : OA) (vs : List Value) : Prop where
 solid : f0v p vs.length
 cells : ∀ j, j < vs.length → w.cell? (at_ p j) = vs[j]?
theorem RdV.nil (w : World) (p : OA) : RdV w p [] := ⟨fun h => by simp at h, fun j hj => by simp at hj⟩
theorem RdV.lt {w : World} {p : OA} {vs : List Value} (h : RdV w p vs) (h0 : 0 < vs.length) : blk p < w.heap.size :=
 World.block_lt_of_cell? w (at_ p 0) (u := vs[0]) (by rw [h.cells 0 h0, List.getElem?_eq_getElem h0])
theorem RdV.same {w w' : World} {p : OA} {vs : List Value} (h : RdV w p vs) (hb : 0 < vs.length → w'.heap[blk p]? = w.heap[blk p]?) : RdV w' p vs :=
 ⟨h.solid, fun j hj => by rw [World.cell?_of_block (w := w) (a := at_ p j) (hb (by omega))]; exact h.cells j hj⟩
theorem RdV.below {w w' : World} {B : Nat} {p : OA} {vs : List Value} (h : RdV w p vs) (hb : Below B w w') (hp : 0 < vs.length → blk p < B) : RdV w' p vs :=
 h.same fun h0 => hb.block _ (hp h0)
theorem RdV.past {w w' : World} {p : OA} {vs : List Value} (h : RdV w p vs) (hb : Below w.heap.size w w') : RdV w' p vs :=
 h.below hb fun h0 => h.lt h0
theorem RdV.drop {w : World} {p : OA} {vs : List Value} (h : RdV w p vs) (n : Nat) : RdV w (p.map (·.add n)) (vs.drop n) := by
 refine ⟨fun h0 => ?_, fun j hj => ?_⟩
 · have h1 := h.solid (by simp at h0; omega)
   refine ⟨by simpa using h1.1, ?_⟩
   rw [p0i p n h1.1]
   unfold Addr.add
   split
   · exact h1.2
   · rfl
 · simp only [List.length_drop] at hj
   have h1 := h.solid (by omega)
   rw [z0u p n j h1.1, h.cells (n + j) (by omega), List.getElem?_drop]
theorem RdV.take {w : World} {p : OA} {vs : List Value} (h : RdV w p vs) (n : Nat) : RdV w p (vs.take n) := by
 refine ⟨h.solid.mono (by simp; omega), fun j hj => ?_⟩
 simp only [List.length_take] at hj
 rw [h.cells j (by omega), List.getElem?_take, if_pos (by omega)]
theorem Rd.v {w : World} {k : IntKind} {p : OA} {xs : List Nat} (h : Rd w k p xs) : RdV w p (xs.map fun x : Nat => Value.int k (x : Int)) := by
 refine ⟨by rw [List.length_map]; exact h.solid, fun j hj => ?_⟩
 rw [List.length_map] at hj
 rw [h.cells j hj, List.getElem?_map]
 simp [hj, a0t]
def OwnV (w : World) (base : Nat) (e : TypeId) (p : OA) (c : Nat) (vs : List Value) : Prop := w.ownsRow base e 1 (.slice p vs.length c) vs.length vs
theorem Own.v {w : World} {base : Nat} {k : IntKind} {e : TypeId} {p : OA} {c : Nat} {xs : List Nat} (h : Own w base k e p c xs) : OwnV w base e p c (xs.map fun x : Nat => Value.int k (x : Int)) := by
 unfold OwnV
 rw [List.length_map]
 exact h
theorem f1t {w : World} {base : Nat} {k : IntKind} {e : TypeId} {p : OA} {c : Nat} {xs : List Nat} (h : OwnV w base e p c (xs.map fun x : Nat => Value.int k (x : Int))) : Own w base k e p c xs := by
 unfold OwnV at h
 rw [List.length_map] at h
 exact h
theorem OwnV.nil (w : World) (base : Nat) (e : TypeId) : OwnV w base e none 0 [] := World.ownsRow_nil w base e 1
theorem OwnV.form {w : World} {base : Nat} {e : TypeId} {p : OA} {c : Nat} {vs : List Value} (h : OwnV w base e p c vs) :
 (p = none ∧ c = 0 ∧ vs = []) ∨ ∃ g, p = some ⟨g, 0, none⟩ ∧ base ≤ g ∧ g < w.heap.size ∧ vs.length ≤ c ∧ c ≤ maxLen := by
 rcases h.2 with ⟨h1, h2⟩ | ⟨g, cap, cur, hv, hb, hg, hn, hc, _, _⟩
 · left
   simp only [Value.slice.injEq] at h1
   exact ⟨h1.1, h1.2.2, List.eq_nil_of_length_eq_zero h2⟩
 · right
   simp only [Value.slice.injEq] at hv
   obtain ⟨rfl, _, rfl⟩ := hv
   exact ⟨g, rfl, hb, (Array.getElem?_eq_some_iff.1 hg).1, hn, hc⟩
theorem OwnV.mono {w : World} {base b' : Nat} {e : TypeId} {p : OA} {c : Nat} {vs : List Value} (h : OwnV w base e p c vs) (hb : b' ≤ base) : OwnV w b' e p c vs := by
 refine ⟨h.1, ?_⟩
 rcases h.2 with h1 | ⟨g, cap, cur, hv, hbg, r⟩
 · exact .inl h1
 · exact .inr ⟨g, cap, cur, hv, by omega, r⟩
theorem OwnV.le_cap {w : World} {base : Nat} {e : TypeId} {p : OA} {c : Nat} {vs : List Value} (h : OwnV w base e p c vs) : vs.length ≤ c := by
 rcases h.form with ⟨_, rfl, rfl⟩ | ⟨g, _, _, _, h, _⟩
 · simp
 · exact h
theorem OwnV.rd {w : World} {base : Nat} {e : TypeId} {p : OA} {c : Nat} {vs : List Value} (h : OwnV w base e p c vs) : RdV w p vs := by
 rcases h.form with ⟨rfl, _, rfl⟩ | ⟨g, rfl, _⟩
 · exact RdV.nil w none
 · refine ⟨fun _ => ⟨rfl, rfl⟩, fun j hj => ?_⟩
   have h1 := World.ownsRow.cellAt (w := w) (base := base) (e := e) (size := 1) (g := g) (n := vs.length) (cap := c) h j (by omega)
   simp only [at_, Option.getD_some, Nat.zero_add]
   exact h1
theorem OwnV.blk_lt {w : World} {base : Nat} {e : TypeId} {p : OA} {c : Nat} {vs : List Value} (h : OwnV w base e p c vs) (hp : p.isSome = true) : base ≤ blk p ∧ blk p < w.heap.size := by
 rcases h.form with ⟨rfl, _, rfl⟩ | ⟨g, rfl, h1, h2, _⟩
 · simp at hp
 · exact ⟨h1, h2⟩
theorem OwnV.same {w w' : World} {base : Nat} {e : TypeId} {p : OA} {c : Nat} {vs : List Value} (h : OwnV w base e p c vs) (hb : p.isSome = true → w'.heap[blk p]? = w.heap[blk p]?) : OwnV w' base e p c vs := by
 refine ⟨h.1, ?_⟩
 rcases h.2 with h1 | ⟨g, cap, cur, hv, hbg, hg, r⟩
 · exact .inl h1
 · simp only [Value.slice.injEq] at hv
   obtain ⟨rfl, h2, rfl⟩ := hv
   exact .inr ⟨g, c, cur, rfl, hbg, by rw [← hg]; exact hb rfl, r⟩
theorem OwnV.below {w w' : World} {base B : Nat} {e : TypeId} {p : OA} {c : Nat} {vs : List Value} (h : OwnV w base e p c vs) (hb : Below B w w') (hp : p.isSome = true → blk p < B) : OwnV w' base e p c vs :=
 h.same fun h0 => hb.block _ (hp h0)
theorem OwnV.past {w w' : World} {base : Nat} {e : TypeId} {p : OA} {c : Nat} {vs : List Value} (h : OwnV w base e p c vs) (hb : Below w.heap.size w w') : OwnV w' base e p c vs :=
 h.below hb fun h0 => (h.blk_lt h0).2
theorem l1i {w : World} {base : Nat} {e : TypeId} {p : OA} {c : Nat} {vs : List Value} (h : OwnV w base e p c vs) (j : Nat) (hj : j < vs.length) (v : Value) :
 OwnV (w.setCell (at_ p j) v) base e p c (vs.set j v) ∧ w.grownBy (w.setCell (at_ p j) v) (some (blk p)) ∧ base ≤ blk p := by
 rcases h.form with ⟨rfl, _, rfl⟩ | ⟨g, rfl, hb, _⟩
 · simp at hj
 · have h1 := World.ownsRow.stored (w := w) (base := base) (e := e) (size := 1) (g := g) (n := vs.length) (cap := c) h j v
   simp only [at_, Option.getD_some, Nat.zero_add]
   refine ⟨?_, h1.2, hb⟩
   unfold OwnV
   rw [List.length_set]
   exact h1.1
theorem l1j {w : World} {base : Nat} {e : TypeId} {p : OA} {c : Nat} {vs : List Value} (h : OwnV w base e p c vs) (j : Nat) (hj : j < vs.length) : w.frozen? (at_ p j) = false := by
 rcases h.form with ⟨rfl, _, rfl⟩ | ⟨g, rfl, hb, _⟩
 · simp at hj
 · simpa [at_] using World.ownsRow.frozenAt (w := w) (base := base) (e := e) (size := 1) (g := g) (n := vs.length) (cap := c) h j
structure j0o (P : Program) (t e : TypeId) (z : Value) (bytes : Nat) : Prop where
 ht : P.underlying t = some (.slice e)
 hi : ∃ i, P.info? e = some i ∧ i.zero = some z ∧ i.size = 1 ∧ i.bytes = bytes
 hz : z.cells = #[z]
 h1 : z.oneCell' = true
 le : bytes ≤ 16
section walk
variable {P : Program} {ops : Array Oper} {rest : List Oper} {o : Oper} {a : Act} {Q : Exit → Act → World → Prop} {w : World} {K : Act → World → Prop}
end walk
structure Wr (w : World) (base : Nat) (k : IntKind) (p : OA) (xs : List Nat) : Prop where
 rd : Rd w k p xs
 fr : ∀ j, j < xs.length → w.frozen? (at_ p j) = false
 from_ : 0 < xs.length → base ≤ blk p
theorem Own.wr {w : World} {base : Nat} {k : IntKind} {e : TypeId} {p : OA} {c : Nat} {xs : List Nat} (h : Own w base k e p c xs) : Wr w base k p xs :=
 ⟨h.rd, fun j hj => e0v h j hj, fun h0 => (h.blk_lt (h.rd.solid h0).1).1⟩
theorem Wr.mono {w : World} {base b' : Nat} {k : IntKind} {p : OA} {xs : List Nat} (h : Wr w base k p xs) (hb : b' ≤ base) : Wr w b' k p xs := ⟨h.rd, h.fr, fun h0 => Nat.le_trans hb (h.from_ h0)⟩
theorem Wr.same {w w' : World} {base : Nat} {k : IntKind} {p : OA} {xs : List Nat} (h : Wr w base k p xs) (hb : 0 < xs.length → w'.heap[blk p]? = w.heap[blk p]?) : Wr w' base k p xs :=
 ⟨h.rd.same hb, fun j hj => by rw [World.frozen?_of_block (w := w) (a := at_ p j) (hb (by omega))]; exact h.fr j hj, h.from_⟩
theorem Wr.past {w w' : World} {base : Nat} {k : IntKind} {p : OA} {xs : List Nat} (h : Wr w base k p xs) (hb : Below w.heap.size w w') : Wr w' base k p xs :=
 h.same fun h0 => hb.block _ (h.rd.lt h0)
theorem Wr.drew {w : World} {base : Nat} {k : IntKind} {p : OA} {xs : List Nat} (h : Wr w base k p xs) : Wr w.drew base k p xs := h.same fun _ => rfl
theorem o1n {p : OA} {i j : Nat} (h : i ≠ j) : at_ p i ≠ at_ p j := by
 unfold at_
 intro e
 simp only [Addr.mk.injEq, true_and, and_true] at e
 omega
theorem Wr.set {w : World} {base : Nat} {k : IntKind} {p : OA} {xs : List Nat} (h : Wr w base k p xs) (j : Nat) (hj : j < xs.length) (n : Nat) :
 Wr (w.setCell (at_ p j) (.int k (n : Int))) base k p (xs.set j n) ∧ w.grownBy (w.setCell (at_ p j) (.int k (n : Int))) (some (blk p)) ∧ base ≤ blk p := by
 refine ⟨⟨⟨by rw [List.length_set]; exact h.rd.solid, fun i hi => ?_⟩, fun i hi => ?_, fun _ => h.from_ (by omega)⟩, ?_, h.from_ (by omega)⟩
 · rw [List.length_set] at hi
   by_cases e : j = i
   · subst e
     rw [World.cell?_setCell_same (h := h.rd.cells j hj)]
     unfold dg
     rw [List.getElem?_set_self hj]
     rfl
   · rw [World.cell?_setCell_other (h := o1n e), h.rd.cells i hi]
     unfold dg
     rw [List.getElem?_set_ne e]
 · rw [List.length_set] at hi
   rw [World.frozen?_setCell]
   exact h.fr i hi
 · refine ⟨rfl, rfl, rfl, by simp [World.setCell], fun b _ hne => ?_⟩
   show (w.heap.modify _ _)[b]? = _
   rw [Array.getElem?_modify, if_neg (fun e => hne (by rw [← e]; rfl))]
theorem q0a (w : World) (e : TypeId) (s : ByteArray) : Wr (Lib.bytesWorld w e s) w.heap.size .u8 (some ⟨w.heap.size, 0, none⟩) (a0b s) := by
 refine ⟨j0n w e s, fun j hj => ?_, fun _ => Nat.le_refl _⟩
 have hj2 : j < s.size := by rw [← b0c]; exact hj
 unfold World.frozen? at_
 simp only [Option.getD_some, Nat.zero_add]
 rw [Lib.bytesWorld_at_new]
 have : s.size ≤ (Lib.bytesCells w e s).size := by
  unfold Lib.bytesCells
  rw [Array.size_append, Array.size_map]
  exact Nat.le_add_right _ _
 simp only [Bool.and_eq_false_iff, decide_eq_false_iff_not]
 left
 omega
section walk
variable {P : Program} {ops : Array Oper} {rest : List Oper} {o : Oper} {a : Act} {K : Act → World → Prop} {Q : Exit → Act → World → Prop} {w : World}
end walk
section walk
variable {P : Program} {ops : Array Oper} {rest : List Oper} {o : Oper} {a : Act} {K : Act → World → Prop} {Q : Exit → Act → World → Prop} {w : World}
theorem f1u (x y : Operand) (t : TypeId) (ho : o.op = .makeSlice t x y) {e : TypeId} {k : IntKind} {bytes : Nat} (hty : SlTy P t e k bytes) (kl kc : IntKind) (n m : Nat) (i1 i2 : Int)
 (hx : a.eval x = .int kl i1) (hy : a.eval y = .int kc i2) (h1 : i1 = n) (h2 : i2 = m) (hnm : n ≤ m) (hb : m ≤ 4000000000)
 (h : ∀ p' c' w', Own w' w.heap.size k e p' c' (List.replicate n 0) → Below w.heap.size w w' → w.heap.size < w'.heap.size → K (a.put o.dst (.slice p' n c')) w') : o.wp P a w K Q := by
 subst h1 h2
 obtain ⟨i, hi, hz, hs, hbt⟩ := hty.hi
 have hbb : (i.bytes : Int) * (m : Int) ≤ 281474976710656 := by
  have h1 : m * i.bytes ≤ 4000000000 * 8 := Nat.mul_le_mul hb (by rw [hbt]; exact hty.le)
  have h2 : ((i.bytes * m : Nat) : Int) ≤ 281474976710656 := by rw [Nat.mul_comm]; omega
  rwa [Int.natCast_mul] at h2
 have hr := run_make (P := P) w t e i (.int k 0) hty.ht hi hz kl kc n m (by omega) (by omega) hbb (by omega)
 simp only [Int.toNat_natCast, hs, Nat.mul_one] at hr
 unfold Oper.wp execOp
 simp only [ho, hx, hy]
 simp only [Sem.run_bind, hr, Result.andThen_ok, Sem.run_pure]
 have hO : Own (w.alloc (.cells (madeCells (Value.cells (.int k 0)) m) e)) w.heap.size k e (some ⟨w.heap.size, 0, none⟩) m (List.replicate m 0) := by
  unfold Own
  rw [List.length_replicate, List.map_replicate]
  have : (madeCells (Value.cells (.int k 0)) m).toList = List.replicate m (.int k ((0 : Nat) : Int)) := toList_madeCells_one _ _
  rw [← this]
  exact World.ownsRow_lit w _ m (Nat.le_refl _) (by simp only [maxLen]; omega) (by simp [madeCells])
 have hO2 := hO.take n
 rw [List.take_replicate, Nat.min_eq_left hnm] at hO2
 exact h _ _ _ hO2 ((Below.refl _ _).alloc (Nat.le_refl _) _) (by simp)
theorem a1z (hgd : o.guard = none) (x y : Operand) (t : TypeId) (ho : o.op = .makeSlice t x y) {e : TypeId} {k : IntKind} {bytes : Nat} (hty : SlTy P t e k bytes) (kl kc : IntKind) (n m : Nat) (i1 i2 : Int)
 (hx : a.eval x = .int kl i1) (hy : a.eval y = .int kc i2) (h1 : i1 = n) (h2 : i2 = m) (hnm : n ≤ m) (hb : m ≤ 4000000000)
 (h : ∀ p' c' w', Own w' w.heap.size k e p' c' (List.replicate n 0) → Below w.heap.size w w' → w.heap.size < w'.heap.size → wpList P ops Q rest (a.put o.dst (.slice p' n c')) w') : wpList P ops Q (o :: rest) a w :=
 wpList_plain hgd fun _ hK => f1u x y t ho hty kl kc n m i1 i2 hx hy h1 h2 hnm hb fun p' c' w' h900 h901 h902 => hK _ _ (h p' c' w' h900 h901 h902)
end walk
theorem y0a (p : OA) (l n c : Nat) (h : l < c) : sliced p l n c 1 = .slice (p.map (·.add l)) (n - l) (c - l) := by
 unfold sliced
 rw [if_neg (by omega), Nat.mul_one]
section
variable {P : Program} {ops : Array Oper} {Q : Exit → Act → World → Prop} {a : Act} {w : World} {rest : List Oper} {o : Oper}
end
section
variable {P : Program} {a : Act} {w : World} {dst : Option Tmp} {t2 : TypeId} {pos : String} {af : Array Edge} {g : Option (Nat × Bool)} {x y : Operand}
theorem k0r {P : Program} {t e : TypeId} {z : Value} {bytes : Nat} (hty : j0o P t e z bytes) (w : World) : (sizeOf (P.elem t)).run P w = .ok 1 w := by
 obtain ⟨i, hi, -, hs, -⟩ := hty.hi
 rw [u0n hty.ht]
 simp [sizeOf, typeInfo, hi, hs]
theorem j0p {P : Program} {t e : TypeId} {z : Value} {bytes : Nat} (hty : j0o P t e z bytes) : P.underlying t = some (.slice (P.elem t)) := by
 rw [u0n hty.ht]; exact hty.ht
variable {k : IntKind} {X Y : Int} {xT yT : TypeId}
end
theorem Bx.e9 {w : World} {b : Nat} {v0 v1 v2 v3 v4 v5 v6 v7 v8 : Value} (h : Bx w b #[v0, v1, v2, v3, v4, v5, v6, v7, v8]) : w.cell? ⟨b, 0, none⟩ = some v0 ∧ w.cell? ⟨b, 1, none⟩ = some v1 ∧ w.cell? ⟨b, 2, none⟩ = some v2 ∧ w.cell? ⟨b, 3, none⟩ = some v3 ∧ w.cell? ⟨b, 4, none⟩ = some v4 ∧ w.cell? ⟨b, 5, none⟩ = some v5 ∧ w.cell? ⟨b, 6, none⟩ = some v6 ∧ w.cell? ⟨b, 7, none⟩ = some v7 ∧ w.cell? ⟨b, 8, none⟩ = some v8 := ⟨h.c 0 rfl, h.c 1 rfl, h.c 2 rfl, h.c 3 rfl, h.c 4 rfl, h.c 5 rfl, h.c 6 rfl, h.c 7 rfl, h.c 8 rfl⟩
theorem m0o {x E : Nat} (hx : x < 2 ^ 63) (hE : E ≤ 60) : bits .and .i64 (x : Int) ((2 ^ E - 1 : Nat) : Int) = ((x % 2 ^ E : Nat) : Int) := by
 have p1 : 2 ^ E ≤ 2 ^ 60 := Nat.pow_le_pow_right (by omega) hE
 have h2 : (BitVec.ofInt 64 (x : Int)).toNat = x := by rw [BitVec.ofInt_natCast, BitVec.toNat_ofNat, Nat.mod_eq_of_lt (by omega)]
 have h1 : (BitVec.ofInt 64 ((2 ^ E - 1 : Nat) : Int)).toNat = 2 ^ E - 1 := by rw [BitVec.ofInt_natCast, BitVec.toNat_ofNat, Nat.mod_eq_of_lt (by omega)]
 have key : (BitVec.ofInt 64 (x : Int) &&& BitVec.ofInt 64 ((2 ^ E - 1 : Nat) : Int)).toNat = x % 2 ^ E := by
  rw [BitVec.toNat_and, h2, h1, Nat.and_two_pow_sub_one_eq_mod]
 show IntKind.i64.wrap ((BitVec.ofInt 64 (x : Int) &&& BitVec.ofInt 64 ((2 ^ E - 1 : Nat) : Int)).toNat : Nat) = _
 rw [key]
 have : x % 2 ^ E < 2 ^ E := Nat.mod_lt _ (Nat.pow_pos (by omega))
 exact iwo
theorem y0b {x E : Nat} (hx : x < 2 ^ E) (hE : E ≤ 60) : bits .or .i64 (x : Int) ((2 ^ E : Nat) : Int) = ((2 ^ E + x : Nat) : Int) := by
 have p1 : 2 ^ E ≤ 2 ^ 60 := Nat.pow_le_pow_right (by omega) hE
 have h2 : (BitVec.ofInt 64 (x : Int)).toNat = x := by rw [BitVec.ofInt_natCast, BitVec.toNat_ofNat, Nat.mod_eq_of_lt (by omega)]
 have h1 : (BitVec.ofInt 64 ((2 ^ E : Nat) : Int)).toNat = 2 ^ E := by rw [BitVec.ofInt_natCast, BitVec.toNat_ofNat, Nat.mod_eq_of_lt (by omega)]
 have key : (BitVec.ofInt 64 (x : Int) ||| BitVec.ofInt 64 ((2 ^ E : Nat) : Int)).toNat = 2 ^ E + x := by
  rw [BitVec.toNat_or, h2, h1, Nat.or_comm]
  have := Nat.two_pow_add_eq_or_of_lt hx 1
  rw [Nat.mul_one] at this
  exact this.symm
 show IntKind.i64.wrap ((BitVec.ofInt 64 (x : Int) ||| BitVec.ofInt 64 ((2 ^ E : Nat) : Int)).toNat : Nat) = _
 rw [key]
 exact iwo
theorem q0b {E : Nat} (hE : E ≤ 60) : IntKind.i64.wrap (1 * 2 ^ (min (E : Int).toNat IntKind.i64.bits)) = ((2 ^ E : Nat) : Int) := by
 have p1 : 2 ^ E ≤ 2 ^ 60 := Nat.pow_le_pow_right (by omega) hE
 rw [Int.toNat_natCast, show IntKind.i64.bits = 64 from rfl, Nat.min_eq_left (by omega), Int.one_mul, show ((2 : Int) ^ E) = ((2 ^ E : Nat) : Int) by norm_cast]
 generalize 2 ^ E = T at *
 exact iwo
theorem b1a {x E : Nat} (hE : E ≤ 60) : (x : Int).fdiv (2 ^ (min (E : Int).toNat IntKind.i64.bits)) = ((x / 2 ^ E : Nat) : Int) := by
 rw [Int.toNat_natCast, show IntKind.i64.bits = 64 from rfl, Nat.min_eq_left (by omega), show ((2 : Int) ^ E) = ((2 ^ E : Nat) : Int) by norm_cast, Int.fdiv_eq_ediv_of_nonneg _ (Int.natCast_nonneg _)]
 rfl
def s0c (fn : Func) : Code := match fn.body with | some c => c | none => .skip
def cfg0 (fn : Func) (fr : List SV) (bx : List Box) : Cfg := ⟨fr ++ List.replicate (fn.ntmps - fr.length) (.v undef), bx, .off, [.code (s0c fn)]⟩
theorem a0c {P : Program} {E : List Nat} {w : World} {A : List Nat} {bx : List Box} {fs : List PF} {f : FuncId} {fn : Func} {args : Array Value} {R : Ending → World → Prop} (fr : List SV) (_ : Inv E w A bx fs w) (hf : P.funcs[f]? = some fn)
 (h : G P (bodyPost P fn R) A (cfg0 fn fr bx) w) (hb : fn.body.isSome = true := by kernel_rfl) (ha : fr.map (SV.r A) = args.toList := by kernel_rfl) : Calls P f args w R := by
 have hb2 : fn.body = some (s0c fn) := by
  unfold s0c
  cases h : fn.body with
  | none => rw [h] at hb; cases hb
  | some c => rfl
 refine calls_of_wp hf hb2 ?_
 have hl : fr.length = args.size := by rw [← Array.length_toList, ← ha, List.length_map]
 have e : (⟨args ++ Array.replicate (fn.ntmps - args.size) undef, []⟩ : Act) = act A (cfg0 fn fr bx).fr := by
  unfold act cfg0
  simp only [Act.mk.injEq, and_true]
  rw [List.map_append, ha, List.map_replicate, hl]
  apply Array.toList_inj.1
  simp [SV.r]
 rw [e]
 exact h.out
/-! ### What is handed in -/
def btL (w : World) (A0 : List Nat) : List Nat → List Box → Prop
 | a :: A, b :: bx => Bt w a b.t (b.row A0) ∧ btL w A0 A bx
 | [], [] => True
 | _, _ => False
theorem u0o {w : World} {A0 : List Nat} : ∀ {A : List Nat} {bx : List Box}, btL w A0 A bx → A.length = bx.length ∧ ∀ k, k < bx.length → Bt w (lk 0 A k) (lk bx0 bx k).t ((lk bx0 bx k).row A0)
 | [], [], _ => ⟨rfl, fun _ h => by simp at h⟩
 | a :: A, b :: bx, h => by
  have ih := u0o h.2
  refine ⟨by simp [ih.1], fun k hk => ?_⟩
  cases k with
  | zero => exact h.1
  | succ k => exact ih.2 k (by simpa using hk)
 | [], _ :: _, h => h.elim
 | _ :: _, [], h => h.elim
def f1v : List Box → Bool
 | [] => true
 | b :: l => match b.ro with | true => f1v l | false => false
theorem m0p : ∀ {l : List Box}, f1v l = true → ∀ k, k < l.length → (lk bx0 l k).ro = true
 | [], _, _, h => by simp at h
 | b :: l, h, k, hk => by
  unfold f1v at h
  split at h
  · rename_i hb
    cases k with
    | zero => exact hb
    | succ k => exact m0p h k (by simpa using hk)
  · cases h
theorem Inv.startR (w : World) (A : List Nat) (bx : List Box) (fs : List PF) (hb : btL w A A bx) (hf : PF.all w fs) (hr : f1v bx = true := by kernel_rfl) : Inv [] w A bx fs w := by
 have hF : ∀ a, Fa A bx a → False := fun a ⟨k, hk, h, _⟩ => by rw [m0p hr k hk] at h; cases h
 exact ⟨Kp.refl _ _, fun a h => (hF a h).elim, fun i j hi _ h => (by rw [m0p hr i hi] at h; cases h), (u0o hb).1, List.nil_prefix, (u0o hb).2, hf, fun a h => (hF a h).elim⟩
theorem Inv.startW (w : World) (b : Nat) (t : TypeId) (cs : List SV) (fs : List PF) {row : Array Value} (hb : Bt w b t row) (hf : PF.all w fs) (hfar : PF.far b fs) (hrow : row = (cs.map (SV.r [b])).toArray := by kernel_rfl) : Inv [b] w [b] [⟨t, cs, false⟩] fs w := by
 have hF : ∀ a, Fa [b] [⟨t, cs, false⟩] a → a = b := fun a ⟨k, hk, _, e⟩ => by
  obtain rfl : k = 0 := by simpa using hk
  exact e
 refine ⟨Kp.refl _ _, fun a h => .inr (by rw [hF a h]; simp), fun i j hi hj _ hn => ?_, rfl, List.prefix_refl _, fun k hk => ?_, hf, fun a h => by rw [hF a h]; exact hfar⟩
 · simp at hi hj
   omega
 · obtain rfl : k = 0 := by simpa using hk
   rw [hrow] at hb
   exact hb
/-! ### Facts -/
def ownF (b : Nat) (k : IntKind) (e : TypeId) (p : OA) (c : Nat) (xs : List Nat) : PF :=
 ⟨fun w => Own w b k e p c xs, fun a => p.isSome = true ∧ blk p = a, fun _ _ h hb _ => h.same fun hp => hb _ (h.blk_lt hp).2 ⟨hp, rfl⟩, fun _ _ h hf => hf.2 ▸ (h.blk_lt hf.1).2⟩
def rdF (k : IntKind) (p : OA) (xs : List Nat) : PF :=
 ⟨fun w => Rd w k p xs, fun a => 0 < xs.length ∧ blk p = a, fun _ _ h hb _ => h.same fun hp => hb _ (h.lt hp) ⟨hp, rfl⟩, fun _ _ h hf => hf.2 ▸ h.lt hf.1⟩
def rfF (b : Nat) (p : OA) (c : Nat) (xs : List Nat) : PF :=
 ⟨fun w => Rf w b p c xs, fun a => 0 < xs.length ∧ blk p = a, fun _ _ h hb _ => ⟨h.rd.same fun hp => hb _ (h.rd.lt hp) ⟨hp, rfl⟩, h.cap, h.at_⟩, fun _ _ h hf => hf.2 ▸ h.rd.lt hf.1⟩
def b0s (b : Nat) (e : TypeId) (p : OA) (c : Nat) (vs : List Value) : PF :=
 ⟨fun w => OwnV w b e p c vs, fun a => p.isSome = true ∧ blk p = a, fun _ _ h hb _ => h.same fun hp => hb _ (h.blk_lt hp).2 ⟨hp, rfl⟩, fun _ _ h hf => hf.2 ▸ (h.blk_lt hf.1).2⟩
def rdvF (p : OA) (vs : List Value) : PF :=
 ⟨fun w => RdV w p vs, fun a => 0 < vs.length ∧ blk p = a, fun _ _ h hb _ => h.same fun hp => hb _ (h.lt hp) ⟨hp, rfl⟩, fun _ _ h hf => hf.2 ▸ h.lt hf.1⟩
theorem OwnV.far {w : World} {base : Nat} {e : TypeId} {p : OA} {c : Nat} {xs : List Value} (h : OwnV w base e p c xs) {b : Nat} {t : TypeId} {vs : Array Value} (hX : Bt w b t vs) (hne : Nat.beq t e = false) (hp : p.isSome = true) : blk p ≠ b := by
 rcases h.2 with ⟨h1, h2⟩ | ⟨g, cap, cur, hv, hb, hg, _⟩
 · simp only [Value.slice.injEq] at h1
   rw [h1.1] at hp; cases hp
 · simp only [Value.slice.injEq] at hv
   intro hE
   rw [hv.1] at hE
   have hE2 : g = b := hE
   subst hE2
   have hE3 := hg.symm.trans hX
   simp only [Option.some.injEq, Obj.cells.injEq] at hE3
   rw [hE3.2.1] at hne
   simp at hne
def q0c (e : TypeId) : List Box → Bool
 | [] => true
 | b :: l => match Nat.beq b.t e with | true => false | false => q0c e l
theorem g0a {e : TypeId} : ∀ {l : List Box}, q0c e l = true → ∀ k, k < l.length → Nat.beq (lk bx0 l k).t e = false
 | [], _, _, h => by simp at h
 | b :: l, h, k, hk => by
  unfold q0c at h
  split at h
  · cases h
  · rename_i hb
    cases k with
    | zero => exact hb
    | succ k => exact g0a h k (by simpa using hk)
section
variable {E : List Nat} {w0 : World} {A : List Nat} {bx : List Box} {fs : List PF} {W : World}
def b1b (bx : List Box) (k : Nat) (A : List Nat) : Option (TypeId × Array Value) := match Nat.ble (k + 1) bx.length with | true => some ((lk bx0 bx k).t, (lk bx0 bx k).row A) | false => none
theorem Inv.box (I : Inv E w0 A bx fs W) (k : Nat) (t : TypeId) (vs : Array Value) (h : b1b bx k A = some (t, vs) := by kernel_rfl) : Bt W (lk 0 A k) t vs := by
 unfold b1b at h
 split at h
 · rename_i hk
   simp only [Option.some.injEq, Prod.mk.injEq] at h
   have := I.bt k (g0t hk)
   rw [h.1, h.2] at this
   exact this
 · cases h
theorem Inv.boxE {b : Nat} (I : Inv (b :: E) w0 A bx fs W) (t : TypeId) (vs : Array Value) (h : b1b bx 0 A = some (t, vs) := by kernel_rfl) : Bt W b t vs := by
 have := I.box 0 t vs h
 rw [r0z I.pre (k := 0) (by simp)] at this
 exact this
theorem Inv.geB (I : Inv [] w0 A bx fs W) (k : Nat) (h : Nat.ble (k + 1) bx.length = true := by kernel_rfl) (hr : (lk bx0 bx k).ro = false := by kernel_rfl) : w0.heap.size ≤ lk 0 A k :=
 (I.ge _ ⟨k, g0t h, hr, rfl⟩).resolve_right (by simp)
theorem Inv.adE (I : Inv E w0 A bx fs W) (k : Nat) (h : k < E.length) : lk 0 A k = lk 0 E k := r0z I.pre h
theorem Inv.own (I : Inv E w0 A bx fs W) {b : Nat} {k : IntKind} {e : TypeId} {p : OA} {c : Nat} {xs : List Nat} (o : Own W b k e p c xs) (hb : w0.heap.size ≤ b := by first | exact Nat.le_refl _ | assumption | omega) (hne : q0c e bx = true := by kernel_rfl) :
 Inv E w0 A bx (ownF w0.heap.size k e p c xs :: fs) W :=
 I.add (ownF w0.heap.size k e p c xs) (o.mono hb) fun a ha hf => by
  obtain ⟨j, hj, _, rfl⟩ := ha
  exact o.far (I.bt j hj) (g0a hne j hj) hf.1 hf.2
theorem Inv.ownv (I : Inv E w0 A bx fs W) {b : Nat} {e : TypeId} {p : OA} {c : Nat} {xs : List Value} (o : OwnV W b e p c xs) (hb : w0.heap.size ≤ b := by first | exact Nat.le_refl _ | assumption | omega) (hne : q0c e bx = true := by kernel_rfl) :
 Inv E w0 A bx (b0s w0.heap.size e p c xs :: fs) W :=
 I.add (b0s w0.heap.size e p c xs) (o.mono hb) fun a ha hf => by
  obtain ⟨j, hj, _, rfl⟩ := ha
  exact o.far (I.bt j hj) (g0a hne j hj) hf.1 hf.2
theorem Inv.ownB (I : Inv E w0 A bx fs W) (B : Nat) {b : Nat} {k : IntKind} {e : TypeId} {p : OA} {c : Nat} {xs : List Nat} (o : Own W b k e p c xs) (hb : B ≤ b := by first | exact Nat.le_refl _ | assumption | omega) (hne : q0c e bx = true := by kernel_rfl) :
 Inv E w0 A bx (ownF B k e p c xs :: fs) W :=
 I.add (ownF B k e p c xs) (o.mono hb) fun a ha hf => by
  obtain ⟨j, hj, _, rfl⟩ := ha
  exact o.far (I.bt j hj) (g0a hne j hj) hf.1 hf.2
def b1c (k : IntKind) : SV → Bool
 | .v (.int k' _) => !(decide (k' = k))
 | _ => true
def w0f (k : IntKind) : List Box → Bool
 | [] => true
 | b :: l => match b.cs.all (b1c k) with | true => w0f k l | false => false
theorem o0n {k : IntKind} : ∀ {l : List Box}, w0f k l = true → ∀ j, j < l.length → (lk bx0 l j).cs.all (b1c k) = true
 | [], _, _, h => by simp at h
 | b :: l, h, j, hj => by
  unfold w0f at h
  split at h
  · rename_i hb
    cases j with
    | zero => exact hb
    | succ j => exact o0n h j (by simpa using hj)
  · cases h
theorem b1d {k : IntKind} (A : List Nat) {l : List SV} (h : l.all (b1c k) = true) : a1k k (l.map (SV.r A)).toArray = true := by
 unfold a1k
 rw [List.all_toArray, List.all_map]
 rw [List.all_eq_true] at h ⊢
 intro x hx
 have := h x hx
 cases x with
 | v x => cases x <;> first | exact this | rfl
 | _ => rfl
theorem Inv.rd (I : Inv E w0 A bx fs W) {k : IntKind} {p : OA} {xs : List Nat} (r : Rd W k p xs) (hne : w0f k bx = true := by kernel_rfl) : Inv E w0 A bx (rdF k p xs :: fs) W :=
 I.add (rdF k p xs) r fun a ha hf => by
  obtain ⟨j, hj, _, rfl⟩ := ha
  exact r.far (I.bt j hj) (b1d A (o0n hne j hj)) hf.1 hf.2
theorem Inv.rf (I : Inv E w0 A bx fs W) {p : OA} {c : Nat} {xs : List Nat} {bx' : List Box} {fs' : List PF} {V : World} (o : Rf W V.heap.size p c xs) (hB : ∀ a, Fa A bx a → Fa A bx' a) (J : Inv E w0 A bx' fs' V) (hb : w0.heap.size ≤ V.heap.size := by first | exact Nat.le_refl _ | assumption | omega) : Inv E w0 A bx (rfF w0.heap.size p c xs :: fs) W :=
 I.add (rfF w0.heap.size p c xs) (o.mono hb) fun a ha hf => by
  have h1 := J.lt a (hB a ha)
  have h2 := o.at_ hf.1
  have h3 := hf.2
  omega
end
section
variable {P : Program} {Q : Exit → Act → World → Prop} {E : List Nat} {w0 : World} {A : List Nat} {fs : List PF} {W : World} {c : Cfg}
theorem zqo (I : Inv E w0 A c.bx fs W) {f : FuncId} {args : List Nat → World → Array Value} {v : OA → Nat → Value} {k : IntKind} {t : TypeId} {xs : List Nat} {b : World → Nat}
 (hc : ∀ A W, Inv E w0 A (zr P none c).bx fs W → Calls P f (args A W) W fun e w' => ∃ p c, e = .returned (v p c) ∧ Own w' (b W) k t p c xs ∧ Below W.heap.size W w')
 (h : ∀ A W p d, Inv E w0 A (putc (zr P none c) (.v (v p d))).bx (ownF w0.heap.size k t p d xs :: fs) W → G P Q A (putc (zr P none c) (.v (v p d))) W)
 (ho : ∀ A w, g0u P (zr P none c) A w = some (.ok (.enter f (args A w)) w) := by intro _ _; kernel_rfl)
 (hr : ∀ A w, (zms P none 5000 c A w).map (·.1) = (zms P none 5000 c A w).map (·.2) := by intro _ _; kernel_rfl)
 (hm : ok1 (zr P none c).rg (zr P none c).bx = ok2 (zr P none c).rg := by kernel_rfl)
 (hne : q0c t (zr P none c).bx = true := by kernel_rfl) (hbb : ∀ V, w0.heap.size ≤ V.heap.size → w0.heap.size ≤ b V := by intro _ h; first | exact h | exact Nat.le_refl _ | assumption | omega) : G P Q A c W :=
 zg I hc (fun A V _ hz _ _ hK _ W ⟨p, d, h1, h2, h3⟩ => ⟨v p d, h1, hK _ W h3 fun I => h A W p d (I.own h2 (hbb V hz) hne)⟩) ho hr hm
end
def pick : List Nat → List PF → List PF
 | [], _ => []
 | i :: is, fs => lk ⟨fun _ => True, fun _ => False, fun _ _ h _ _ => h, fun _ _ _ h => h.elim⟩ fs i :: pick is fs
section
variable {E : List Nat} {w0 : World} {A : List Nat} {bx : List Box} {fs : List PF} {W : World}
theorem PF.all_lk {W : World} (d : PF) (hd : d.prop W) : ∀ {fs : List PF} (i : Nat), PF.all W fs → (lk d fs i).prop W
 | [], _, _ => hd
 | _ :: _, 0, h => h.1
 | _ :: _, i + 1, h => PF.all_lk d hd i h.2
theorem PF.far_lk {a : Nat} (d : PF) (hd : ¬ d.foot a) : ∀ {fs : List PF} (i : Nat), PF.far a fs → ¬ (lk d fs i).foot a
 | [], _, _ => hd
 | _ :: _, 0, h => h.1
 | _ :: _, i + 1, h => PF.far_lk d hd i h.2
theorem Inv.pick (I : Inv E w0 A bx fs W) (is : List Nat) : Inv E w0 A bx (pick is fs) W := by
 refine ⟨I.bel, I.ge, I.nd, I.len, I.pre, I.bt, ?_, fun a ha => ?_⟩
 · have := I.fa
   induction is with
   | nil => exact True.intro
   | cons i is ih => exact ⟨PF.all_lk _ True.intro i this, ih⟩
 · have := I.far a ha
   induction is with
   | nil => exact True.intro
   | cons i is ih => exact ⟨PF.far_lk _ id i this, ih⟩
end
/-! ### Values of two -/
section
variable {P : Program} {t : TypeId} {x y : Operand} {W : World}
theorem m0q (k : IntKind) (X : Int) (k2 : IntKind) (Y m : Int) (h0 : 0 ≤ Y) (hm : k.wrap (X * 2 ^ (min Y.toNat k.bits)) = m) : (do eqGuard .shl t x y (.int k X) (.int k2 Y); binOp .shl t (.int k X) (.int k2 Y) : Sem Value).run P W = .ok (.int k m) W := by
 simp [binOp, eqGuard, Op.shift, show ¬ Y < 0 by omega, hm]
theorem k0s (k : IntKind) (X : Int) (k2 : IntKind) (Y m : Int) (h0 : 0 ≤ Y) (hm : X.fdiv (2 ^ (min Y.toNat k.bits)) = m) : (do eqGuard .shr t x y (.int k X) (.int k2 Y); binOp .shr t (.int k X) (.int k2 Y) : Sem Value).run P W = .ok (.int k m) W := by
 simp [binOp, eqGuard, Op.shift, show ¬ Y < 0 by omega, hm]
theorem u0p (k : IntKind) (X Y m : Int) (h0 : Y ≠ 0) (hm : k.wrap (X.tdiv Y) = m) : (do eqGuard .quo t x y (.int k X) (.int k Y); binOp .quo t (.int k X) (.int k Y) : Sem Value).run P W = .ok (.int k m) W := by
 simp [binOp, eqGuard, Op.intDiv, h0, hm]
theorem h0d (k : IntKind) (X Y m : Int) (hm : bits .and k X Y = m) : (do eqGuard .and t x y (.int k X) (.int k Y); binOp .and t (.int k X) (.int k Y) : Sem Value).run P W = .ok (.int k m) W := by
 subst hm
 simp [binOp, eqGuard, intBits_and]
theorem l0h (k : IntKind) (X Y m : Int) (hm : bits .or k X Y = m) : (do eqGuard .or t x y (.int k X) (.int k Y); binOp .or t (.int k X) (.int k Y) : Sem Value).run P W = .ok (.int k m) W := by
 subst hm
 simp [binOp, eqGuard, intBits_or]
theorem l1k (s : ByteArray) : (do eqGuard .neq t x y (.string s) (.string s); binOp .neq t (.string s) (.string s) : Sem Value).run P W = .ok (.bool false) W := by
 simp [go_sem, eqGuard]
end
/-! ### Rows of others -/
theorem tyV {P : Program} {t e : TypeId} {z : Value} {bytes : Nat} (h1 : P.underlying t = some (.slice e))
 (h2 : (P.info? e).map (fun i => (i.zero, i.size, i.bytes)) = some (some z, 1, bytes)) (h3 : bytes ≤ 16) (h4 : z.cells = #[z]) (h5 : z.oneCell' = true) : j0o P t e z bytes := by
 refine ⟨h1, ?_, h4, h5, h3⟩
 cases h : P.info? e with
 | none => rw [h] at h2; simp at h2
 | some i => rw [h] at h2; simp at h2; exact ⟨i, rfl, h2.1, h2.2.1, h2.2.2⟩
section
variable {P : Program} {w : World}
theorem d0k {t : TypeId} {e : TypeId} {z : Value} {bytes : Nat} (hty : j0o P t e z bytes) {p : OA} {n c m : Nat} (hp : f0v p n) (hm : m < n) : (VO.ix t (.slice p n c) (.int .i64 (m : Int))).sem.run P w = .ok (.pointer (some (at_ p m))) w := by
 show (Instr.indexAt _ _ _).run P w = _
 rw [run_indexAt_solid w t p n c .i64 m (j0p hty) hp, if_pos (show (0 : Int) ≤ (m : Int) ∧ (m : Int) < (n : Int) by omega)]
 simp only [k0r hty, Result.andThen_ok, Int.toNat_natCast, Nat.mul_one]
theorem o1o {t : TypeId} {e : TypeId} {z : Value} {bytes : Nat} (hty : j0o P t e z bytes) {p : OA} {n c m : Nat} (hm : m ≤ n) (hc : m < c) (_hnc : n ≤ c) : (VO.sl t (.slice p n c) (some (.int .i64 (m : Int))) none none).sem.run P w = .ok (.slice (p.map (·.add m)) (n - m) (c - m)) w := by
 show (Instr.sliceAt _ _ _ _ _).run P w = _
 simp only [run_sliceAt_slice (h := j0p hty), run_slice_l (ht := j0p hty) (h0 := Int.natCast_nonneg m) (h1 := Int.ofNat_le.2 hm), k0r hty, Result.andThen_ok, Int.toNat_natCast]
 rw [y0a p m n c hc]
theorem b0e {ty : TypeId} {p : OA} {vs : List Value} (hr : RdV w p vs) (hT : j0l P ty) {m : Nat} {v : Value} (hv : vs[m]? = some v) : (VO.ld ty (.pointer (some (at_ p m)))).sem.run P w = .ok v w := by
 show (Instr.loadAt _ _).run P w = _
 have hm : m < vs.length := (List.getElem?_eq_some_iff.1 hv).1
 have hl : (load (at_ p m)).run P w = .ok v w := by
  have := hr.cells m hm
  rw [hv] at this
  simp [go_sem, this]
 simp only [Instr.loadAt, Instr.sureAddr, Sem.run_bind, Sem.run_pure, Result.andThen_ok, loadVar, g0i hT]
 simpa using hl
end
/-! ### What calls leave -/
section
variable {P : Program} {f : FuncId} {args : Array Value} {w : World}
end
end Go.Slip
namespace Go.Proofs.YtgbbhlginbmghaaGreatDoor
open Go.RowKit Go.Slip
theorem TabW.same {w w' : World} (h : TabW w) (hb : w'.heap[0]? = w.heap[0]?) (hs : w.heap.size ≤ w'.heap.size) : TabW w' :=
 ⟨fun j hj => by
   have := h.1 j hj
   unfold World.cell? at this ⊢
   rw [show w'.heap[(⟨0, j, none⟩ : Addr).block]? = w.heap[(⟨0, j, none⟩ : Addr).block]? from hb]
   exact this, Nat.lt_of_lt_of_le h.2 hs⟩
def tabF : PF := ⟨TabW, fun a => 0 = a, fun _ _ h hb hs => h.same (hb 0 h.2 rfl) hs, fun _ _ h hf => hf ▸ h.2⟩
end Go.Proofs.YtgbbhlginbmghaaGreatDoor
namespace Go.Slip
def k0t (L X : List Nat) (ten d0 i d : Nat) : Prop :=
 (∀ x ∈ L, x < B32) ∧ L.length = X.length ∧ (∀ j, i ≤ j → dg L j = dg X j) ∧ val B32 (L.take i) + d * B32 ^ i = val B32 (X.take i) * ten + d0
theorem k0t.start {X : List Nat} (h : ∀ x ∈ X, x < B32) (ten d0 : Nat) : k0t X X ten d0 0 d0 := ⟨h, rfl, fun _ _ => rfl, by simp⟩
theorem k0t.step {L X : List Nat} {ten d0 i d : Nat} (h : k0t L X ten d0 i d) (hi : i < X.length) (t : Nat) (ht : t = dg X i * ten + d) : k0t (L.set i (t % B32)) X ten d0 (i + 1) (t / B32) := by
 obtain ⟨h1, h2, h3, h4⟩ := h
 refine ⟨i0f L h1 i _ (Nat.mod_lt _ c0f), by simpa using h2, fun j hj => ?_, ?_⟩
 · rw [b0n (by omega)]; exact h3 j (by omega)
 · rw [a0i, d0d, b0g (by omega), a0i, Nat.pow_succ]
   have h5 := Nat.div_add_mod t B32
   generalize t / B32 = q at *
   generalize t % B32 = r at *
   have e : B32 ^ i * (B32 * q + r) = B32 ^ i * (dg X i * ten + d) := by rw [h5, ht]
   grind
theorem k0t.done0 {L : List Nat} {ten d0 a : Nat} (h : k0t L (dig B32 a) ten d0 (dig B32 a).length 0) (h1 : 0 < ten) : L = dig B32 (a * ten + d0) := by
 have h4 := h.2.2.2
 rw [List.take_length, b0l a0a, ← h.2.1, List.take_length] at h4
 obtain ⟨m, rfl⟩ : ∃ m, ten = m + 1 := ⟨ten - 1, by omega⟩
 have e : a * (m + 1) + d0 = a + (a * m + d0) := by grind
 rw [e] at h4 ⊢
 exact v0u a0a L a _ h.1 h.2.1 (by omega)
theorem k0t.done1 {L : List Nat} {ten d0 a d : Nat} (h : k0t L (dig B32 a) ten d0 (dig B32 a).length d) (h1 : 0 < d) (h2 : d < B32) : L ++ [d] = dig B32 (a * ten + d0) := by
 have h4 := h.2.2.2
 rw [List.take_length, b0l a0a, ← h.2.1, List.take_length] at h4
 exact v0v a0a L d _ h.1 h1 h2 h4
def a0m (l : List Nat) : Nat := l.foldl (fun a b => 10 * a + (b - 48)) 0
theorem o0o (l : List Nat) (b : Nat) : a0m (l ++ [b]) = 10 * a0m l + (b - 48) := by simp [a0m]
theorem f0f (l : List Nat) (k : Nat) (h : k < l.length) : a0m (l.take (k + 1)) = 10 * a0m (l.take k) + (dg l k - 48) := by
 rw [List.take_succ_eq_append_getElem h, o0o, a0t h]
theorem g0j (l : List Nat) (h : ∀ j, j < l.length → dg l j ≤ 57) : a0m l < 10 ^ l.length := by
 have key : ∀ n, n ≤ l.length → a0m (l.take n) < 10 ^ n := by
  intro n
  induction n with
  | zero => intro _; simp [a0m]
  | succ n ih =>
   intro hn
   rw [f0f l n (by omega), Nat.pow_succ]
   have h1 := ih (by omega)
   have h2 := h n (by omega)
   omega
 have := key l.length (Nat.le_refl _)
 rwa [List.take_length] at this
theorem b1e (m : List Nat) : ∀ a, m.foldl (fun a b => 10 * a + (b - 48)) a = a * 10 ^ m.length + a0m m := by
 induction m with
 | nil => intro a; simp [a0m]
 | cons x m ih =>
  intro a
  rw [List.foldl_cons, ih]
  unfold a0m
  rw [List.foldl_cons, ih (10 * 0 + (x - 48)), List.length_cons, Nat.pow_succ]
  grind
theorem l0i (l m : List Nat) : a0m (l ++ m) = a0m l * 10 ^ m.length + a0m m := by
 unfold a0m
 rw [List.foldl_append, b1e]
 rfl
theorem m0r (l : List Nat) (k n : Nat) (h : k + n ≤ l.length) : a0m (l.take (k + n)) = a0m (l.take k) * 10 ^ n + a0m ((l.drop k).take n) := by
 have e : l.take (k + n) = l.take k ++ (l.drop k).take n := by rw [List.take_add]
 rw [e, l0i]
 congr 3
 simp; omega
theorem b0d {xs : List Nat} (h : ∀ x ∈ xs, x < 256) : a0b (a0e xs) = xs := by
 unfold a0b a0e
 simp only [List.map_map]
 rw [show (xs.map (UInt8.toNat ∘ UInt8.ofNat)) = xs.map id from List.map_congr_left fun x hx => by
  have := h x hx
  simp only [Function.comp, id]
  rw [UInt8.toNat_ofNat']
  omega]
 simp
theorem b1f (D : List Nat) : a0m (D.reverse.map (· + 48)) = val 10 D := by
 induction D with
 | nil => rfl
 | cons x D ih =>
  rw [List.reverse_cons, List.map_append, List.map_cons, List.map_nil, o0o, ih, val_cons]
  omega
theorem b1g (a : Nat) : a0m (a0y a) = a := by
 unfold a0y
 split
 · rename_i h; subst h; rfl
 · rw [b1f, b0l (by omega)]
theorem j0q (a : Nat) : ∀ x ∈ a0y a, 48 ≤ x ∧ x ≤ 57 := by
 unfold a0y
 split
 · simp
 · intro x hx
   obtain ⟨y, hy, rfl⟩ := List.mem_map.1 hx
   have := b0w (B := 10) (by omega) a y (List.mem_reverse.1 hy)
   omega
theorem u0q (a : Nat) : (a0y a).length ≠ 0 ∧ ¬ (dg (a0y a) 0 = 48 ∧ 1 < (a0y a).length) := by
 unfold a0y
 split
 · simp
 · rename_i h0
   have hp : 0 < a := by omega
   have hl : 0 < (dig 10 a).length := List.length_pos_iff.2 ((e0c (by omega) a).2.2.2 hp)
   refine ⟨by rw [List.length_map, List.length_reverse]; omega, fun h => ?_⟩
   have h1 := h.1
   rw [a0t (by simpa using hl)] at h1
   simp at h1
   have h2 := r0p (B := 10) (by omega) a
   unfold e0h at h2
   rw [List.getLast?_eq_getElem?, List.getElem?_eq_getElem (by omega)] at h2
   exact h2 (by rw [h1])
def c0z : Nat → Nat → Nat × Nat
 | n, 0 => (n, 0)
 | n, p + 1 => if n % 5 = 0 then c0z (n / 5) p else (n, p + 1)
theorem o0p : ∀ (p n : Nat), (c0z n p).1 ≤ n ∧ (c0z n p).2 ≤ p
 | 0, n => ⟨Nat.le_refl _, Nat.le_refl _⟩
 | p + 1, n => by
  rw [c0z]
  split
  · have := o0p p (n / 5)
    exact ⟨Nat.le_trans this.1 (Nat.div_le_self _ _), by omega⟩
  · exact ⟨Nat.le_refl _, Nat.le_refl _⟩
def isDg (b : Nat) : Bool := decide (48 ≤ b) && decide (b ≤ 57)
def n0v : List Nat → Bool × List Nat
 | 45 :: r => (true, r)
 | l => (false, l)
def u0r : List Nat → Option (List Nat × List Nat)
 | 46 :: r => if r.takeWhile isDg = [] then none else some (r.takeWhile isDg, r.dropWhile isDg)
 | l => some ([], l)
def powT : List Nat → Option (Int × List Nat)
 | 101 :: r =>
  let x := (n0v r).2.takeWhile isDg
  if x = [] ∨ 5 < x.length then none else some (if (n0v r).1 then -(a0m x : Int) else a0m x, (n0v r).2.dropWhile isDg)
 | l => some (0, l)
structure Numl where
 neg : Bool
 ds : List Nat
 pow : Int
def numl (l : List Nat) : Option Numl :=
 match u0r ((n0v l).2.dropWhile isDg) with
 | none => none
 | some (f, r) =>
  if (n0v l).2.takeWhile isDg ++ f = [] then none else
  match powT r with
  | none => none
  | some (e, r) => if r = [] then some ⟨(n0v l).1, (n0v l).2.takeWhile isDg ++ f, e - f.length⟩ else none
def errT (len : Nat) (q : Option Numl) : Int :=
 if 400 < len then 2 else match q with | none => 1 | some q => if q.pow < -6000 ∨ 6000 < q.pow then 3 else 0
def i0k (q : Numl) : Bool × Nat × Nat × Int :=
 if a0m q.ds = 0 then (false, 0, 1, 0)
 else if 0 ≤ q.pow then (q.neg, a0m q.ds / 2 ^ tz (a0m q.ds) * 5 ^ q.pow.toNat, 1, tz (a0m q.ds) + q.pow)
 else (q.neg, (c0z (a0m q.ds / 2 ^ tz (a0m q.ds)) (-q.pow).toNat).1, 5 ^ (c0z (a0m q.ds / 2 ^ tz (a0m q.ds)) (-q.pow).toNat).2, tz (a0m q.ds) + q.pow)
theorem b1h (d : Dv) : (bare d).m ≤ d.m := by
 unfold bare
 by_cases h : d.m = 0
 · rw [if_pos h]; exact Nat.zero_le _
 · rw [if_neg h]; exact Nat.div_le_self _ _
theorem l0u {B : Nat} (hB : 2 ≤ B) (d : Dv) : (dig B (bare d).m).length ≤ (dig B d.m).length := a0k hB (b1h d)
theorem w0g (d : Dv) {n : Nat} (hl : (dig B32 d.m).length ≤ n) {lo hi : Int} (h1 : lo ≤ d.e) (h2 : d.e ≤ hi) (h3 : lo ≤ 0) (h4 : 0 ≤ hi) : lo ≤ (bare d).e ∧ (bare d).e ≤ hi + 32 * n := by
 unfold bare
 by_cases h : d.m = 0
 · rw [if_pos h]; simp only; omega
 · rw [if_neg h]
   have h5 := f0y (m := d.m) (by omega)
   have h6 := d0e d.m
   simp only
   omega
theorem y0c (g h : Bool) (x y : Nat) (e : Int) : (i0c g h x y e).m ≤ x + y ∧ (i0c g h x y e).e = e := by
 unfold i0c
 split
 · simp
 · split
   · simp; omega
   · simp; omega
theorem m0s (a N : Nat) : (dig B32 (a * 2 ^ N)).length ≤ (dig B32 a).length + (N / 32 + 1) := by
 refine Nat.le_trans (b0h a0a _ _) ?_
 have : (dig B32 (2 ^ N)).length = N / 32 + 1 := by rw [← v0x (B := B32) (w := 32) (by decide) (by omega) N]; simp
 omega
theorem y0d (a b : Dv) : (dig B32 (i0h a b).m).length ≤ (dig B32 a.m).length + (dig B32 b.m).length :=
 Nat.le_trans (l0u a0a _) (b0h a0a _ _)
structure Gd where
 rad : Int
 digs : Int
 lo : Int
 hi : Int
 grad : Bool
def wid (g : Gd) : Nat := if g.rad = 16 then 4 else 1
def most (g : Gd) : Int := if g.rad = 16 then 4000 else 17000
def farG (g : Gd) (n : Int) : Prop := n < -most g ∨ most g < n
instance (g : Gd) (n : Int) : Decidable (farG g n) := by unfold farG; exact inferInstance
def errG (g : Gd) : Int :=
 if g.rad ≠ 2 ∧ g.rad ≠ 16 then 6 else if g.digs < 1 ∨ 120 < g.digs ∨ farG g g.lo ∨ farG g g.hi ∨ g.hi < g.lo then 3 else 0
structure k0u (g : Gd) : Prop where
 rad : g.rad = 2 ∨ g.rad = 16
 d1 : 1 ≤ g.digs
 d2 : g.digs ≤ 120
 l1 : -17000 ≤ g.lo
 l2 : g.lo ≤ 17000
 h1 : -17000 ≤ g.hi
 h2 : g.hi ≤ 17000
 le : g.lo ≤ g.hi
theorem c0m {g : Gd} (h : errG g = 0) : k0u g := by
 unfold errG at h
 by_cases h1 : g.rad ≠ 2 ∧ g.rad ≠ 16
 · rw [if_pos h1] at h; simp at h
 · rw [if_neg h1] at h
   by_cases h2 : g.digs < 1 ∨ 120 < g.digs ∨ farG g g.lo ∨ farG g g.hi ∨ g.hi < g.lo
   · rw [if_pos h2] at h; simp at h
   · unfold farG most at h2
     split at h2 <;> constructor <;> omega
theorem b0m (g : Gd) : 1 ≤ wid g ∧ wid g ≤ 4 := by unfold wid; split <;> omega
def numP (num : Nat) (n : Int) : Nat := num * 2 ^ n.toNat
def denP (den : Nat) (n : Int) : Nat := den * 2 ^ (-n).toNat
def qP (num den : Nat) (n : Int) : Nat := numP num n / denP den n
def rP (num den : Nat) (n : Int) : Nat := numP num n % denP den n
theorem e0t {den : Nat} (h : 0 < den) (n : Int) : 0 < denP den n := Nat.mul_pos h (Nat.pow_pos (by omega))
def f0m (num den : Nat) (e : Int) (w D : Nat) (k : Int) : Prop := 2 ^ (w * (D - 1)) ≤ qP num den (e - w * k)
instance (num den : Nat) (e : Int) (w D : Nat) (k : Int) : Decidable (f0m num den e w D k) := by unfold f0m; exact inferInstance
theorem h0e {num den : Nat} (hd : 0 < den) (e : Int) (w D : Nat) (k : Int) (u v : Nat) (huv : (u : Int) - v = w * k + (w * (D - 1) : Nat) - e) :
 f0m num den e w D k ↔ den * 2 ^ u ≤ num * 2 ^ v := by
 unfold f0m qP
 rw [Nat.le_div_iff_mul_le (e0t hd _)]
 unfold numP denP
 have h2 : ∀ n : Nat, 0 < 2 ^ n := fun n => Nat.pow_pos (by omega)
 generalize hj : w * (D - 1) = j at *
 have e1 : ∃ c : Nat, (2 : Nat) ^ j * 2 ^ (-(e - w * k)).toNat * 2 ^ c = 2 ^ u * 2 ^ (c - 0) * 1 ∨ True := ⟨0, .inr trivial⟩
 clear e1
 by_cases hn : 0 ≤ e - w * k
 · obtain ⟨a, ha⟩ : ∃ a : Nat, e - w * k = a := ⟨(e - w * k).toNat, by omega⟩
   rw [ha]
   have t1 : (-(a : Int)).toNat = 0 := by omega
   have t2 : ((a : Int)).toNat = a := by omega
   rw [t1, t2]
   have t3 : u + a = v + j := by omega
   constructor
   · intro h
     have := Nat.mul_le_mul_right (2 ^ v) h
     have e2 : (2 ^ j * (den * 2 ^ 0)) * 2 ^ v = den * 2 ^ u * 2 ^ a := by
      have : 2 ^ j * 2 ^ v = 2 ^ u * 2 ^ a := by rw [← Nat.pow_add, ← Nat.pow_add]; congr 1; omega
      simp only [Nat.pow_zero, Nat.mul_one]
      grind
     rw [e2] at this
     have e3 : num * 2 ^ a * 2 ^ v = num * 2 ^ v * 2 ^ a := by grind
     rw [e3] at this
     exact Nat.le_of_mul_le_mul_right this (h2 a)
   · intro h
     have := Nat.mul_le_mul_right (2 ^ a) h
     have e2 : den * 2 ^ u * 2 ^ a = (2 ^ j * (den * 2 ^ 0)) * 2 ^ v := by
      have : 2 ^ j * 2 ^ v = 2 ^ u * 2 ^ a := by rw [← Nat.pow_add, ← Nat.pow_add]; congr 1; omega
      simp only [Nat.pow_zero, Nat.mul_one]
      grind
     rw [e2] at this
     have e3 : num * 2 ^ v * 2 ^ a = num * 2 ^ a * 2 ^ v := by grind
     rw [e3] at this
     exact Nat.le_of_mul_le_mul_right this (h2 v)
 · obtain ⟨a, ha⟩ : ∃ a : Nat, e - w * k = -(a : Int) := ⟨(-(e - w * k)).toNat, by omega⟩
   rw [ha]
   have t1 : (-(-(a : Int))).toNat = a := by omega
   have t2 : (-(a : Int)).toNat = 0 := by omega
   rw [t1, t2]
   have t3 : u = v + j + a := by omega
   subst t3
   have e2 : den * 2 ^ (v + j + a) = (2 ^ j * (den * 2 ^ a)) * 2 ^ v := by rw [Nat.pow_add, Nat.pow_add]; grind
   rw [e2, Nat.pow_zero, Nat.mul_one]
   constructor
   · intro h; exact Nat.mul_le_mul_right _ h
   · intro h; exact Nat.le_of_mul_le_mul_right h (h2 v)
theorem k0v {num den : Nat} (hd : 0 < den) {e : Int} {w D : Nat} {k k' : Int} (h : f0m num den e w D k) (hk : k' ≤ k) : f0m num den e w D k' := by
 have hw : (w : Int) * k' ≤ w * k := Int.mul_le_mul_of_nonneg_left hk (by omega)
 obtain ⟨v, hv⟩ : ∃ v : Nat, 0 ≤ (w : Int) * k' + (w * (D - 1) : Nat) - e + v := ⟨(-((w : Int) * k' + (w * (D - 1) : Nat) - e)).toNat, by omega⟩
 have h1 := (h0e hd e w D k ((w : Int) * k + (w * (D - 1) : Nat) - e + v).toNat v (by omega)).1 h
 refine (h0e hd e w D k' ((w : Int) * k' + (w * (D - 1) : Nat) - e + v).toNat v (by omega)).2 (Nat.le_trans ?_ h1)
 exact Nat.mul_le_mul_left _ (Nat.pow_le_pow_right (by omega) (by omega))
structure IsK (num den : Nat) (e : Int) (w D : Nat) (K : Int) : Prop where
 yes : f0m num den e w D K
 no : ¬ f0m num den e w D (K + 1)
theorem IsK.le {num den : Nat} (hd : 0 < den) {e : Int} {w D : Nat} {K k : Int} (h : IsK num den e w D K) (hk : f0m num den e w D k) : k ≤ K := by
 rcases Int.lt_or_le K k with h1 | h1
 · exact absurd (k0v hd hk (by omega)) h.no
 · exact h1
theorem IsK.iff {num den : Nat} (hd : 0 < den) {e : Int} {w D : Nat} {K k : Int} (h : IsK num den e w D K) : f0m num den e w D k ↔ k ≤ K :=
 ⟨h.le hd, fun hk => k0v hd h.yes hk⟩
theorem IsK.unique {num den : Nat} (hd : 0 < den) {e : Int} {w D : Nat} {K K' : Int} (h : IsK num den e w D K) (h' : IsK num den e w D K') : K = K' := by
 have h1 := h.le hd h'.yes
 have h2 := h'.le hd h.yes
 omega
theorem f0r (n : Int) (w : Nat) (hw : 0 < w) : (w : Int) * (n / w) ≤ n ∧ n < w * (n / w) + w := by
 have h1 := Int.emod_nonneg n (show (w : Int) ≠ 0 by omega)
 have h2 := Int.emod_lt_of_pos n (show (0 : Int) < w by omega)
 have h3 := Int.mul_ediv_add_emod n w
 omega
theorem w0h {num den : Nat} (hn : 0 < num) (hd : 0 < den) (e : Int) {w D : Nat} (hw : 0 < w) (hD : 1 ≤ D) (x : Int) (hx : x = (blen num : Int) - blen den + e) :
 f0m num den e w D (x / w - D) ∧ ¬ f0m num den e w D (x / w - D + 2) := by
 obtain ⟨b1, b2⟩ := f0r x w hw
 generalize x / (w : Int) = f at *
 have hn1 := g0h num hn
 have hn2 : num < 2 ^ blen num := (a0z num _).1 (Nat.le_refl _)
 have hd1 := g0h den hd
 have hd2 : den < 2 ^ blen den := (a0z den _).1 (Nat.le_refl _)
 have hbn := (e0d num).2 hn
 have hbd := (e0d den).2 hd
 have eD : (w : Int) * (f - D) + (w * (D - 1) : Nat) = w * f - w := by
  obtain ⟨d, rfl⟩ : ∃ d, D = d + 1 := ⟨D - 1, by omega⟩
  simp only [Nat.add_sub_cancel, Int.natCast_mul, Int.natCast_add]
  grind
 have eD2 : (w : Int) * (f - D + 2) + (w * (D - 1) : Nat) = w * f + w := by
  have : (w : Int) * (f - D + 2) = w * (f - D) + w * 2 := by grind
  omega
 constructor
 · obtain ⟨v, hv⟩ : ∃ v : Nat, 0 ≤ (w : Int) * f - w - e + v := ⟨(-((w : Int) * f - w - e)).toNat, by omega⟩
   refine (h0e hd e w D (f - D) ((w : Int) * f - w - e + v).toNat v (by omega)).2 ?_
   refine Nat.le_trans (Nat.mul_le_mul_right _ (Nat.le_of_lt hd2)) (Nat.le_trans ?_ (Nat.mul_le_mul_right _ hn1))
   rw [← Nat.pow_add, ← Nat.pow_add]
   exact Nat.pow_le_pow_right (by omega) (by omega)
 · obtain ⟨v, hv⟩ : ∃ v : Nat, 0 ≤ (w : Int) * f + w - e + v := ⟨(-((w : Int) * f + w - e)).toNat, by omega⟩
   intro h
   have h1 := (h0e hd e w D (f - D + 2) ((w : Int) * f + w - e + v).toNat v (by omega)).1 h
   have h2 : num * 2 ^ v < 2 ^ blen num * 2 ^ v := Nat.mul_lt_mul_of_pos_right hn2 (Nat.pow_pos (by omega))
   have h3 := Nat.mul_le_mul_right (2 ^ ((w : Int) * f + w - e + v).toNat) hd1
   rw [← Nat.pow_add] at h2 h3
   have h4 : 2 ^ (blen num + v) ≤ 2 ^ (blen den - 1 + ((w : Int) * f + w - e + v).toNat) := Nat.pow_le_pow_right (by omega) (by omega)
   omega
structure Pl where
 neg : Bool
 d : Nat
 pow : Int
 exact : Bool
 over : Bool
 under : Bool
def i0t (way : Int) (neg odd : Bool) (half : Int) : Bool :=
 if way = 1 then decide (0 < half) || (decide (half = 0) && odd) else if way = 2 then decide (0 ≤ half) else if way = 4 then !neg else if way = 5 then neg else false
def powK (g : Gd) (K : Int) : Int := if K < g.lo ∧ g.grad = true then g.lo else K
def upP (neg : Bool) (num den : Nat) (e : Int) (w : Nat) (way k : Int) : Bool :=
 decide (rP num den (e - w * k) ≠ 0) && i0t way neg (decide (qP num den (e - w * k) % 2 = 1)) (cmpN (rP num den (e - w * k) * 2) (denP den (e - w * k)))
def dUp (neg : Bool) (num den : Nat) (e : Int) (w : Nat) (way k : Int) : Nat := qP num den (e - w * k) + if upP neg num den e w way k then 1 else 0
def j0r (neg : Bool) (num den : Nat) (e : Int) (w D : Nat) (way k : Int) : Prop := upP neg num den e w way k = true ∧ w * D < blen (dUp neg num den e w way k)
instance (neg : Bool) (num den : Nat) (e : Int) (w D : Nat) (way k : Int) : Decidable (j0r neg num den e w D way k) := by unfold j0r; exact inferInstance
def digP (neg : Bool) (num den : Nat) (e : Int) (w D : Nat) (way k : Int) : Nat := if j0r neg num den e w D way k then 2 ^ (w * (D - 1)) else dUp neg num den e w way k
def powP (neg : Bool) (num den : Nat) (e : Int) (w D : Nat) (way k : Int) : Int := if j0r neg num den e w D way k then k + 1 else k
def fitK (neg : Bool) (num den : Nat) (e : Int) (g : Gd) (way K : Int) : Pl :=
 ⟨neg, digP neg num den e (wid g) g.digs.toNat way (powK g K),
  if digP neg num den e (wid g) g.digs.toNat way (powK g K) = 0 then 0 else powP neg num den e (wid g) g.digs.toNat way (powK g K),
  decide (rP num den (e - wid g * powK g K) = 0), decide (g.hi < powP neg num den e (wid g) g.digs.toNat way (powK g K)), decide (K < g.lo)⟩
theorem k0w {neg : Bool} {num den : Nat} {e : Int} {w D : Nat} {way k : Int} {X N : Nat} {ub : Bool} (h1 : upP neg num den e w way k = ub) (h2 : qP num den (e - w * k) = X) (h3 : N = w * (D - 1)) :
 digP neg num den e w D way k = (if ub = true ∧ w * D < blen (X + if ub then 1 else 0) then 2 ^ N else X + if ub then 1 else 0) ∧ powP neg num den e w D way k = if ub = true ∧ w * D < blen (X + if ub then 1 else 0) then k + 1 else k := by
 subst h1 h2 h3
 unfold digP powP
 by_cases h : j0r neg num den e w D way k
 · have h' : upP neg num den e w way k = true ∧ w * D < blen (qP num den (e - w * k) + if upP neg num den e w way k then 1 else 0) := h
   rw [if_pos h, if_pos h, if_pos h', if_pos h']; exact ⟨rfl, rfl⟩
 · have h' : ¬ (upP neg num den e w way k = true ∧ w * D < blen (qP num den (e - w * k) + if upP neg num den e w way k then 1 else 0)) := h
   rw [if_neg h, if_neg h, if_neg h', if_neg h']; exact ⟨rfl, rfl⟩
theorem l1l {neg : Bool} {num den : Nat} {e : Int} {g : Gd} {way K : Int} {wd D : Nat} {k1 : Int} {dd Y : Nat} {k2 : Int} (h5 : wid g = wd) (hD : g.digs.toNat = D) (h4 : powK g K = k1)
 (h2 : digP neg num den e wd D way k1 = dd) (h3 : powP neg num den e wd D way k1 = k2) (h8 : rP num den (e - wd * k1) = Y) :
 fitK neg num den e g way K = ⟨neg, dd, if dd = 0 then 0 else k2, decide (Y = 0), decide (g.hi < k2), decide (K < g.lo)⟩ := by
 subst h5 hD h4 h2 h3 h8
 rfl
def theK (num den : Nat) (e : Int) (w D : Nat) : Int :=
 if f0m num den e w D (((blen num : Int) - blen den + e) / w - D + 1) then ((blen num : Int) - blen den + e) / w - D + 1 else ((blen num : Int) - blen den + e) / w - D
theorem q0d {num den : Nat} (hn : 0 < num) (hd : 0 < den) (e : Int) {w D : Nat} (hw : 0 < w) (hD : 1 ≤ D) : IsK num den e w D (theK num den e w D) := by
 obtain ⟨h1, h2⟩ := w0h hn hd e hw hD _ rfl
 unfold theK
 by_cases h3 : f0m num den e w D (((blen num : Int) - blen den + e) / w - D + 1)
 · rw [if_pos h3]
   exact ⟨h3, by rw [show ∀ z : Int, z + 1 + 1 = z + 2 by omega]; exact h2⟩
 · rw [if_neg h3]
   exact ⟨h1, h3⟩
def a0u (neg : Bool) (num den : Nat) (e : Int) (g : Gd) (way : Int) : Pl :=
 if num = 0 then ⟨false, 0, 0, true, false, false⟩ else fitK neg num den e g way (theK num den e (wid g) g.digs.toNat)
theorem g0k {n : Nat} (h : n ≤ 480) : (dig B32 (2 ^ n)).length ≤ 16 := by
 have h1 := congrArg List.length (v0x (B := B32) (w := 32) (by decide) (by omega) n)
 rw [List.length_set, List.length_replicate] at h1
 omega
def norm (z e : Int) : Dv := bare (ofZ z e)
theorem u0s (g : Bool) (m : Nat) (e : Int) : norm (sg g m) e = bare ⟨g, m, e⟩ := by
 unfold norm ofZ
 by_cases h : m = 0
 · subst h
   have : sg g 0 = 0 := by unfold sg; cases g <;> rfl
   rw [this]; rfl
 · have h1 : (sg g m).natAbs = m := by unfold sg; cases g <;> simp
   have h2 : decide (sg g m < 0) = g := by unfold sg; cases g <;> simp <;> omega
   rw [h1, h2]
theorem l1m (z : Int) {e : Int} (hz : z ≠ 0) : e ≤ (norm z e).e := by
 unfold norm bare ofZ
 simp only
 rw [if_neg (by omega)]
 simp only
 omega
def upK (a : Dv) (w D : Nat) : Int := (topD a - 1) / w - D + 1
theorem b1i {m : Nat} (hm : 0 < m) (e : Int) {w D : Nat} (hw : 1 ≤ w) (hD : 1 ≤ D) : IsK m 1 e w D ((e + blen m - 1) / w - D + 1) := by
 have key : ∀ k : Int, f0m m 1 e w D k ↔ k ≤ (e + blen m - 1) / w - D + 1 := by
  intro k
  have hb := f0r (e + blen m - 1) w hw
  have hbm := (e0d m).2 hm
  obtain ⟨v, hv⟩ : ∃ v : Nat, 0 ≤ (w : Int) * k + (w * (D - 1) : Nat) - e + v := ⟨(-((w : Int) * k + (w * (D - 1) : Nat) - e)).toNat, by omega⟩
  rw [h0e (by omega) e w D k ((w : Int) * k + (w * (D - 1) : Nat) - e + v).toNat v (by omega), Nat.one_mul]
  have h1 : 2 ^ ((w : Int) * k + (w * (D - 1) : Nat) - e + v).toNat ≤ m * 2 ^ v ↔ ((w : Int) * k + (w * (D - 1) : Nat) - e + v).toNat < blen m + v := by
   have h2 := h0q hm v
   have h3 := a0z (m * 2 ^ v) ((w : Int) * k + (w * (D - 1) : Nat) - e + v).toNat
   omega
  rw [h1]
  have e1 : ((w * (D - 1) : Nat) : Int) = w * D - w := by
   obtain ⟨d, rfl⟩ : ∃ d, D = d + 1 := ⟨D - 1, by omega⟩
   simp only [Nat.add_sub_cancel, Int.natCast_mul, Int.natCast_add]; grind
  generalize (e + blen m - 1) / (w : Int) = f at *
  have e2 : (w : Int) * (f - D + 1) = w * f - w * D + w := by grind
  have e3 : (w : Int) * (k - 1) = w * k - w := by grind
  constructor
  · intro h
    rcases Int.lt_or_le (f - D + 1) k with h4 | h4
    · have h5 : (w : Int) * (f - D + 1 + 1) ≤ w * k := Int.mul_le_mul_of_nonneg_left (by omega) (by omega)
      have e4 : (w : Int) * (f - D + 1 + 1) = w * f - w * D + w + w := by grind
      omega
    · exact h4
  · intro h
    have h5 : (w : Int) * k ≤ w * (f - D + 1) := Int.mul_le_mul_of_nonneg_left h (by omega)
    omega
 exact ⟨(key _).2 (Int.le_refl _), fun h => by have := (key _).1 h; omega⟩
def b0u (a : Dv) (g : Gd) : Bool :=
 if a.m = 0 then true else
 if a.e < wid g * g.lo ∨ wid g * (g.hi + g.digs) < topD a then false else
 if upK a (wid g) g.digs.toNat < g.lo then (if g.grad then decide (wid g * g.lo ≤ a.e) else false) else decide (wid g * upK a (wid g) g.digs.toNat ≤ a.e)
def j0s (a : Dv) (g : Gd) : Bool :=
 if a.m = 0 then true else
 (fitK a.neg a.m 1 a.e g 3 (upK a (wid g) g.digs.toNat)).exact && !(fitK a.neg a.m 1 a.e g 3 (upK a (wid g) g.digs.toNat)).over && (!(fitK a.neg a.m 1 a.e g 3 (upK a (wid g) g.digs.toNat)).under || g.grad)
theorem q0e (neg : Bool) (num den : Nat) (e : Int) (w : Nat) (k : Int) : upP neg num den e w 3 k = false := by
 unfold upP i0t
 simp
theorem s0d (neg : Bool) (num den : Nat) (e : Int) (w D : Nat) (k : Int) : powP neg num den e w D 3 k = k := by
 unfold powP
 rw [if_neg]
 unfold j0r
 rw [q0e]
 simp
theorem b1j (neg : Bool) (num den : Nat) (e : Int) (w D : Nat) (k : Int) : digP neg num den e w D 3 k = qP num den (e - w * k) := by
 unfold digP
 rw [if_neg]
 · unfold dUp; rw [q0e]; simp
 · unfold j0r; rw [q0e]; simp
theorem b1k {m : Nat} (hm : m % 2 = 1) (n : Int) : rP m 1 n = 0 ↔ 0 ≤ n := by
 unfold rP numP denP
 by_cases h : 0 ≤ n
 · have e1 : (-n).toNat = 0 := by omega
   rw [e1]
   simp [h, Nat.mod_one]
 · have e1 : n.toNat = 0 := by omega
   rw [e1, Nat.pow_zero, Nat.mul_one, Nat.one_mul]
   have := k1u (n := (-n).toNat) hm (by omega)
   constructor
   · intro h2; exact absurd h2 this
   · intro h2; exact absurd h2 h
theorem f1w {a : Dv} (ha : Bare a) {g : Gd} (G : k0u g) : j0s a g = b0u a g := by
 unfold j0s b0u
 by_cases h0 : a.m = 0
 · rw [if_pos h0, if_pos h0]
 · rw [if_neg h0, if_neg h0]
   have hodd : a.m % 2 = 1 := by
    rcases ha with h | h
    · exact h
    · rw [h] at h0; simp at h0
   have wp := b0m g
   have hd := G.d1
   have hle := G.le
   have hb := f0r (topD a - 1) (wid g) (by omega)
   obtain ⟨D, hD⟩ : ∃ D : Nat, g.digs = D := ⟨g.digs.toNat, by omega⟩
   have hDt : g.digs.toNat = D := by omega
   rw [hDt, hD]
   have eU : upK a (wid g) D = (topD a - 1) / (wid g : Int) - D + 1 := rfl
   obtain ⟨K, hK⟩ : ∃ K, upK a (wid g) D = K := ⟨_, rfl⟩
   rw [hK] at eU ⊢
   generalize (topD a - 1) / (wid g : Int) = f at *
   show (decide (rP a.m 1 (a.e - wid g * powK g K) = 0) && !decide (g.hi < powP a.neg a.m 1 a.e (wid g) g.digs.toNat 3 (powK g K)) && (!decide (K < g.lo) || g.grad)) = _
   rw [s0d]
   have hx : decide (rP a.m 1 (a.e - wid g * powK g K) = 0) = decide (wid g * powK g K ≤ a.e) := by
    have := b1k hodd (a.e - wid g * powK g K)
    by_cases h : (wid g : Int) * powK g K ≤ a.e
    · rw [decide_eq_true h, decide_eq_true (this.2 (by omega))]
    · rw [decide_eq_false h, decide_eq_false (fun h2 => h (by have := this.1 h2; omega))]
   rw [hx]
   have w0 : 0 ≤ (wid g : Int) := by omega
   have eh : (wid g : Int) * (g.hi + D) = wid g * g.hi + wid g * D := Int.mul_add _ _ _
   have eK : (wid g : Int) * K = wid g * f - wid g * D + wid g := by rw [eU]; grind
   have hll : (wid g : Int) * g.lo ≤ wid g * g.hi := Int.mul_le_mul_of_nonneg_left hle w0
   rw [eh]
   have hKh : K ≤ g.hi ↔ topD a ≤ wid g * g.hi + wid g * D := by
    constructor
    · intro h
      have := Int.mul_le_mul_of_nonneg_left h w0
      omega
    · intro h
      rcases Int.lt_or_le g.hi K with h1 | h1
      · have h2 : (wid g : Int) * (g.hi + 1) ≤ wid g * K := Int.mul_le_mul_of_nonneg_left (by omega) w0
        rw [Int.mul_add] at h2
        omega
      · exact h1
   unfold powK
   by_cases hu : K < g.lo
   · have hh := hKh.1 (by omega)
     cases hg : g.grad
     · simp [hu]
     · simp only [hu, true_and, if_true, decide_true, Bool.not_true, Bool.false_or, Bool.and_true]
       rw [decide_eq_false (by omega : ¬ g.hi < g.lo)]
       by_cases h1 : (wid g : Int) * g.lo ≤ a.e
       · rw [if_neg (by omega)]; simp [h1]
       · rw [if_pos (by omega)]; simp [h1]
   · rw [if_neg (by omega), if_neg hu, decide_eq_false hu]
     simp only [Bool.not_false, Bool.true_or, Bool.and_true]
     have h3 : (wid g : Int) * g.lo ≤ wid g * K := Int.mul_le_mul_of_nonneg_left (by omega) w0
     by_cases h1 : (wid g : Int) * K ≤ a.e
     · by_cases h2 : g.hi < K
       · rw [if_pos (.inr (by have := hKh.2; omega)), decide_eq_true h2]; simp
       · rw [if_neg (by have := hKh.1 (by omega); omega), decide_eq_false h2]; simp
     · rw [decide_eq_false h1]
       split <;> simp
theorem y0e {z : Int} (hz : z ≠ 0) (e : Int) : (norm z e).m ≠ 0 := by
 unfold norm ofZ bare
 simp only
 rw [if_neg (by omega)]
 have := (c0t z.natAbs (by omega)).2
 simp only
 omega
theorem f1x {z : Int} (hz : z ≠ 0) (e : Int) : topD (norm z e) = e + blen z.natAbs := by
 unfold norm ofZ bare topD
 simp only
 rw [if_neg (by omega)]
 have h := (c0t z.natAbs (by omega)).1
 have h2 := (c0t z.natAbs (by omega)).2
 have h4 : 0 < z.natAbs / 2 ^ tz z.natAbs := by
  generalize z.natAbs / 2 ^ tz z.natAbs = q at *
  omega
 have h3 := h0q h4 (tz z.natAbs)
 rw [Nat.mul_comm, h] at h3
 simp only
 omega
def c0c (a : Dv) (g : Gd) : Int := max g.lo (upK a (wid g) g.digs.toNat)
theorem i0u {g : Gd} (G : k0u g) {D : Nat} (hD : g.digs = D) {z : Int} {k : Int} (h1 : z.natAbs < 2 ^ (wid g * D)) (h2 : z = 0 ∨ 2 ^ (wid g * (D - 1)) ≤ z.natAbs ∨ (g.grad = true ∧ k = g.lo)) (hk : g.lo ≤ k) (hk2 : k ≤ g.hi) : b0u (norm z (wid g * k)) g = true := by
 by_cases hz : z = 0
 · subst hz; rfl
 · have wp := b0m g
   have hd := G.d1
   have w0 : 0 ≤ (wid g : Int) := by omega
   have ht := f1x hz (wid g * k)
   have he := l1m z (e := wid g * k) hz
   have hm := y0e hz (wid g * k)
   generalize norm z (wid g * k) = a at *
   have hDt : g.digs.toNat = D := by omega
   have hb1 : blen z.natAbs ≤ wid g * D := (a0z _ _).2 h1
   have hb0 := (e0d z.natAbs).2 (by omega)
   unfold b0u
   rw [if_neg hm, hDt, hD]
   have e1 : ((wid g * D : Nat) : Int) = wid g * D := Int.natCast_mul _ _
   have a1 : (wid g : Int) * g.lo ≤ wid g * k := Int.mul_le_mul_of_nonneg_left hk w0
   have a2 : (wid g : Int) * k ≤ wid g * g.hi := Int.mul_le_mul_of_nonneg_left hk2 w0
   have e2 : (wid g : Int) * (g.hi + D) = wid g * g.hi + wid g * D := Int.mul_add _ _ _
   rw [if_neg (by omega)]
   have hb := f0r (topD a - 1) (wid g) (by omega)
   have eU : upK a (wid g) D = (topD a - 1) / (wid g : Int) - D + 1 := rfl
   generalize upK a (wid g) D = K at *
   generalize (topD a - 1) / (wid g : Int) = f at *
   have eK : (wid g : Int) * K = wid g * f - wid g * D + wid g := by rw [eU]; grind
   have hKk : K ≤ k := by
    rcases Int.lt_or_le k K with h | h
    · have h3 : (wid g : Int) * (k + 1) ≤ wid g * K := Int.mul_le_mul_of_nonneg_left (by omega) w0
      rw [Int.mul_add] at h3
      omega
    · exact h
   have a3 : (wid g : Int) * K ≤ wid g * k := Int.mul_le_mul_of_nonneg_left hKk w0
   by_cases hu : K < g.lo
   · rw [if_pos hu]
     rcases h2 with h2 | h2 | ⟨h2, _⟩
     · exact absurd h2 hz
     · exfalso
       have h3 : wid g * (D - 1) < blen z.natAbs := by
        rcases Nat.lt_or_ge (wid g * (D - 1)) (blen z.natAbs) with h | h
        · exact h
        · have := (a0z _ _).1 h; omega
       have e3 : ((wid g * (D - 1) : Nat) : Int) = wid g * D - wid g := by
        obtain ⟨d, rfl⟩ : ∃ d, D = d + 1 := ⟨D - 1, by omega⟩
        simp only [Nat.add_sub_cancel, Int.natCast_mul, Int.natCast_add]; grind
       have h4 : (wid g : Int) * (K + 1) ≤ wid g * k := Int.mul_le_mul_of_nonneg_left (by omega) w0
       rw [Int.mul_add] at h4
       omega
     · rw [if_pos h2]; exact dTr (by omega)
   · rw [if_neg hu]; exact dTr (by omega)
def le2 (a : Nat) (x : Int) (b : Nat) (y : Int) : Prop := a * 2 ^ (x - min x y).toNat ≤ b * 2 ^ (y - min x y).toNat
theorem m0t {a b : Nat} {x y : Int} (s : Int) (h1 : s ≤ x) (h2 : s ≤ y) : le2 a x b y ↔ a * 2 ^ (x - s).toNat ≤ b * 2 ^ (y - s).toNat := by
 unfold le2
 rw [show (x - s).toNat = (x - min x y).toNat + (min x y - s).toNat by omega, show (y - s).toNat = (y - min x y).toNat + (min x y - s).toNat by omega, Nat.pow_add, Nat.pow_add, ← Nat.mul_assoc, ← Nat.mul_assoc]
 have hp : 0 < 2 ^ (min x y - s).toNat := Nat.pow_pos (by omega)
 exact ⟨fun h => Nat.mul_le_mul_right _ h, fun h => Nat.le_of_mul_le_mul_right h hp⟩
theorem b1l {a b c : Nat} {x y z : Int} (h : le2 a x b y) (k : le2 b y c z) : le2 a x c z := by
 obtain ⟨s, h1, h2, h3⟩ : ∃ s : Int, s ≤ x ∧ s ≤ y ∧ s ≤ z := ⟨min x (min y z), by omega, by omega, by omega⟩
 rw [m0t s h1 h2] at h
 rw [m0t s h2 h3] at k
 rw [m0t s h1 h3]
 exact Nat.le_trans h k
theorem l1n {a : Nat} {x : Int} (n : Nat) : le2 (a * 2 ^ n) x a (x + n) ∧ le2 a (x + n) (a * 2 ^ n) x := by
 rw [m0t x (Int.le_refl _) (by omega), m0t x (by omega) (Int.le_refl _)]
 rw [show (x - x).toNat = 0 by omega, show (x + (n : Int) - x).toNat = n by omega]
 simp
theorem j1u {num den : Nat} (hd : 0 < den) (e k : Int) (m : Nat) : m ≤ qP num den (e - k) ↔ le2 (m * den) k num e := by
 unfold qP
 rw [Nat.le_div_iff_mul_le (e0t hd _)]
 unfold numP denP le2
 rcases Int.le_total k e with h | h
 · rw [show (-(e - k)).toNat = 0 by omega, show (k - min k e).toNat = 0 by omega, show (e - min k e).toNat = (e - k).toNat by omega]
   simp only [Nat.pow_zero, Nat.mul_one]
 · rw [show (e - k).toNat = 0 by omega, show (k - min k e).toNat = (-(e - k)).toNat by omega, show (e - min k e).toNat = 0 by omega]
   simp only [Nat.pow_zero, Nat.mul_one, Nat.mul_assoc]
theorem b1m {num den : Nat} (hd : 0 < den) (e : Int) (w D : Nat) (k : Int) : f0m num den e w D k ↔ le2 (2 ^ (w * (D - 1)) * den) (w * k) num e := by
 unfold f0m; exact j1u hd e _ _
def ge10 (num den : Nat) (j : Int) : Prop := den * 10 ^ j.toNat ≤ num * 10 ^ (-j).toNat
instance (num den : Nat) (j : Int) : Decidable (ge10 num den j) := by unfold ge10; exact inferInstance
theorem e0l (n : Nat) : 0 < 10 ^ n := Nat.pow_pos (by omega)
theorem h0s {num den : Nat} {j : Int} {u v : Nat} (h : (u : Int) - v = j) : ge10 num den j ↔ den * 10 ^ u ≤ num * 10 ^ v := by
 unfold ge10
 rcases Int.le_total 0 j with hj | hj
 · rw [show (-j).toNat = 0 by omega, Nat.pow_zero, Nat.mul_one, show u = j.toNat + v by omega, Nat.pow_add, ← Nat.mul_assoc]
   exact ⟨fun h => Nat.mul_le_mul_right _ h, fun h => Nat.le_of_mul_le_mul_right h (e0l v)⟩
 · rw [show j.toNat = 0 by omega, Nat.pow_zero, Nat.mul_one, show v = (-j).toNat + u by omega, Nat.pow_add, ← Nat.mul_assoc]
   exact ⟨fun h => Nat.mul_le_mul_right _ h, fun h => Nat.le_of_mul_le_mul_right h (e0l u)⟩
theorem s0e {num den : Nat} {i j : Int} (h : ge10 num den j) (hij : i ≤ j) : ge10 num den i := by
 obtain ⟨v, hv⟩ : ∃ v : Nat, 0 ≤ i + v := ⟨(-i).toNat, by omega⟩
 refine (h0s (u := (i + v).toNat) (v := v) (by omega)).2 (Nat.le_trans ?_ ((h0s (u := (j + v).toNat) (v := v) (by omega)).1 h))
 exact Nat.mul_le_mul_left _ (Nat.pow_le_pow_right (by omega) (by omega))
def n10 (num : Nat) (u : Int) : Nat := num * 10 ^ u.toNat
def d10 (den : Nat) (u : Int) : Nat := den * 10 ^ (-u).toNat
def q10 (num den : Nat) (u : Int) : Nat := n10 num u / d10 den u
def r10 (num den : Nat) (u : Int) : Nat := n10 num u % d10 den u
theorem u0t {den : Nat} (h : 0 < den) (u : Int) : 0 < d10 den u := Nat.mul_pos h (e0l _)
theorem i0v {num den : Nat} (hd : 0 < den) (a : Nat) (u : Int) : 10 ^ a ≤ q10 num den u ↔ ge10 num den (a - u) := by
 unfold q10
 rw [Nat.le_div_iff_mul_le (u0t hd u), h0s (u := a + (-u).toNat) (v := u.toNat) (by omega)]
 unfold n10 d10
 rw [Nat.pow_add, show 10 ^ a * (den * 10 ^ (-u).toNat) = den * (10 ^ a * 10 ^ (-u).toNat) by grind]
structure IsP (num den : Nat) (P : Int) : Prop where
 yes : ge10 num den P
 no : ¬ ge10 num den (P + 1)
theorem IsP.iff {num den : Nat} {P : Int} (h : IsP num den P) (j : Int) : ge10 num den j ↔ j ≤ P :=
 ⟨fun k => by
   rcases Int.lt_or_le P j with h1 | h1
   · exact absurd (s0e k (by omega)) h.no
   · exact h1, fun k => s0e h.yes k⟩
theorem IsP.unique {num den : Nat} {P Q : Int} (h : IsP num den P) (k : IsP num den Q) : P = Q := by
 have h1 := (h.iff Q).1 k.yes
 have h2 := (k.iff P).1 h.yes
 omega
theorem b0j (n k : Nat) (hk : 1 ≤ k) : (a0y n).length ≤ k ↔ n < 10 ^ k := by
 unfold a0y
 split
 · rename_i h; subst h
   exact ⟨fun _ => e0l k, fun _ => by simpa using hk⟩
 · rw [List.length_map, List.length_reverse, a0h (by omega)]
theorem d0u (n : Nat) : 1 ≤ (a0y n).length := by have := (u0q n).1; omega
theorem q0f {n : Nat} (h : 0 < n) : 10 ^ ((a0y n).length - 1) ≤ n := by
 have h1 := d0u n
 by_cases h2 : (a0y n).length = 1
 · rw [h2]; exact h
 · have h3 := b0j n ((a0y n).length - 1) (by omega)
   omega
def theP (num den : Nat) : Int := (a0y (q10 num den (a0y den).length)).length - 1 - (a0y den).length
theorem m0u {num den : Nat} (hn : 0 < num) (hd : 0 < den) : IsP num den (theP num den) := by
 unfold theP
 obtain ⟨b, hb⟩ : ∃ b, b = (a0y den).length := ⟨_, rfl⟩
 rw [← hb]
 have h1 : den < 10 ^ b := (b0j den b (by rw [hb]; exact d0u den)).1 (by omega)
 have hq : 0 < q10 num den b := by
  have h2 := (i0v (num := num) hd 0 b).2 ((h0s (u := 0) (v := b) (by omega)).2 (by
    rw [Nat.pow_zero, Nat.mul_one]
    exact Nat.le_trans (Nat.le_of_lt h1) (Nat.le_mul_of_pos_left _ hn)))
  rw [Nat.pow_zero] at h2; exact h2
 have hl := d0u (q10 num den b)
 have h3 := q0f hq
 have h4 := (b0j (q10 num den b) _ hl).1 (Nat.le_refl _)
 rw [i0v hd] at h3
 have h5 : ¬ 10 ^ (a0y (q10 num den b)).length ≤ q10 num den b := by omega
 rw [i0v hd] at h5
 generalize (a0y (q10 num den b)).length = L at *
 exact ⟨by rw [show (L : Int) - 1 - b = ((L - 1 : Nat) : Int) - b by omega]; exact h3, by rw [show (L : Int) - 1 - b + 1 = (L : Int) - b by omega]; exact h5⟩
theorem IsP.bd {num den : Nat} {P : Int} (h : IsP num den P) (hd : 0 < den) : 3 * P < blen num + 1 ∧ -(blen den : Int) < 3 * (P + 1) := by
 have h8 : ∀ n : Nat, 2 ^ (3 * n) ≤ 10 ^ n := fun n => by rw [Nat.pow_mul]; exact Nat.pow_le_pow_left (by omega) n
 have hN := (a0z num _).1 (Nat.le_refl _)
 have hD := (a0z den _).1 (Nat.le_refl _)
 constructor
 · rcases Int.lt_or_le P 0 with h0 | h0
   · omega
   · have h1 := (h0s (u := P.toNat) (v := 0) (by omega)).1 h.yes
     rw [Nat.pow_zero, Nat.mul_one] at h1
     have h2 : 10 ^ P.toNat ≤ num := Nat.le_trans (Nat.le_mul_of_pos_left _ hd) h1
     have h3 : 2 ^ (3 * P.toNat) < 2 ^ blen num := Nat.lt_of_le_of_lt (Nat.le_trans (h8 _) h2) hN
     have h4 := (Nat.pow_lt_pow_iff_right (by omega)).1 h3
     omega
 · rcases Int.lt_or_le 0 (P + 1) with h0 | h0
   · omega
   · have h1 : ¬ den * 10 ^ 0 ≤ num * 10 ^ (-(P + 1)).toNat := fun k => h.no ((h0s (by omega)).2 k)
     rw [Nat.pow_zero, Nat.mul_one] at h1
     by_cases hn : num = 0
     · have := h.yes
       rw [hn] at this
       unfold ge10 at this
       have k1 := Nat.mul_pos hd (e0l P.toNat)
       omega
     · have h2 : 10 ^ (-(P + 1)).toNat < den := by
        have := Nat.le_mul_of_pos_left (10 ^ (-(P + 1)).toNat) (Nat.pos_of_ne_zero hn)
        omega
       have h3 : 2 ^ (3 * (-(P + 1)).toNat) < 2 ^ blen den := Nat.lt_of_le_of_lt (h8 _) (Nat.lt_trans h2 hD)
       have h4 := (Nat.pow_lt_pow_iff_right (by omega)).1 h3
       omega
theorem IsP.long {num den : Nat} {P : Int} (h : IsP num den P) (hd : 0 < den) {k : Nat} (hk : 1 ≤ k) (p : Int) : k < (a0y (q10 num den (k - 1 - p))).length ↔ p < P := by
 have h1 := b0j (q10 num den (k - 1 - p)) k hk
 have h2 := (i0v (num := num) hd k (k - 1 - p)).trans ((h.iff _).trans (show (k : Int) - (k - 1 - p) ≤ P ↔ p < P by omega))
 omega
theorem IsP.short {num den : Nat} {P : Int} (h : IsP num den P) (hd : 0 < den) {k : Nat} (hk : 1 ≤ k) (p : Int) : ((a0y (q10 num den (k - 1 - p))).length < k ∨ q10 num den (k - 1 - p) = 0) ↔ P < p := by
 have h2 := (i0v (num := num) hd (k - 1) (k - 1 - p)).trans ((h.iff _).trans (show ((k - 1 : Nat) : Int) - (k - 1 - p) ≤ P ↔ p ≤ P by omega))
 generalize q10 num den (k - 1 - p) = q at *
 have hz : q = 0 → q < 10 ^ (k - 1) := fun e => by rw [e]; exact e0l _
 by_cases h3 : k = 1
 · subst h3
   have := d0u q
   rw [Nat.sub_self, Nat.pow_zero] at h2
   omega
 · have h1 := b0j q (k - 1) (by omega)
   omega
def upT (num den : Nat) (u : Int) : Bool := decide (0 < cmpN (r10 num den u * 2) (d10 den u)) || (decide (cmpN (r10 num den u * 2) (d10 den u) = 0) && decide (q10 num den u % 2 = 1))
def dT (num den : Nat) (u : Int) : Nat := q10 num den u + if upT num den u then 1 else 0
def decM (num den k : Nat) : List Nat × Int :=
 if k < (a0y (dT num den (k - 1 - theP num den))).length then ((a0y (dT num den (k - 1 - theP num den))).take k, theP num den + 1) else (a0y (dT num den (k - 1 - theP num den)), theP num den)
theorem b1n {num den : Nat} (hn : 0 < num) (hd : 0 < den) {k : Nat} (hk : 1 ≤ k) {s : List Nat} {p : Int} (h : decM num den k = (s, p)) :
 s.length = k ∧ (∀ x ∈ s, 48 ≤ x ∧ x ≤ 57) ∧ 10 ^ (k - 1) ≤ a0m s ∧ theP num den ≤ p ∧ p ≤ theP num den + 1 ∧
 (dT num den (k - 1 - theP num den) = a0m s ∧ p = theP num den ∨ dT num den (k - 1 - theP num den) = a0m s * 10 ∧ p = theP num den + 1) := by
 have hP := m0u hn hd
 have hlo : 10 ^ (k - 1) ≤ q10 num den (k - 1 - theP num den) := (i0v hd _ _).2 ((hP.iff _).2 (by omega))
 have hhi : q10 num den (k - 1 - theP num den) < 10 ^ k := by
  have h1 := hP.long hd hk (theP num den)
  have h2 := b0j (q10 num den (k - 1 - theP num den)) k hk
  omega
 unfold decM at h
 have hd1 : q10 num den (k - 1 - theP num den) ≤ dT num den (k - 1 - theP num den) ∧ dT num den (k - 1 - theP num den) ≤ q10 num den (k - 1 - theP num den) + 1 := by unfold dT; split <;> omega
 generalize dT num den (k - 1 - theP num den) = d at *
 generalize q10 num den (k - 1 - theP num den) = q at *
 generalize theP num den = P at *
 have hl := b0j d k hk
 have hn := b1g d
 have hg := j0q d
 by_cases h1 : k < (a0y d).length
 · rw [if_pos h1] at h
   injection h with h3 h4
   have e1 : d = 10 ^ k := by omega
   have hl2 : (a0y d).length ≤ k + 1 := (b0j d (k + 1) (by omega)).2 (by rw [e1]; exact Nat.pow_lt_pow_right (by omega) (by omega))
   have e4 : a0m (a0y d) = a0m ((a0y d).take k) * 10 ^ ((a0y d).drop k).length + a0m ((a0y d).drop k) := by rw [← l0i, List.take_append_drop]
   have e5 : ((a0y d).drop k).length = 1 := by rw [List.length_drop]; omega
   have e6 : a0m ((a0y d).drop k) < 10 ^ ((a0y d).drop k).length := g0j _ fun j hj => by rw [a0t hj]; exact (hg _ (List.mem_of_mem_drop (List.getElem_mem hj))).2
   rw [hn, e5, Nat.pow_one, e1] at e4
   rw [e5, Nat.pow_one] at e6
   rw [← e1] at e4
   rw [h3] at e4
   obtain ⟨j, rfl⟩ : ∃ j, k = j + 1 := ⟨k - 1, by omega⟩
   rw [Nat.pow_succ] at e1
   rw [Nat.add_sub_cancel]
   refine ⟨by rw [← h3, List.length_take]; omega, fun x hx => hg x (List.mem_of_mem_take (h3 ▸ hx)), by omega, by omega, by omega, .inr ⟨by omega, by omega⟩⟩
 · rw [if_neg h1] at h
   injection h with h3 h4
   have hk1 : ¬ (a0y d).length ≤ k - 1 := by
    by_cases h5 : k = 1
    · have := d0u d; omega
    · rw [b0j d (k - 1) (by omega)]; omega
   subst h3 h4
   rw [hn]
   exact ⟨by omega, hg, by omega, by omega, by omega, .inl ⟨rfl, rfl⟩⟩
theorem o0q {num den c : Nat} (hn : 0 < num) (hd : 0 < den) (hc : 0 < c) (k : Nat) : decM (num * c) (den * c) k = decM num den k := by
 have hg : ∀ j, ge10 (num * c) (den * c) j ↔ ge10 num den j := fun j => by
  unfold ge10
  rw [show den * c * 10 ^ j.toNat = den * 10 ^ j.toNat * c by grind, show num * c * 10 ^ (-j).toNat = num * 10 ^ (-j).toNat * c by grind]
  exact ⟨fun h => Nat.le_of_mul_le_mul_right h hc, fun h => Nat.mul_le_mul_right _ h⟩
 have hP : theP (num * c) (den * c) = theP num den := by
  have h1 := m0u hn hd
  exact (m0u (Nat.mul_pos hn hc) (Nat.mul_pos hd hc)).unique ⟨(hg _).2 h1.yes, fun h => h1.no ((hg _).1 h)⟩
 have hq : ∀ u, q10 (num * c) (den * c) u = q10 num den u ∧ r10 (num * c) (den * c) u = c * r10 num den u ∧ d10 (den * c) u = c * d10 den u := fun u => by
  unfold q10 r10 n10 d10
  rw [show num * c * 10 ^ u.toNat = c * (num * 10 ^ u.toNat) by grind, show den * c * 10 ^ (-u).toNat = c * (den * 10 ^ (-u).toNat) by grind]
  exact ⟨Nat.mul_div_mul_left _ _ hc, Nat.mul_mod_mul_left _ _ _, rfl⟩
 have hcm : ∀ a b : Nat, cmpN (c * a) (c * b) = cmpN a b := fun a b => by
  unfold cmpN
  have h1 : c * a < c * b ↔ a < b := Nat.mul_lt_mul_left hc
  have h2 : c * b < c * a ↔ b < a := Nat.mul_lt_mul_left hc
  simp only [h1, h2]
 have hdT : ∀ u, dT (num * c) (den * c) u = dT num den u := fun u => by
  obtain ⟨a1, a2, a3⟩ := hq u
  unfold dT upT
  rw [a1, a2, a3, show c * r10 num den u * 2 = c * (r10 num den u * 2) by grind, hcm]
 unfold decM
 rw [hP, hdT]
theorem b1o {n1 d1 n2 d2 : Nat} (h1 : 0 < n1) (h2 : 0 < d1) (h3 : 0 < n2) (h4 : 0 < d2) (h : n1 * d2 = n2 * d1) (k : Nat) : decM n1 d1 k = decM n2 d2 k := by
 rw [← o0q h1 h2 h4, ← o0q h3 h4 h2, h, Nat.mul_comm d1 d2]
theorem b1p {a : Dv} {g : Gd} (G : k0u g) (hin : b0u a g = true) (h0 : a.m ≠ 0) :
 wid g * c0c a g ≤ a.e ∧ a.e ≤ wid g * c0c a g + 484 ∧ g.lo ≤ c0c a g ∧ c0c a g ≤ g.hi := by
 have wp := b0m g
 have hd := G.d1
 have hd2 := G.d2
 have hle := G.le
 have w0 : (0 : Int) ≤ wid g := by omega
 obtain ⟨D, hD⟩ : ∃ D : Nat, g.digs = D := ⟨g.digs.toNat, by omega⟩
 have hDt : g.digs.toNat = D := by omega
 have hwD : wid g * D ≤ 4 * 120 := Nat.mul_le_mul wp.2 (by omega)
 have ewD : ((wid g * D : Nat) : Int) = wid g * D := Int.natCast_mul _ _
 unfold c0c
 unfold b0u at hin
 rw [if_neg h0, hDt, hD] at hin
 rw [hDt]
 have hb := f0r (topD a - 1) (wid g) (by omega)
 have eU : upK a (wid g) D = (topD a - 1) / (wid g : Int) - D + 1 := rfl
 have etop : topD a = a.e + blen a.m := rfl
 have hbm := (e0d a.m).2 (by omega)
 generalize topD a = T at *
 generalize upK a (wid g) D = K at *
 generalize (T - 1) / (wid g : Int) = f at *
 have eK : (wid g : Int) * K = wid g * f - wid g * D + wid g := by rw [eU]; grind
 have ehi : (wid g : Int) * (g.hi + D) = wid g * g.hi + wid g * D := Int.mul_add _ _ _
 by_cases h1 : a.e < wid g * g.lo ∨ wid g * (g.hi + D) < T
 · rw [if_pos h1] at hin; simp at hin
 · rw [if_neg h1] at hin
   by_cases hu : K < g.lo
   · rw [if_pos hu] at hin
     have hm : max g.lo K = g.lo := by omega
     rw [hm]
     have h2 : (wid g : Int) * (K + 1) ≤ wid g * g.lo := Int.mul_le_mul_of_nonneg_left (by omega) w0
     rw [Int.mul_add] at h2
     exact ⟨by omega, by omega, by omega, by omega⟩
   · rw [if_neg hu] at hin
     have hm : max g.lo K = K := by omega
     have h2 := oTr hin
     rw [hm]
     have h3 : K ≤ g.hi := by
      rcases Int.lt_or_le g.hi K with h | h
      · have h4 : (wid g : Int) * (g.hi + 1) ≤ wid g * K := Int.mul_le_mul_of_nonneg_left (by omega) w0
        rw [Int.mul_add] at h4
        omega
      · exact h
     exact ⟨by omega, by omega, by omega, h3⟩
theorem q_lt {num den : Nat} (hd : 0 < den) {e : Int} {w D : Nat} (hD : 1 ≤ D) {k : Int} (h : ¬ f0m num den e w D (k + 1)) : qP num den (e - w * k) < 2 ^ (w * D) := by
 rcases Nat.lt_or_ge (qP num den (e - w * k)) (2 ^ (w * D)) with h1 | h1
 · exact h1
 · exfalso
   refine h ((b1m hd e w D (k + 1)).2 ?_)
   have h2 := (j1u hd e ((w : Int) * k) _).1 h1
   have e1 : w * D = w * (D - 1) + w := by
    obtain ⟨c, rfl⟩ : ∃ c, D = c + 1 := ⟨D - 1, by omega⟩
    simp only [Nat.add_sub_cancel]; grind
   have e2 : 2 ^ (w * D) * den = 2 ^ (w * (D - 1)) * den * 2 ^ w := by rw [e1, Nat.pow_add]; grind
   rw [e2] at h2
   have h3 := (l1n (a := 2 ^ (w * (D - 1)) * den) (x := (w : Int) * k) w).2
   rw [show (w : Int) * (k + 1) = w * k + w by rw [Int.mul_add]; simp]
   exact b1l h3 h2
theorem b1q (g : Gd) (K : Int) : K ≤ powK g K := by unfold powK; split <;> omega
theorem b1r {num den : Nat} (hd : 0 < den) {e : Int} {w D : Nat} {K : Int} (hK : IsK num den e w D K) {k : Int} (hk : K ≤ k) : ¬ f0m num den e w D (k + 1) := fun h => by
 have := hK.le hd h
 omega
theorem o0r {g : Gd} (h : errG g = 0) : -17000 ≤ wid g * g.lo ∧ wid g * g.hi ≤ 17000 ∧ (wid g : Int) * g.digs ≤ 480 := by
 have G := c0m h
 have d1 := G.d1
 have d2 := G.d2
 unfold errG at h
 by_cases h1 : g.rad ≠ 2 ∧ g.rad ≠ 16
 · rw [if_pos h1] at h; simp at h
 · rw [if_neg h1] at h
   by_cases h2 : g.digs < 1 ∨ 120 < g.digs ∨ farG g g.lo ∨ farG g g.hi ∨ g.hi < g.lo
   · rw [if_pos h2] at h; simp at h
   · unfold farG most at h2
     unfold wid
     by_cases h3 : g.rad = 16
     · simp only [if_pos h3] at *; omega
     · simp only [if_neg h3] at *; omega
theorem f1y {neg : Bool} {num den : Nat} {e : Int} {g : Gd} {way K : Int} (hd : 0 < den) (G : k0u g) (hK : IsK num den e (wid g) g.digs.toNat K) : (fitK neg num den e g way K).d < 2 ^ (wid g * g.digs.toNat) := by
 have hD : 1 ≤ g.digs.toNat := by have := G.d1; omega
 have hq := q_lt hd hD (b1r hd hK (b1q g K))
 have hww : wid g * (g.digs.toNat - 1) < wid g * g.digs.toNat := Nat.mul_lt_mul_of_pos_left (by omega) (b0m g).1
 show digP neg num den e (wid g) g.digs.toNat way (powK g K) < _
 unfold digP
 by_cases hl : j0r neg num den e (wid g) g.digs.toNat way (powK g K)
 · rw [if_pos hl]; exact Nat.pow_lt_pow_right (by omega) hww
 · rw [if_neg hl]
   unfold j0r at hl
   by_cases hu : upP neg num den e (wid g) way (powK g K) = true
   · exact (a0z _ _).1 (by have : ¬ wid g * g.digs.toNat < blen (dUp neg num den e (wid g) way (powK g K)) := fun h => hl ⟨hu, h⟩; omega)
   · have : upP neg num den e (wid g) way (powK g K) = false := by simpa using hu
     unfold dUp; rw [this]; simpa using hq
theorem f1z {a : Dv} {g : Gd} (hg : errG g = 0) (hB : Bare a) (hin : b0u a g = true) : -17000 ≤ a.e ∧ a.e ≤ 17480 := by
 have G := c0m hg
 obtain ⟨w1, w2, w3⟩ := o0r hg
 by_cases h0 : a.m = 0
 · rw [hB.zero h0]; simp
 · unfold b0u at hin
   rw [if_neg h0] at hin
   by_cases h1 : a.e < wid g * g.lo ∨ wid g * (g.hi + g.digs) < topD a
   · rw [if_pos h1] at hin; simp at hin
   · have ht : topD a = a.e + blen a.m := rfl
     rw [Int.mul_add] at h1
     omega
/-! ### roots -/
def j0t (m R : Nat) : Prop := R * R ≤ m ∧ m < (R + 1) * (R + 1)
theorem j0t.unique {m R S : Nat} (h : j0t m R) (k : j0t m S) : R = S := by
 rcases Nat.lt_trichotomy R S with c | c | c
 · have := Nat.mul_le_mul c c
   have h1 := h.2; have h2 := k.1
   simp only [Nat.succ_eq_add_one] at this
   omega
 · exact c
 · have := Nat.mul_le_mul c c
   have h1 := k.2; have h2 := h.1
   simp only [Nat.succ_eq_add_one] at this
   omega
theorem j0t.half {m R : Nat} (h : j0t (m * 4) R) : j0t m (R / 2) := by
 obtain ⟨h1, h2⟩ := h
 have h3 : R = 2 * (R / 2) + R % 2 := by omega
 have h4 : R % 2 < 2 := Nat.mod_lt _ (by omega)
 generalize R / 2 = u at *
 generalize R % 2 = v at *
 subst h3
 constructor
 · have : (2 * u) * (2 * u) ≤ (2 * u + v) * (2 * u + v) := Nat.mul_le_mul (by omega) (by omega)
   have e : (2 * u) * (2 * u) = 4 * (u * u) := by grind
   omega
 · have : (2 * u + v + 1) * (2 * u + v + 1) ≤ (2 * (u + 1)) * (2 * (u + 1)) := Nat.mul_le_mul (by omega) (by omega)
   have e : (2 * (u + 1)) * (2 * (u + 1)) = 4 * ((u + 1) * (u + 1)) := by grind
   omega
theorem j0t.mono {m m' R R' : Nat} (h : j0t m R) (k : j0t m' R') (hm : m ≤ m') : R ≤ R' := by
 rcases Nat.lt_or_ge R' R with c | c
 · have := Nat.mul_le_mul c c
   have h1 := h.1; have h2 := k.2
   simp only [Nat.succ_eq_add_one] at this
   omega
 · exact c
theorem w0i (m n : Nat) (h : blen m ≤ n) : (dig B32 m).length ≤ n / 32 + 1 := by
 rw [a0h a0a]
 have h1 := (a0z m n).1 h
 refine Nat.lt_of_lt_of_le h1 ?_
 rw [show B32 = 2 ^ 32 from rfl, ← Nat.pow_mul]
 exact Nat.pow_le_pow_right (by omega) (by omega)
theorem w0j (g : Bool) (x : Int) : bare ⟨g, 0, x⟩ = ⟨false, 0, 0⟩ := by unfold bare; simp
def rv (neg : Bool) (num den : Nat) (e : Int) (g : Gd) (way : Int) : Dv := bare ⟨(a0u neg num den e g way).neg, (a0u neg num den e g way).d, wid g * (a0u neg num den e g way).pow⟩
theorem b1s (neg : Bool) (den : Nat) (e : Int) (g : Gd) (way : Int) : rv neg 0 den e g way = ⟨false, 0, 0⟩ := by
 unfold rv a0u
 rw [if_pos rfl]
 exact w0j _ _
def okP (p : Pl) (g : Gd) : Bool := !p.over && (!p.under || g.grad)
theorem q1o {neg : Bool} {num den : Nat} {e : Int} {g : Gd} {way : Int} (hd : 0 < den) (G : k0u g) (hok : okP (a0u neg num den e g way) g = true) : b0u (rv neg num den e g way) g = true := by
 by_cases h0 : num = 0
 · subst h0; rw [b1s]; rfl
 · have hK := q0d (num := num) (by omega) hd e (w := wid g) (D := g.digs.toNat) (b0m g).1 (by have := G.d1; omega)
   have hD : 1 ≤ g.digs.toNat := by have := G.d1; omega
   unfold rv a0u at *
   rw [if_neg h0] at *
   generalize theK num den e (wid g) g.digs.toNat = K at *
   have hq := q_lt hd hD (b1r hd hK (b1q g K))
   have hover : powP neg num den e (wid g) g.digs.toNat way (powK g K) ≤ g.hi := by
    unfold okP at hok
    have : (fitK neg num den e g way K).over = decide (g.hi < powP neg num den e (wid g) g.digs.toNat way (powK g K)) := rfl
    rw [this] at hok
    simp only [Bool.and_eq_true, Bool.not_eq_true', decide_eq_false_iff_not] at hok
    omega
   have hunder : g.lo ≤ K ∨ g.grad = true := by
    unfold okP at hok
    have : (fitK neg num den e g way K).under = decide (K < g.lo) := rfl
    rw [this] at hok
    simp only [Bool.and_eq_true, Bool.or_eq_true, Bool.not_eq_true', decide_eq_false_iff_not] at hok
    rcases hok.2 with h | h
    · left; omega
    · right; exact h
   show b0u (bare ⟨neg, digP neg num den e (wid g) g.digs.toNat way (powK g K), wid g * (if digP neg num den e (wid g) g.digs.toNat way (powK g K) = 0 then 0 else powP neg num den e (wid g) g.digs.toNat way (powK g K))⟩) g = true
   by_cases hd0 : digP neg num den e (wid g) g.digs.toNat way (powK g K) = 0
   · rw [hd0, w0j]; rfl
   · rw [if_neg hd0, ← u0s]
     have hDD : g.digs = (g.digs.toNat : Int) := by have := G.d1; omega
     have habs : (sg neg (digP neg num den e (wid g) g.digs.toNat way (powK g K))).natAbs = digP neg num den e (wid g) g.digs.toNat way (powK g K) := by unfold sg; cases neg <;> simp
     have hlow : g.lo ≤ powK g K ∧ (2 ^ (wid g * (g.digs.toNat - 1)) ≤ qP num den (e - wid g * powK g K) ∨ (g.grad = true ∧ powK g K = g.lo)) := by
      by_cases hu : K < g.lo
      · have hg : g.grad = true := by rcases hunder with h | h; omega; exact h
        have : powK g K = g.lo := by unfold powK; rw [if_pos ⟨hu, hg⟩]
        exact ⟨by omega, .inr ⟨hg, this⟩⟩
      · have : powK g K = K := by unfold powK; rw [if_neg (fun h => hu h.1)]
        rw [this]
        exact ⟨by omega, .inl hK.yes⟩
     have hww : wid g * (g.digs.toNat - 1) < wid g * g.digs.toNat := Nat.mul_lt_mul_of_pos_left (by omega) (b0m g).1
     refine i0u G hDD ?_ ?_ ?_ hover
     · rw [habs]
       unfold digP
       by_cases hl : j0r neg num den e (wid g) g.digs.toNat way (powK g K)
       · rw [if_pos hl]; exact Nat.pow_lt_pow_right (by omega) hww
       · rw [if_neg hl]
         unfold j0r at hl
         by_cases hu : upP neg num den e (wid g) way (powK g K) = true
         · exact (a0z _ _).1 (by have : ¬ wid g * g.digs.toNat < blen (dUp neg num den e (wid g) way (powK g K)) := fun h => hl ⟨hu, h⟩; omega)
         · have : upP neg num den e (wid g) way (powK g K) = false := by simpa using hu
           unfold dUp; rw [this]; simpa using hq
     · rw [habs]
       unfold digP powP
       by_cases hl : j0r neg num den e (wid g) g.digs.toNat way (powK g K)
       · rw [if_pos hl, if_pos hl]; exact .inr (.inl (Nat.le_refl _))
       · rw [if_neg hl, if_neg hl]
         rcases hlow.2 with h | h
         · exact .inr (.inl (by unfold dUp; omega))
         · exact .inr (.inr h)
     · unfold powP; split <;> omega
def be (l : List Nat) : Nat := l.foldl (fun a c => a * 256 + c) 0
def vb (l : List Bool) : Nat := l.foldl (fun a b => 2 * a + b.toNat) 0
def j0u (c : Nat) : List Bool := [c / 128 % 2 == 1, c / 64 % 2 == 1, c / 32 % 2 == 1, c / 16 % 2 == 1, c / 8 % 2 == 1, c / 4 % 2 == 1, c / 2 % 2 == 1, c / 1 % 2 == 1]
def b1t : List Nat → List Bool
 | [] => []
 | c :: r => j0u c ++ b1t r
theorem b1u (l : List Bool) : ∀ a : Nat, l.foldl (fun a b => 2 * a + b.toNat) a = a * 2 ^ l.length + vb l := by
 induction l with
 | nil => intro a; simp [vb]
 | cons x r ih =>
  intro a
  unfold vb
  simp only [List.foldl_cons, List.length_cons]
  rw [ih, ih (2 * 0 + x.toNat), Nat.pow_succ, Nat.mul_zero, Nat.zero_add, Nat.add_mul]
  have h1 : 2 * a * 2 ^ r.length = a * (2 ^ r.length * 2) := by rw [Nat.mul_comm 2 a, Nat.mul_assoc, Nat.mul_comm 2]
  omega
theorem o1p : vb [] = 0 := rfl
theorem m0v (x : Bool) (r : List Bool) : vb (x :: r) = x.toNat * 2 ^ r.length + vb r := by
 show List.foldl _ _ r = _
 rw [b1u]
 simp
theorem h0f (x y : List Bool) : vb (x ++ y) = vb x * 2 ^ y.length + vb y := by
 show List.foldl _ _ (x ++ y) = _
 rw [List.foldl_append, b1u]
 rfl
theorem l1o (x : List Bool) (b : Bool) : vb (x ++ [b]) = 2 * vb x + b.toNat := by
 rw [h0f, m0v, o1p]
 simp
 omega
theorem u0u : ∀ l : List Bool, vb l < 2 ^ l.length
 | [] => by simp [vb]
 | x :: r => by
  have h := u0u r
  rw [m0v, List.length_cons, Nat.pow_succ]
  have h2 : x.toNat ≤ 1 := by cases x <;> decide
  have h3 : x.toNat * 2 ^ r.length ≤ 1 * 2 ^ r.length := Nat.mul_le_mul_right _ h2
  omega
theorem l1p : ∀ c, c < 256 → vb (j0u c) = c := by decide +kernel
theorem s0f (c : Nat) : (j0u c).length = 8 := rfl
theorem m0w : ∀ l : List Nat, (b1t l).length = 8 * l.length
 | [] => rfl
 | c :: r => by
  show (j0u c ++ b1t r).length = _
  rw [List.length_append, s0f, m0w r, List.length_cons]
  omega
theorem l1q (l : List Nat) : ∀ a : Nat, l.foldl (fun a c => a * 256 + c) a = a * 256 ^ l.length + be l := by
 induction l with
 | nil => intro a; simp [be]
 | cons x r ih =>
  intro a
  unfold be
  simp only [List.foldl_cons, List.length_cons]
  rw [ih, ih (0 * 256 + x), Nat.pow_succ, Nat.zero_mul, Nat.zero_add, Nat.add_mul, Nat.mul_assoc, Nat.mul_comm 256]
  omega
theorem l1r (x : Nat) (r : List Nat) : be (x :: r) = x * 256 ^ r.length + be r := by
 show List.foldl _ _ r = _
 rw [l1q]
 simp
theorem b1v (l : List Nat) (c : Nat) : be (l ++ [c]) = be l * 256 + c := by
 show List.foldl _ _ (l ++ [c]) = _
 rw [List.foldl_append]
 rfl
theorem b1w : ∀ l : List Nat, (∀ c ∈ l, c < 256) → vb (b1t l) = be l
 | [], _ => rfl
 | c :: r, h => by
  show vb (j0u c ++ b1t r) = _
  rw [h0f, l1p c (h c (List.mem_cons_self ..)), b1w r (fun d hd => h d (List.mem_cons_of_mem _ hd)), l1r, m0w, Nat.pow_mul]
theorem o1q (l : List Nat) (h : ∀ c ∈ l, c < 256) : be l < 2 ^ (8 * l.length) := by
 rw [← b1w l h, ← m0w]
 exact u0u _
theorem l1s (b : List Bool) (k : Nat) : vb (b.take k) = vb b / 2 ^ (b.length - k) := by
 have h := h0f (b.take k) (b.drop k)
 rw [List.take_append_drop, List.length_drop] at h
 have h2 := u0u (b.drop k)
 rw [List.length_drop] at h2
 rw [h, Nat.mul_comm, Nat.mul_add_div (Nat.pow_pos (by omega)), Nat.div_eq_of_lt h2]
 omega
theorem l1t (b : List Bool) (k : Nat) : vb (b.drop k) = vb b % 2 ^ (b.length - k) := by
 have h := h0f (b.take k) (b.drop k)
 rw [List.take_append_drop, List.length_drop] at h
 have h2 := u0u (b.drop k)
 rw [List.length_drop] at h2
 rw [h, Nat.mul_comm, Nat.mul_add_mod, Nat.mod_eq_of_lt h2]
theorem o1r (x : Bool) (r : List Bool) : (vb (x :: r) / 2 ^ r.length == 1) = x := by
 have h := u0u r
 rw [m0v, Nat.mul_comm, Nat.mul_add_div (Nat.pow_pos (by omega)), Nat.div_eq_of_lt h]
 cases x <;> simp
theorem l1u (x : Bool) (r : List Bool) : vb (x :: r) % 2 ^ r.length = vb r := by
 have h := u0u r
 rw [m0v, Nat.mul_comm, Nat.mul_add_mod, Nat.mod_eq_of_lt h]
structure Fm where
 size : Nat
 E : Nat
 F : Nat
 g : Gd
 fam : Nat
 ext : Bool
def fmt (n : Int) : Fm :=
 if n = 1 then ⟨4, 8, 23, ⟨2, 24, -149, 104, true⟩, 1, false⟩
 else if n = 2 then ⟨8, 11, 52, ⟨2, 53, -1074, 971, true⟩, 1, false⟩
 else if n = 3 then ⟨10, 15, 64, ⟨2, 64, -16445, 16320, true⟩, 1, true⟩
 else if n = 4 then ⟨4, 7, 24, ⟨16, 6, -70, 57, false⟩, 2, false⟩
 else if n = 5 then ⟨8, 7, 56, ⟨16, 14, -78, 49, false⟩, 2, false⟩
 else if n = 6 then ⟨4, 8, 23, ⟨2, 24, -151, 103, false⟩, 3, false⟩
 else if n = 7 then ⟨8, 8, 55, ⟨2, 56, -183, 71, false⟩, 3, false⟩
 else if n = 8 then ⟨8, 11, 52, ⟨2, 53, -1076, 970, false⟩, 3, false⟩
 else ⟨0, 0, 0, ⟨0, 0, 0, 0, false⟩, 0, false⟩
def IsFm (n : Int) : Prop := 1 ≤ n ∧ n ≤ 8
instance (n : Int) : Decidable (IsFm n) := by unfold IsFm; exact inferInstance
def Fm.hid (f : Fm) : Bool := !(f.fam == 2) && !f.ext
def Fm.inf (f : Fm) : Bool := f.fam == 1
def Fm.res (f : Fm) : Bool := f.fam == 3
def Fm.ord (f : Fm) : Nat := if f.ext then 2 else if f.fam = 3 then 1 else 0
structure b0z (f : Fm) : Prop where
 bits : 1 + f.E + f.F = 8 * f.size
 sz : f.size = 4 ∨ f.size = 8 ∨ f.size = 10
 e1 : 7 ≤ f.E
 e2 : f.E ≤ 15
 f1 : 23 ≤ f.F
 f2 : f.F ≤ 64
 g : errG f.g = 0
 fam : f.fam = 1 ∨ f.fam = 2 ∨ f.fam = 3
 ext : f.ext = true → f.fam = 1 ∧ f.F = 64 ∧ f.g.digs = 64
 w : wid f.g = if f.fam = 2 then 4 else 1
 rad : f.g.rad = if f.fam = 2 then 16 else 2
 grad : f.g.grad = decide (f.fam = 1)
 lo : -16445 ≤ f.g.lo ∧ f.g.lo ≤ -70
 hi : f.g.hi ≤ 16320
 hi1 : f.fam = 1 → f.g.hi = f.g.lo + (2 ^ f.E : Nat) - 3
 hi2 : f.fam = 2 → f.g.hi = f.g.lo + (2 ^ f.E : Nat) - 1
 hi3 : f.fam = 3 → f.g.hi = f.g.lo + (2 ^ f.E : Nat) - 2
 d2 : f.fam = 2 → 4 * f.g.digs = f.F
 d1 : f.fam ≠ 2 → f.ext = false → f.g.digs = f.F + 1
theorem q0g {n : Int} (h : IsFm n) : n = 1 ∨ n = 2 ∨ n = 3 ∨ n = 4 ∨ n = 5 ∨ n = 6 ∨ n = 7 ∨ n = 8 := by unfold IsFm at h; omega
theorem d0a {n : Int} (h : IsFm n) : b0z (fmt n) := by
 rcases q0g h with rfl | rfl | rfl | rfl | rfl | rfl | rfl | rfl <;> exact ⟨by decide, by decide, by decide, by decide, by decide, by decide, by decide, by decide, by decide, by decide, by decide, by decide, by decide, by decide, by decide, by decide, by decide, by decide, by decide⟩
def plc (o n i : Nat) : Nat := if o = 2 then n - 1 - i else if o = 1 then i + 1 - 2 * (i % 2) else i
def ordL (o : Nat) (xs : List Nat) : List Nat := (List.range xs.length).map fun i => dg xs (plc o xs.length i)
theorem c0d (o : Nat) (xs : List Nat) : (ordL o xs).length = xs.length := by simp [ordL]
theorem m0x {o : Nat} {xs : List Nat} {i : Nat} (h : i < xs.length) : dg (ordL o xs) i = dg xs (plc o xs.length i) := by
 unfold ordL
 rw [dg, List.getElem?_map, List.getElem?_range h]
 rfl
theorem o0s {xs ys : List Nat} (hl : xs.length = ys.length) (h : ∀ i, i < xs.length → dg xs i = dg ys i) : xs = ys := by
 apply List.ext_getElem hl
 intro i h1 h2
 have := h i h1
 unfold dg at this
 rw [List.getElem?_eq_getElem h1, List.getElem?_eq_getElem h2] at this
 simpa using this
theorem j1v {o n i : Nat} (ho : o = 1 → n % 2 = 0) (h : i < n) : plc o n i < n := by
 unfold plc
 split
 · omega
 · split
   · rename_i k
     have := ho k
     omega
   · exact h
theorem l1v {o n i : Nat} (h : i < n) : plc o n (plc o n i) = i := by
 unfold plc
 split
 · omega
 · split
   · omega
   · rfl
theorem o0t {o : Nat} {xs : List Nat} (ho : o = 1 → xs.length % 2 = 0) (h : ∀ x ∈ xs, x < 256) : ∀ x ∈ ordL o xs, x < 256 := by
 intro x hx
 unfold ordL at hx
 rw [List.mem_map] at hx
 obtain ⟨i, hi, rfl⟩ := hx
 rw [List.mem_range] at hi
 have k := j1v ho hi
 unfold dg
 rw [List.getElem?_eq_getElem k]
 exact h _ (List.getElem_mem k)
theorem b1x {o : Nat} {xs : List Nat} (ho : o = 1 → xs.length % 2 = 0) : ordL o (ordL o xs) = xs := by
 apply o0s (by rw [c0d, c0d])
 intro i hi
 rw [c0d, c0d] at hi
 rw [m0x (by rw [c0d]; exact hi), m0x (by rw [c0d]; exact j1v ho hi), c0d, l1v hi]
theorem b1y (xs : List Nat) : ordL 0 xs = xs := o0s (c0d _ _) fun i hi => by rw [c0d] at hi; rw [m0x hi]; rfl
theorem g1a (xs : List Nat) : ordL 2 xs = xs.reverse := o0s (by rw [c0d, List.length_reverse]) fun i hi => by rw [c0d] at hi; rw [m0x hi, o0e hi]; rfl
/-! ### What a pattern's number is -/
def Fm.neg (f : Fm) (N : Nat) : Bool := N / 2 ^ f.F / 2 ^ f.E == 1
def Fm.exp (f : Fm) (N : Nat) : Nat := N / 2 ^ f.F % 2 ^ f.E
def Fm.frac (f : Fm) (N : Nat) : Nat := N % 2 ^ f.F
structure Dc where
 cls : Nat
 m : Nat
 p : Int
def Fm.dec (f : Fm) (neg : Bool) (e frac : Nat) : Dc :=
 if f.fam = 2 then ⟨2, frac, f.g.lo + e⟩
 else if f.fam = 1 ∧ e = 2 ^ f.E - 1 then (if (f.ext = false ∧ frac = 0) ∨ (f.ext = true ∧ frac = 2 ^ 63) then ⟨3, 0, 0⟩ else ⟨4, 0, 0⟩)
 else if f.fam = 3 ∧ e = 0 then (if neg then ⟨5, 0, 0⟩ else ⟨1, 0, 0⟩)
 else if e = 0 then ⟨2, frac, f.g.lo⟩
 else if f.ext = false then ⟨2, frac + 2 ^ f.F, f.g.lo + e - 1⟩
 else if frac < 2 ^ 63 then ⟨4, 0, 0⟩
 else ⟨2, frac, f.g.lo + e - 1⟩
def Dc.c (d : Dc) : Nat := if d.cls = 2 ∧ d.m = 0 then 1 else d.cls
theorem b1z (f : Fm) (neg : Bool) (e frac : Nat) : (f.dec neg e frac).cls = 1 ∨ (f.dec neg e frac).cls = 2 ∨ (f.dec neg e frac).cls = 3 ∨ (f.dec neg e frac).cls = 4 ∨ (f.dec neg e frac).cls = 5 := by
 unfold Fm.dec
 repeat' split
 all_goals simp
theorem g1b {f : Fm} (neg : Bool) {e frac : Nat} (h : frac < 2 ^ f.F) : (f.dec neg e frac).m < 2 ^ (f.F + 1) := by
 have h1 : 2 ^ (f.F + 1) = 2 * 2 ^ f.F := by rw [Nat.pow_succ]; omega
 have h2 : 0 < 2 ^ f.F := Nat.pow_pos (by omega)
 unfold Fm.dec
 repeat' split
 all_goals simp only
 all_goals omega
theorem o1s {f : Fm} (G : b0z f) (neg : Bool) {e frac : Nat} (h : e < 2 ^ f.E) : -16445 ≤ (f.dec neg e frac).p ∧ (f.dec neg e frac).p ≤ 16323 := by
 have h1 := G.lo
 have h2 := G.hi
 have h3 := G.hi1
 have h4 := G.hi2
 have h5 := G.hi3
 have h6 := G.fam
 unfold Fm.dec
 generalize 2 ^ f.E = T at *
 repeat' split
 all_goals simp only
 all_goals omega
structure Vl where
 cls : Nat
 neg : Bool
 d : Nat
 pow : Int
structure Vr where
 cls : Nat
 neg : Bool
 x : Dv
def Fm.vl (f : Fm) (neg : Bool) (d : Dc) : Vl := ⟨d.c, if d.c ≤ 3 then neg else false, if d.c = 2 then d.m / 2 ^ (tz d.m / wid f.g * wid f.g) else 0, if d.c = 2 then d.p + (tz d.m / wid f.g : Nat) else 0⟩
def Fm.vr (f : Fm) (neg : Bool) (d : Dc) : Vr := ⟨d.c, if d.c ≤ 3 then neg else false, if d.c = 2 then bare ⟨neg, d.m, wid f.g * d.p⟩ else ⟨false, 0, 0⟩⟩
def Fm.decN (f : Fm) (N : Nat) : Dc := f.dec (f.neg N) (f.exp N) (f.frac N)
def Fm.valN (f : Fm) (N : Nat) : Vl := f.vl (f.neg N) (f.decN N)
def Fm.refN (f : Fm) (N : Nat) : Vr := f.vr (f.neg N) (f.decN N)
theorem g1c {f : Fm} {x : Bool} {r : List Bool} (h : r.length = f.E + f.F) : f.neg (vb (x :: r)) = x := by
 unfold Fm.neg
 rw [Nat.div_div_eq_div_mul, ← Nat.pow_add, Nat.add_comm f.F, ← h]
 exact o1r x r
theorem g1d {f : Fm} {x : Bool} {r : List Bool} (h : r.length = f.E + f.F) : vb (x :: r) / 2 ^ f.F = vb (x :: r.take f.E) := by
 have := l1s (x :: r) (1 + f.E)
 rw [List.length_cons, h, show f.E + f.F + 1 - (1 + f.E) = f.F by omega, Nat.add_comm 1, List.take_succ_cons] at this
 exact this.symm
theorem g1e {f : Fm} {x : Bool} {r : List Bool} (h : r.length = f.E + f.F) : f.exp (vb (x :: r)) = vb (r.take f.E) := by
 unfold Fm.exp
 rw [g1d h]
 have h2 : (r.take f.E).length = f.E := by rw [List.length_take]; omega
 have := l1u x (r.take f.E)
 rw [h2] at this
 exact this
theorem c1a {f : Fm} {x : Bool} {r : List Bool} (h : r.length = f.E + f.F) : f.frac (vb (x :: r)) = vb (r.drop f.E) := by
 unfold Fm.frac
 have := l1t (x :: r) (f.E + 1)
 rw [List.length_cons, h, show f.E + f.F + 1 - (f.E + 1) = f.F by omega, List.drop_succ_cons] at this
 exact this.symm
def n0w : Nat → Nat → List Bool
 | _, 0 => []
 | a, n + 1 => n0w (a / 2) n ++ [a % 2 == 1]
theorem d0l : ∀ (n a : Nat), (n0w a n).length = n
 | 0, _ => rfl
 | n + 1, a => by rw [n0w, List.length_append, d0l n]; rfl
theorem j0v : ∀ (n a : Nat), vb (n0w a n) = a % 2 ^ n
 | 0, a => by simp [n0w, vb, Nat.mod_one]
 | n + 1, a => by
  rw [n0w, l1o, j0v n]
  have h1 : a % 2 ^ (n + 1) = a % 2 + 2 * (a / 2 % 2 ^ n) := by
   rw [Nat.pow_succ, Nat.mul_comm (2 ^ n) 2, Nat.mod_mul]
  have h2 : (a % 2 == 1).toNat = a % 2 := by
   rcases Nat.mod_two_eq_zero_or_one a with h | h <;> rw [h] <;> rfl
  omega
def Fm.pat (f : Fm) (neg : Bool) (e frac : Nat) : Nat := (neg.toNat * 2 ^ f.E + e) * 2 ^ f.F + frac
def d0v : Nat → Nat → List Nat
 | _, 0 => []
 | a, n + 1 => d0v (a / 256) n ++ [a % 256]
theorem d0s : ∀ (n a : Nat), (d0v a n).length = n
 | 0, _ => rfl
 | n + 1, a => by rw [d0v, List.length_append, d0s n]; rfl
theorem s0g : ∀ (n a : Nat), ∀ x ∈ d0v a n, x < 256
 | 0, _, x, h => by simp [d0v] at h
 | n + 1, a, x, h => by
  rw [d0v, List.mem_append] at h
  rcases h with h | h
  · exact s0g n _ x h
  · rw [List.mem_singleton] at h
    omega
theorem s0h : ∀ (n a : Nat), be (d0v a n) = a % 2 ^ (8 * n)
 | 0, a => by simp [d0v, be, Nat.mod_one]
 | n + 1, a => by
  rw [d0v, b1v, s0h n]
  rw [show 8 * (n + 1) = 8 * n + 8 by omega, Nat.pow_add, Nat.mul_comm (2 ^ (8 * n)), Nat.mod_mul]
  rw [show (2 : Nat) ^ 8 = 256 from rfl]
  omega
theorem y0f (l : List Nat) (x i : Nat) (h : i < l.length) : dg (l ++ [x]) i = dg l i := by
 unfold dg
 rw [List.getElem?_append_left h]
theorem s0i : ∀ (n a i : Nat), i < n → dg (d0v a n) i = a / 2 ^ (8 * (n - 1 - i)) % 256
 | 0, _, _, h => by omega
 | n + 1, a, i, h => by
  rw [d0v]
  by_cases h2 : i < n
  · rw [y0f _ _ _ (by rw [d0s]; exact h2), s0i n _ i h2, Nat.div_div_eq_div_mul]
    congr 2
    rw [show (256 : Nat) = 2 ^ 8 from rfl, ← Nat.pow_add]
    congr 1
    omega
  · obtain rfl : i = n := by omega
    unfold dg
    rw [List.getElem?_append_right (by rw [d0s]; exact Nat.le_refl _), d0s]
    simp
def Fm.str (f : Fm) (neg : Bool) (e frac : Nat) : List Nat := ordL f.ord (d0v (f.pat neg e frac) f.size)
def Fm.bits (f : Fm) (neg : Bool) (e frac : Nat) : List Bool := neg :: (n0w e f.E ++ n0w frac f.F)
theorem g1f (f : Fm) (neg : Bool) (e frac : Nat) : (f.bits neg e frac).length = 1 + f.E + f.F := by
 unfold Fm.bits
 rw [List.length_cons, List.length_append, d0l, d0l]
 omega
theorem w0k {f : Fm} {neg : Bool} {e frac : Nat} (he : e < 2 ^ f.E) (hf : frac < 2 ^ f.F) : vb (f.bits neg e frac) = f.pat neg e frac := by
 unfold Fm.bits Fm.pat
 rw [m0v, h0f, j0v, j0v, d0l, List.length_append, d0l, d0l, Nat.mod_eq_of_lt he, Nat.mod_eq_of_lt hf, Nat.pow_add, Nat.add_mul, Nat.mul_assoc]
 omega
theorem l1w (f : Fm) (neg : Bool) (e frac : Nat) : (f.str neg e frac).length = f.size := by unfold Fm.str; rw [c0d, d0s]
theorem j1w {f : Fm} (G : b0z f) {neg : Bool} {e frac : Nat} (he : e < 2 ^ f.E) (hf : frac < 2 ^ f.F) : f.pat neg e frac < 2 ^ (8 * f.size) := by
 rw [← G.bits, ← w0k he hf, ← g1f f neg e frac]
 exact u0u _
theorem o1t {f : Fm} (G : b0z f) {neg : Bool} {e frac : Nat} (he : e < 2 ^ f.E) (hf : frac < 2 ^ f.F) : be (ordL f.ord (f.str neg e frac)) = f.pat neg e frac := by
 have ho : f.ord = 1 → f.size % 2 = 0 := fun _ => by have := G.sz; omega
 unfold Fm.str
 rw [b1x (by rw [d0s]; exact ho), s0h, Nat.mod_eq_of_lt (j1w G he hf)]
theorem c1b {f : Fm} {neg : Bool} {e frac : Nat} (he : e < 2 ^ f.E) (hf : frac < 2 ^ f.F) : f.neg (f.pat neg e frac) = neg ∧ f.exp (f.pat neg e frac) = e ∧ f.frac (f.pat neg e frac) = frac := by
 rw [← w0k he hf]
 unfold Fm.bits
 have hl : (n0w e f.E ++ n0w frac f.F).length = f.E + f.F := by rw [List.length_append, d0l, d0l]
 refine ⟨g1c hl, ?_, ?_⟩
 · rw [g1e hl, List.take_left' (d0l _ _), j0v, Nat.mod_eq_of_lt he]
 · rw [c1a hl, List.drop_left' (d0l _ _), j0v, Nat.mod_eq_of_lt hf]
structure Pt where
 neg : Bool
 e : Nat
 x : Nat
def Fm.fr (f : Fm) (d : Dv) : Nat := d.m * 2 ^ (d.e - wid f.g * c0c d f.g).toNat
def Fm.numP (f : Fm) (d : Dv) : Pt :=
 if f.fam = 2 then ⟨d.neg, (c0c d f.g - f.g.lo).toNat, f.fr d⟩
 else if (blen (f.fr d) : Int) = f.g.digs then ⟨d.neg, (c0c d f.g - f.g.lo).toNat + 1, if f.ext then f.fr d else f.fr d - 2 ^ f.F⟩
 else ⟨d.neg, (c0c d f.g - f.g.lo).toNat, f.fr d⟩
def Fm.encP (f : Fm) (cls : Nat) (g : Bool) (d : Dv) : Pt :=
 if cls = 2 then f.numP d
 else if cls = 3 then ⟨g, 2 ^ f.E - 1, if f.ext then 2 ^ 63 else 0⟩
 else if cls = 4 then ⟨g, 2 ^ f.E - 1, if f.ext then 2 ^ 63 + 2 ^ 62 else 2 ^ (f.F - 1)⟩
 else if cls = 5 then ⟨true, 0, 0⟩
 else ⟨g, 0, 0⟩
def Fm.strP (f : Fm) (p : Pt) : List Nat := f.str p.neg p.e p.x
structure NumF (f : Fm) (d : Dv) : Prop where
 k1 : f.g.lo ≤ c0c d f.g
 k2 : c0c d f.g ≤ f.g.hi
 e0 : 0 ≤ d.e - wid f.g * c0c d f.g
 e1 : d.e - wid f.g * c0c d f.g ≤ 484
 lt : f.fr d < 2 ^ (wid f.g * f.g.digs.toNat)
 ne : f.fr d ≠ 0
 bl : (blen (f.fr d) : Int) ≤ wid f.g * f.g.digs
 low : f.fam ≠ 2 → (blen (f.fr d) : Int) ≠ f.g.digs → c0c d f.g = f.g.lo ∧ f.fam = 1
theorem c1c {f : Fm} (G : b0z f) {d : Dv} (hin : b0u d f.g = true) (h0 : d.m ≠ 0) : NumF f d := by
 have hg := c0m G.g
 obtain ⟨a1, a2, a3, a4⟩ := b1p hg hin h0
 have hd1 := hg.d1
 have wp := b0m f.g
 obtain ⟨D, hD⟩ : ∃ D : Nat, f.g.digs = D := ⟨f.g.digs.toNat, by omega⟩
 have hDt : f.g.digs.toNat = D := by omega
 have hbl : (blen (f.fr d) : Int) = topD d - wid f.g * c0c d f.g := by
  unfold Fm.fr
  rw [h0q (by omega)]
  unfold topD
  omega
 have hpos : f.fr d ≠ 0 := by
  unfold Fm.fr
  have := Nat.mul_pos (show 0 < d.m by omega) (Nat.pow_pos (n := (d.e - wid f.g * c0c d f.g).toNat) (show 0 < 2 by omega))
  omega
 have hb := f0r (topD d - 1) (wid f.g) (by omega)
 have eU : upK d (wid f.g) D = (topD d - 1) / (wid f.g : Int) - D + 1 := rfl
 have eS : c0c d f.g = max f.g.lo (upK d (wid f.g) f.g.digs.toNat) := rfl
 rw [hDt] at eS
 have hle : upK d (wid f.g) D ≤ c0c d f.g := by omega
 have hmul : (wid f.g : Int) * upK d (wid f.g) D ≤ wid f.g * c0c d f.g := Int.mul_le_mul_of_nonneg_left hle (by omega)
 have eK : (wid f.g : Int) * upK d (wid f.g) D = wid f.g * ((topD d - 1) / (wid f.g : Int)) - wid f.g * D + wid f.g := by rw [eU]; grind
 have hbD : (blen (f.fr d) : Int) ≤ wid f.g * f.g.digs := by rw [hD]; omega
 have ewD : ((wid f.g * D : Nat) : Int) = wid f.g * D := Int.natCast_mul _ _
 refine ⟨a3, a4, by omega, by omega, ?_, hpos, hbD, fun hf hn => ?_⟩
 · rw [hDt]
   refine (a0z _ _).1 ?_
   rw [hD] at hbD
   omega
 · have hw : wid f.g = 1 := by rw [G.w, if_neg hf]
   rw [hw] at hbl eU
   have hu : ¬ c0c d f.g = upK d 1 D := by
    intro h
    apply hn
    rw [hbl, h, eU, hD]
    have : (topD d - 1) / ((1 : Nat) : Int) = topD d - 1 := by simp
    omega
   rw [hw] at eS
   have hlo : c0c d f.g = f.g.lo := by omega
   refine ⟨hlo, ?_⟩
   have hlt : upK d 1 D < f.g.lo := by omega
   unfold b0u at hin
   rw [if_neg h0, hDt, hw] at hin
   split at hin
   · simp at hin
   · have hgr := G.grad
     by_cases hf1 : f.fam = 1
     · exact hf1
     · rw [decide_eq_false hf1] at hgr
       rw [hgr] at hin
       simp at hin
theorem q0h {f : Fm} (G : b0z f) (hf : f.fam ≠ 2) : (f.ext = false ∧ f.g.digs = f.F + 1) ∨ (f.ext = true ∧ f.g.digs = f.F ∧ f.F = 64) := by
 cases h : f.ext with
 | false => exact .inl ⟨rfl, G.d1 hf h⟩
 | true => have := G.ext h; exact .inr ⟨rfl, by omega, this.2.1⟩
theorem c1d {f : Fm} (G : b0z f) {d : Dv} (N : NumF f d) : (f.numP d).e < 2 ^ f.E ∧ (f.numP d).x < 2 ^ f.F := by
 have hE1 : (2 : Nat) ^ 7 ≤ 2 ^ f.E := Nat.pow_le_pow_right (by omega) G.e1
 have h1 := N.k1
 have h2 := N.k2
 have hF2 := N.lt
 have hdd := G.d2
 have hw := G.w
 unfold Fm.numP
 by_cases hf : f.fam = 2
 · rw [if_pos hf]
   have := G.hi2 hf
   rw [hw, if_pos hf, show 4 * f.g.digs.toNat = f.F by have := hdd hf; omega] at hF2
   exact ⟨by simp only; omega, hF2⟩
 · rw [if_neg hf]
   rw [hw, if_neg hf, Nat.one_mul] at hF2
   have hhi : f.g.hi + 2 ≤ f.g.lo + (2 ^ f.E : Nat) := by
    have h3 := G.hi1
    have h4 := G.hi3
    have h5 := G.fam
    omega
   rcases q0h G hf with ⟨he, hd⟩ | ⟨he, hd, h64⟩
   · rw [show f.g.digs.toNat = f.F + 1 by omega, Nat.pow_succ] at hF2
     by_cases hb : (blen (f.fr d) : Int) = f.g.digs
     · rw [if_pos hb, if_neg (by simp [he])]
       exact ⟨by simp only; omega, by simp only; omega⟩
     · rw [if_neg hb]
       refine ⟨by simp only; omega, ?_⟩
       have hbl := N.bl
       rw [hw, if_neg hf] at hbl
       show f.fr d < 2 ^ f.F
       exact (a0z _ _).1 (by omega)
   · rw [show f.g.digs.toNat = f.F by omega] at hF2
     by_cases hb : (blen (f.fr d) : Int) = f.g.digs
     · rw [if_pos hb, if_pos he]
       exact ⟨by simp only; omega, hF2⟩
     · rw [if_neg hb]
       exact ⟨by simp only; omega, hF2⟩
theorem l1x {f : Fm} (G : b0z f) {cls : Nat} {g : Bool} {d : Dv} (N : cls = 2 → NumF f d) : (f.encP cls g d).e < 2 ^ f.E ∧ (f.encP cls g d).x < 2 ^ f.F := by
 have h0 : 0 < 2 ^ f.E := Nat.pow_pos (by omega)
 have h1 : 0 < 2 ^ f.F := Nat.pow_pos (by omega)
 have hF := G.f1
 have h2 : 2 ^ (f.F - 1) < 2 ^ f.F := Nat.pow_lt_pow_right (by omega) (by omega)
 have h3 : f.ext = true → 2 ^ f.F = 2 ^ 64 := fun h => by rw [(G.ext h).2.1]
 unfold Fm.encP
 by_cases c2 : cls = 2
 · rw [if_pos c2]; exact c1d G (N c2)
 · rw [if_neg c2]
   by_cases c3 : cls = 3
   · rw [if_pos c3]
     refine ⟨by simp only; omega, ?_⟩
     simp only
     split
     · rename_i h; rw [h3 h]; omega
     · exact h1
   · rw [if_neg c3]
     by_cases c4 : cls = 4
     · rw [if_pos c4]
       refine ⟨by simp only; omega, ?_⟩
       simp only
       split
       · rename_i h; rw [h3 h]; omega
       · exact h2
     · rw [if_neg c4]
       split
       · exact ⟨h0, h1⟩
       · exact ⟨h0, h1⟩
theorem s0j (g : Bool) (m : Nat) (e : Int) : (if g then j0i (bare ⟨false, m, e⟩) else bare ⟨false, m, e⟩) = bare ⟨g, m, e⟩ := by
 cases g with
 | false => rfl
 | true =>
  rw [if_pos rfl]
  by_cases h : m = 0
  · subst h; rfl
  · unfold bare j0i
    rw [if_neg h, if_neg h]
    have h1 := c0t m (by omega)
    have h2 : 0 < m / 2 ^ tz m := by
     rcases Nat.eq_zero_or_pos (m / 2 ^ tz m) with k | k
     · rw [k] at h1; simp at h1
     · exact k
    simp [h2]
theorem q0i {x k n : Nat} (h : x < 2 ^ k) (hk : k ≤ 32 * n) : (dig B32 x).length ≤ n := by
 rw [a0h a0a]
 unfold B32
 rw [show (4294967296 : Nat) = 2 ^ 32 from rfl, ← Nat.pow_mul]
 exact Nat.lt_of_lt_of_le h (Nat.pow_le_pow_right (by omega) hk)
theorem w0l (f : Fm) (g : Bool) (d : Dc) : bare ⟨(f.vl g d).neg, (f.vl g d).d, wid f.g * (f.vl g d).pow⟩ = (f.vr g d).x := by
 by_cases h : d.c = 2
 · unfold Fm.vl Fm.vr
   simp only [h, if_true]
   have hw := b0m f.g
   rw [if_pos (by omega)]
   have e : (wid f.g : Int) * (d.p + (tz d.m / wid f.g : Nat)) = wid f.g * d.p + ((tz d.m / wid f.g * wid f.g : Nat) : Int) := by
    rw [Int.mul_add, Int.natCast_mul, Int.mul_comm (wid f.g : Int) ((tz d.m / wid f.g : Nat) : Int)]
   rw [e, ← o0h]
   have hm : d.m ≠ 0 := by
    intro h0
    unfold Dc.c at h
    split at h
    · omega
    · rename_i k
      exact k ⟨h, h0⟩
   have hdv : 2 ^ (tz d.m / wid f.g * wid f.g) ∣ d.m := Nat.dvd_trans (Nat.pow_dvd_pow 2 (Nat.div_mul_le_self _ _)) ⟨d.m / 2 ^ tz d.m, ((c0t d.m (by omega)).1).symm⟩
   rw [Nat.div_mul_cancel hdv]
 · unfold Fm.vl Fm.vr
   simp only [if_neg h]
   exact r0w _ _
theorem m0y (d : Dv) : f0l d = 0 ↔ d.m = 0 := by unfold f0l; by_cases h : d.m = 0 <;> cases d.neg <;> simp [h]
structure CanF (f : Fm) (cls : Nat) (g : Bool) (d : Dv) : Prop where
 c : 1 ≤ cls ∧ cls ≤ 5
 c1 : cls = 1 → g = true → f.fam ≠ 3
 c2 : cls = 2 → NumF f d ∧ Bare d ∧ d.m ≠ 0 ∧ d.neg = g
 c3 : cls = 3 → f.fam = 1
 c4 : cls = 4 → f.fam = 1 ∧ g = false
 c5 : cls = 5 → f.fam = 3 ∧ g = false
theorem l1y {f : Fm} {d : Dv} (N : NumF f d) (hB : Bare d) : bare ⟨d.neg, f.fr d, wid f.g * c0c d f.g⟩ = d := by
 have h0 := N.e0
 unfold Fm.fr
 rw [o0h, show wid f.g * c0c d f.g + (((d.e - wid f.g * c0c d f.g).toNat : Nat) : Int) = d.e by omega]
 exact u0f hB
theorem g1g {f : Fm} (G : b0z f) {d : Dv} (N : NumF f d) : (f.numP d).neg = d.neg ∧ f.dec (f.numP d).neg (f.numP d).e (f.numP d).x = ⟨2, f.fr d, c0c d f.g⟩ := by
 have hE1 : (2 : Nat) ^ 7 ≤ 2 ^ f.E := Nat.pow_le_pow_right (by omega) G.e1
 have h1 := N.k1
 have h2 := N.k2
 have hw := G.w
 by_cases hf : f.fam = 2
 · have e : f.numP d = ⟨d.neg, (c0c d f.g - f.g.lo).toNat, f.fr d⟩ := by unfold Fm.numP; rw [if_pos hf]
   rw [e]
   refine ⟨rfl, ?_⟩
   unfold Fm.dec
   rw [if_pos hf]
   simp only [Dc.mk.injEq, true_and]
   omega
 · have hhi : f.g.hi + 2 ≤ f.g.lo + (2 ^ f.E : Nat) := by
    have h3 := G.hi1
    have h4 := G.hi3
    have h5 := G.fam
    omega
   have hhi1 : f.fam = 1 → f.g.hi + 3 = f.g.lo + (2 ^ f.E : Nat) := fun h => by have := G.hi1 h; omega
   by_cases hb : (blen (f.fr d) : Int) = f.g.digs
   · have hp := g0h (f.fr d) (by have := N.ne; omega)
     obtain ⟨X, hX, hk1, hk2⟩ : ∃ X, f.numP d = ⟨d.neg, (c0c d f.g - f.g.lo).toNat + 1, X⟩ ∧ (f.ext = false → X + 2 ^ f.F = f.fr d) ∧ (f.ext = true → X = f.fr d ∧ 2 ^ 63 ≤ X) := by
      refine ⟨_, by unfold Fm.numP; rw [if_neg hf, if_pos hb], fun he => ?_, fun he => ?_⟩
      · rw [he]
        simp only [Bool.false_eq_true, if_false]
        rcases q0h G hf with ⟨_, hd⟩ | ⟨h, _⟩
        · rw [show blen (f.fr d) - 1 = f.F by omega] at hp
          omega
        · rw [he] at h; cases h
      · rw [if_pos he]
        refine ⟨rfl, ?_⟩
        rcases q0h G hf with ⟨h, _⟩ | ⟨_, hd, h64⟩
        · rw [he] at h; cases h
        · rw [show blen (f.fr d) - 1 = 63 by omega] at hp
          exact hp
     rw [hX]
     refine ⟨rfl, ?_⟩
     unfold Fm.dec
     simp only
     rw [if_neg hf, if_neg (by rintro ⟨h, k⟩; have := hhi1 h; omega), if_neg (by omega), if_neg (by omega)]
     cases he : f.ext with
     | false =>
      rw [if_pos rfl, hk1 he]
      simp only [Dc.mk.injEq, true_and]
      omega
     | true =>
      rw [if_neg (by simp), if_neg (by have := (hk2 he).2; omega), (hk2 he).1]
      simp only [Dc.mk.injEq, true_and]
      omega
   · obtain ⟨l1, l2⟩ := N.low hf hb
     have e : f.numP d = ⟨d.neg, (c0c d f.g - f.g.lo).toNat, f.fr d⟩ := by unfold Fm.numP; rw [if_neg hf, if_neg hb]
     rw [e]
     refine ⟨rfl, ?_⟩
     unfold Fm.dec
     simp only
     rw [if_neg hf, if_neg (by rintro ⟨h, k⟩; omega), if_neg (by omega), if_pos (by omega), l1]
theorem l1z {f : Fm} (G : b0z f) {cls : Nat} {g : Bool} {d : Dv} (C : CanF f cls g d) :
 f.vr (f.encP cls g d).neg (f.dec (f.encP cls g d).neg (f.encP cls g d).e (f.encP cls g d).x) = ⟨cls, g, if cls = 2 then d else ⟨false, 0, 0⟩⟩ := by
 have hE1 : (2 : Nat) ^ 7 ≤ 2 ^ f.E := Nat.pow_le_pow_right (by omega) G.e1
 have hfam := G.fam
 obtain ⟨c1, c2⟩ := C.c
 have hx := G.ext
 rcases (show cls = 1 ∨ cls = 2 ∨ cls = 3 ∨ cls = 4 ∨ cls = 5 by omega) with rfl | rfl | rfl | rfl | rfl
 · have h := C.c1 rfl
   have hd : (f.dec g 0 0).c = 1 := by
    unfold Fm.dec
    by_cases h2 : f.fam = 2
    · rw [if_pos h2]; rfl
    · rw [if_neg h2, if_neg (by rintro ⟨_, k⟩; omega)]
      by_cases h3 : f.fam = 3
      · rw [if_pos ⟨h3, rfl⟩, if_neg (fun k => h k h3)]; rfl
      · rw [if_neg (fun k => h3 k.1), if_pos rfl]; rfl
   show f.vr g (f.dec g 0 0) = _
   unfold Fm.vr
   rw [hd]
   rfl
 · obtain ⟨N, hB, h0, hg⟩ := C.c2 rfl
   obtain ⟨k1, k2⟩ := g1g G N
   show f.vr (f.numP d).neg (f.dec (f.numP d).neg (f.numP d).e (f.numP d).x) = _
   rw [k2, k1]
   have hc : (⟨2, f.fr d, c0c d f.g⟩ : Dc).c = 2 := by unfold Dc.c; rw [if_neg (fun h => N.ne h.2)]
   unfold Fm.vr
   rw [hc]
   simp only [if_true]
   rw [if_pos (by omega), l1y N hB, hg]
 · have h := C.c3 rfl
   have hd : f.dec g (2 ^ f.E - 1) (if f.ext then 2 ^ 63 else 0) = ⟨3, 0, 0⟩ := by
    unfold Fm.dec
    rw [if_neg (by omega), if_pos ⟨h, rfl⟩, if_pos (by cases f.ext <;> simp)]
   show f.vr g (f.dec g (2 ^ f.E - 1) (if f.ext then 2 ^ 63 else 0)) = _
   rw [hd]
   rfl
 · obtain ⟨h, rfl⟩ := C.c4 rfl
   have hp : 0 < 2 ^ (f.F - 1) := Nat.pow_pos (by omega)
   have hd : f.dec false (2 ^ f.E - 1) (if f.ext then 2 ^ 63 + 2 ^ 62 else 2 ^ (f.F - 1)) = ⟨4, 0, 0⟩ := by
    unfold Fm.dec
    rw [if_neg (by omega), if_pos ⟨h, rfl⟩, if_neg (by cases f.ext <;> simp <;> omega)]
   show f.vr false (f.dec false (2 ^ f.E - 1) (if f.ext then 2 ^ 63 + 2 ^ 62 else 2 ^ (f.F - 1))) = _
   rw [hd]
   rfl
 · obtain ⟨h, rfl⟩ := C.c5 rfl
   have hd : f.dec true 0 0 = ⟨5, 0, 0⟩ := by
    unfold Fm.dec
    rw [if_neg (by omega), if_neg (by omega), if_pos ⟨h, rfl⟩, if_pos rfl]
   show f.vr true (f.dec true 0 0) = _
   rw [hd]
   rfl
theorem j1x {D : Dc} (h : D.c = 2) : D.m ≠ 0 := by
 intro h0
 unfold Dc.c at h
 split at h
 · omega
 · rename_i k
   exact k ⟨h, h0⟩
theorem q1p {f : Fm} (G : b0z f) (g : Bool) {e x : Nat} (he : e < 2 ^ f.E) (hx : x < 2 ^ f.F) (neg : Bool) :
 (dig B32 (f.vl g (f.dec neg e x)).d).length ≤ 1000 ∧ -20000 ≤ (f.vl g (f.dec neg e x)).pow ∧ (f.vl g (f.dec neg e x)).pow ≤ 20000 := by
 have k2 := g1b (f := f) neg (e := e) hx
 have k3 := o1s G neg (frac := x) he
 have z2 := G.f2
 generalize f.dec neg e x = D at *
 have hml : (dig B32 D.m).length ≤ 3 := q0i k2 (by omega)
 unfold Fm.vl
 simp only
 refine ⟨?_, ?_⟩
 · split
   · exact Nat.le_trans (a0k a0a (Nat.div_le_self _ _)) (by omega)
   · simp [a0d]
 · split
   · rename_i hc
     have h1 := f0y (m := D.m) (by have := j1x hc; omega)
     have h3 := (a0z _ _).2 k2
     have h2 := Nat.div_le_self (tz D.m) (wid f.g)
     obtain ⟨q, hq⟩ : ∃ q : Nat, tz D.m / wid f.g = q := ⟨_, rfl⟩
     rw [hq] at h2 ⊢
     omega
   · omega
theorem g1h (f : Fm) (g : Bool) (D : Dc) (h : (f.vl g D).cls ≠ 2) : (f.vl g D).d = 0 ∧ (f.vl g D).pow = 0 := by
 have hc : D.c ≠ 2 := h
 unfold Fm.vl
 simp only [if_neg hc, and_self]
def vz : Dv := ⟨false, 0, 0⟩
def Fm.nothM (f : Fm) : Vr := ⟨if f.fam = 1 then 4 else if f.fam = 2 then 1 else 5, false, vz⟩
def Fm.greatM (f : Fm) (neg : Bool) : Vr := ⟨2, neg, bare ⟨neg, 2 ^ (wid f.g * f.g.digs.toNat) - 1, wid f.g * f.g.hi⟩⟩
def Fm.zeroM (f : Fm) (neg : Bool) : Vr := ⟨1, neg && decide (f.fam = 1), vz⟩
def infM (neg : Bool) : Vr := ⟨3, neg, vz⟩
def Fm.flP (f : Fm) (p : Pl) : Nat := if p.under then (if f.fam = 1 then (if p.exact then 0 else 3) else 3) else if p.exact then 0 else 1
def Fm.placedM (f : Fm) (p : Pl) (way : Int) : Vr × Nat :=
 if p.over then (if f.fam = 2 then f.greatM p.neg else if f.fam = 3 then f.nothM else if way ≤ 2 ∨ (way = 4 ∧ p.neg = false) ∨ (way = 5 ∧ p.neg = true) then infM p.neg else f.greatM p.neg, 5)
 else if p.under = true ∧ f.fam ≠ 1 ∧ p.pow < f.g.lo then (f.zeroM false, 3)
 else if p.d = 0 then (f.zeroM p.neg, f.flP p)
 else (⟨2, p.neg, bare ⟨p.neg, p.d, wid f.g * p.pow⟩⟩, f.flP p)
def Fm.numM (f : Fm) (x : Dv) (way : Int) : Vr × Nat := if x.m = 0 then (f.zeroM false, 0) else f.placedM (a0u x.neg x.m 1 x.e f.g way) way
def Fm.sumM (f : Fm) (x y : Dv) (p q : Bool) (way : Int) : Vr × Nat :=
 if (n0s x y).m ≠ 0 then f.numM (n0s x y) way else if x.m = 0 ∧ p = q then (f.zeroM p, 0) else (f.zeroM (decide (way = 5)), 0)
def Fm.offM (f : Fm) : Vr × Nat := (f.nothM, if f.fam = 3 then 16 else 0)
def Fm.lostM (f : Fm) : Vr × Nat := (f.nothM, 16)
def Fm.addM (f : Fm) (a b : Vr) (way : Int) : Vr × Nat :=
 if 4 ≤ a.cls ∨ 4 ≤ b.cls then f.offM
 else if a.cls = 3 ∨ b.cls = 3 then (if a.cls = b.cls ∧ a.neg ≠ b.neg then f.lostM else if a.cls = 3 then (a, 0) else (b, 0))
 else f.sumM a.x b.x a.neg b.neg way
def n0x (n : Int) : List Nat := if n < 0 then 45 :: a0y (-n).toNat else a0y n.toNat
def numT (neg : Bool) (s : List Nat) (p : Int) : List Nat := (if neg then [45] else []) ++ (s.take 1 ++ ((if 1 < s.length then 46 :: s.drop 1 else []) ++ 101 :: n0x p))
theorem m1a {x : Nat} (h : 48 ≤ x ∧ x ≤ 57) : isDg x = true := by unfold isDg; simp [h]
theorem e0u {x : Nat} : isDg x = true ↔ 48 ≤ x ∧ x ≤ 57 := by unfold isDg; simp
theorem j1y : ∀ {l : List Nat}, (∀ x ∈ l, isDg x = true) → l.takeWhile isDg = l ∧ l.dropWhile isDg = []
 | [], _ => ⟨rfl, rfl⟩
 | x :: l, h => by
  have h1 := h x List.mem_cons_self
  have h2 := j1y (l := l) fun y hy => h y (List.mem_cons_of_mem x hy)
  rw [List.takeWhile_cons, List.dropWhile_cons, h1, if_pos rfl, if_pos rfl, h2.1, h2.2]
  exact ⟨rfl, rfl⟩
theorem c1e {b : Nat} (hb : isDg b = false) (r : List Nat) : ∀ {l : List Nat}, (∀ x ∈ l, isDg x = true) → (l ++ b :: r).takeWhile isDg = l ∧ (l ++ b :: r).dropWhile isDg = b :: r
 | [], _ => by rw [List.nil_append, List.takeWhile_cons, List.dropWhile_cons, hb]; exact ⟨rfl, rfl⟩
 | x :: l, h => by
  have h1 := h x List.mem_cons_self
  have h2 := c1e hb r (l := l) fun y hy => h y (List.mem_cons_of_mem x hy)
  rw [List.cons_append, List.takeWhile_cons, List.dropWhile_cons, h1, if_pos rfl, if_pos rfl, h2.1, h2.2]
  exact ⟨rfl, rfl⟩
theorem g1i {b : Nat} (r : List Nat) (h : b ≠ 45) : n0v (b :: r) = (false, b :: r) := by
 unfold n0v
 split
 · rename_i heq
   injection heq with h1 _
   exact absurd h1 h
 · rfl
theorem y0g {b : Nat} (r : List Nat) (h : b ≠ 46) : u0r (b :: r) = some ([], b :: r) := by
 unfold u0r
 split
 · rename_i heq
   injection heq with h1 _
   exact absurd h1 h
 · rfl
def numX (x : Dv) (k : Nat) : List Nat × Int := decM (numP x.m x.e) (denP 1 x.e) k
theorem l0v {m : Nat} (h : 0 < m) (e : Int) : 0 < numP m e := Nat.mul_pos h (Nat.pow_pos (by omega))
end Go.Slip
namespace Go.Slip
open Go.RowKit
/-! ### Slices of structs -/
structure y0h (P : Program) (t e : TypeId) (s bytes : Nat) : Prop where
 ht : P.underlying t = some (.slice e)
 hi : ∃ i z, P.info? e = some i ∧ i.zero = some z ∧ i.size = s ∧ i.bytes = bytes ∧ z.cells.size = s
 pos : 0 < s
 le : bytes ≤ 100
theorem w0m {P : Program} {t e : TypeId} {s bytes : Nat} {z : Value} (h1 : P.underlying t = some (.slice e)) (h2 : (P.info? e).map (fun i => (i.zero, i.size, i.bytes)) = some (some z, s, bytes)) (h3 : Nat.ble bytes 100 = true) (h4 : Nat.beq z.cells.size s = true) (h5 : Nat.ble 1 s = true) : y0h P t e s bytes := by
 refine ⟨h1, ?_, Nat.le_of_ble_eq_true h5, Nat.le_of_ble_eq_true h3⟩
 cases h : P.info? e with
 | none => rw [h] at h2; cases h2
 | some i =>
  rw [h] at h2
  simp only [Option.map_some, Option.some.injEq, Prod.mk.injEq] at h2
  exact ⟨i, z, rfl, h2.1, h2.2.1, h2.2.2, Nat.eq_of_beq_eq_true h4⟩
def OwnS (w : World) (base : Nat) (e : TypeId) (s : Nat) (p : OA) (c n : Nat) (vs : List Value) : Prop := w.ownsRow base e s (.slice p n c) n vs
theorem OwnS.nil (w : World) (base : Nat) (e : TypeId) (s : Nat) : OwnS w base e s none 0 0 [] := World.ownsRow_nil w base e s
section
variable {w w' : World} {base : Nat} {e : TypeId} {s : Nat} {p : OA} {c n : Nat} {vs : List Value}
theorem OwnS.form (h : OwnS w base e s p c n vs) : (p = none ∧ c = 0 ∧ n = 0 ∧ vs = []) ∨ ∃ g, p = some ⟨g, 0, none⟩ ∧ base ≤ g ∧ g < w.heap.size ∧ n ≤ c ∧ c ≤ maxLen := by
 rcases h.2 with ⟨h1, h2⟩ | ⟨g, cap, cur, hv, hb, hg, hn, hc, _, _⟩
 · left
   simp only [Value.slice.injEq] at h1
   refine ⟨h1.1, h1.2.2, h2, List.eq_nil_of_length_eq_zero ?_⟩
   rw [h.1, h2, Nat.zero_mul]
 · right
   simp only [Value.slice.injEq] at hv
   obtain ⟨rfl, _, rfl⟩ := hv
   exact ⟨g, rfl, hb, (Array.getElem?_eq_some_iff.1 hg).1, hn, hc⟩
theorem OwnS.blk_lt (h : OwnS w base e s p c n vs) (hp : p.isSome = true) : base ≤ blk p ∧ blk p < w.heap.size := by
 rcases h.form with ⟨rfl, _, _, rfl⟩ | ⟨g, rfl, h1, h2, _⟩
 · simp at hp
 · exact ⟨h1, h2⟩
theorem OwnS.mono {b' : Nat} (h : OwnS w base e s p c n vs) (hb : b' ≤ base) : OwnS w b' e s p c n vs := by
 refine ⟨h.1, ?_⟩
 rcases h.2 with h1 | ⟨g, cap, cur, hv, hbg, r⟩
 · exact .inl h1
 · exact .inr ⟨g, cap, cur, hv, by omega, r⟩
theorem OwnS.same (h : OwnS w base e s p c n vs) (hb : p.isSome = true → w'.heap[blk p]? = w.heap[blk p]?) : OwnS w' base e s p c n vs := by
 refine ⟨h.1, ?_⟩
 rcases h.2 with h1 | ⟨g, cap, cur, hv, hbg, hg, r⟩
 · exact .inl h1
 · simp only [Value.slice.injEq] at hv
   obtain ⟨rfl, h2, rfl⟩ := hv
   exact .inr ⟨g, c, cur, rfl, hbg, by rw [← hg]; exact hb rfl, r⟩
theorem OwnS.cell (h : OwnS w base e s p c n vs) {j : Nat} {u : Value} (hu : vs[j]? = some u) : w.cell? (at_ p j) = some u := by
 rcases h.form with ⟨_, _, _, rfl⟩ | ⟨g, rfl, _⟩
 · simp at hu
 · have := World.ownsRow.cells h (g := g) rfl j u hu
   rw [← this]
   unfold at_ Addr.add
   split <;> simp_all
theorem OwnS.solid (h : OwnS w base e s p c n vs) : f0v p n := by
 rcases h.form with ⟨_, _, rfl, _⟩ | ⟨g, rfl, _⟩
 · exact fun h => by simp at h
 · exact fun _ => ⟨rfl, rfl⟩
theorem OwnS.far (h : OwnS w base e s p c n vs) {b : Nat} {t : TypeId} {us : Array Value} (hX : Bt w b t us) (hne : Nat.beq t e = false) (hp : p.isSome = true) : blk p ≠ b := by
 rcases h.2 with ⟨h1, h2⟩ | ⟨g, cap, cur, hv, hb, hg, _⟩
 · simp only [Value.slice.injEq] at h1
   rw [h1.1] at hp; cases hp
 · simp only [Value.slice.injEq] at hv
   intro hE
   rw [hv.1] at hE
   have hE2 : g = b := hE
   subst hE2
   have hE3 := hg.symm.trans hX
   simp only [Option.some.injEq, Obj.cells.injEq] at hE3
   rw [hE3.2.1] at hne
   simp at hne
theorem OwnS.apart (h : OwnS w base e s p c n vs) {b2 : Nat} {k : IntKind} {e2 : TypeId} {q : OA} {c2 : Nat} {xs : List Nat} (o : Own w b2 k e2 q c2 xs) (hne : Nat.beq e2 e = false) (hp : p.isSome = true) : ¬ (q.isSome = true ∧ blk q = blk p) := by
 rintro ⟨hq, he⟩
 rcases h.2 with ⟨h1, h2⟩ | ⟨g, cap, cur, hv, hb, hg, _⟩
 · simp only [Value.slice.injEq] at h1
   rw [h1.1] at hp; cases hp
 · rcases o.2 with ⟨h1, h2⟩ | ⟨g', cap', cur', hv', hb', hg', _⟩
   · simp only [Value.slice.injEq] at h1
     rw [h1.1] at hq; cases hq
   · simp only [Value.slice.injEq] at hv hv'
     rw [hv.1, hv'.1] at he
     have hE : g' = g := he
     subst hE
     have := hg.symm.trans hg'
     simp only [Option.some.injEq, Obj.cells.injEq] at this
     rw [this.2.1] at hne
     simp at hne
end
def j0w (b : Nat) (e : TypeId) (s : Nat) (p : OA) (c n : Nat) (vs : List Value) : PF :=
 ⟨fun w => OwnS w b e s p c n vs, fun a => p.isSome = true ∧ blk p = a, fun _ _ h hb _ => h.same fun hp => hb _ (h.blk_lt hp).2 ⟨hp, rfl⟩, fun _ _ h hf => hf.2 ▸ (h.blk_lt hf.1).2⟩
section
variable {P : Program} {w : World}
theorem m0z {t e : TypeId} {s bytes : Nat} (hty : y0h P t e s bytes) {p : OA} {n c m : Nat} (hp : f0v p n) (hm : m < n) : (VO.ix t (.slice p n c) (.int .i64 (m : Int))).sem.run P w = .ok (.pointer (some (at_ p (m * s)))) w := by
 obtain ⟨i, z, hi, -, hs, -⟩ := hty.hi
 have hel : P.elem t = e := u0n hty.ht
 show (Instr.indexAt _ _ _).run P w = _
 rw [run_indexAt_solid w t p n c .i64 m (by rw [hel]; exact hty.ht) hp, if_pos (show (0 : Int) ≤ (m : Int) ∧ (m : Int) < (n : Int) by omega)]
 have hz : (sizeOf (P.elem t)).run P w = .ok s w := by
  rw [hel]
  simp [sizeOf, typeInfo, hi, hs]
 simp only [hz, Result.andThen_ok, Int.toNat_natCast]
theorem l0j {ty : TypeId} {base : Nat} {e : TypeId} {s : Nat} {p : OA} {c n : Nat} {vs : List Value} (hr : OwnS w base e s p c n vs) {k : Nat} (hT : l0n P ty k) {m : Nat} (cs : List Value) (hc : (vs.drop m).take cs.length = cs) (hn : cs.length = k) : (VO.ld ty (.pointer (some (at_ p m)))).sem.run P w = .ok (.agg cs.toArray) w := by
 obtain ⟨⟨d, hu, hd⟩, hi⟩ := hT
 show (Instr.loadAt _ _).run P w = _
 have hE : at_ p m = ⟨(at_ p m).block, (at_ p m).off, none⟩ := rfl
 rw [hE]
 refine run_loadAt_mid w _ _ ty cs d (fun j v hv => ?_) hu hd (by rw [hi, hn])
 have hj := (List.getElem?_eq_some_iff.1 hv).1
 rw [← hc, List.getElem?_take, if_pos hj, List.getElem?_drop] at hv
 have := hr.cell hv
 rw [← this]
 unfold at_
 simp only [Nat.add_assoc]
end
section
variable {P : Program} {ops : Array Oper} {rest : List Oper} {o : Oper} {a : Act} {Q : Exit → Act → World → Prop} {w : World} {K : Act → World → Prop}
theorem m1b (s x : Operand) (t ty : TypeId) {pos : String} {d : Option Tmp} {af : Array Edge} {g : Option (Nat × Bool)} (ho : o = ⟨d, .call { callee := .builtin .append, args := #[s, x], argTypes := #[t, t] }, ty, pos, af, g⟩)
 {e : TypeId} {sz bytes : Nat} (hty : y0h P t e sz bytes) (base : Nat) (p : OA) (n c : Nat) (vs : List Value) (hown : OwnS w base e sz p c n vs)
 (q : Addr) (m c2 : Nat) (ys : List Value) (hl : ys.length = m * sz) (hnews : ∀ j u, ys[j]? = some u → w.cell? (q.add j) = some u) (hone : ys.all (·.oneCell') = true) (hs : a.eval s = .slice p n c) (hx : a.eval x = .slice (some q) m c2)
 (hb : n + m ≤ 1000000000) (hbase : base ≤ w.heap.size) (hw : Region.wanted o (yielded ops a.tmps) = true)
 (h : ∀ p' c' w', OwnS w' base e sz p' c' (n + m) (vs ++ ys) → w.grownBy w' (p.map (·.block)) → (p'.isSome = true → (p.isSome = true ∧ blk p' = blk p) ∨ blk p' = w.heap.size) → K (a.put d (.slice p' (n + m) c')) w') : OpW P ops Q o K a w := by
 obtain ⟨i, z, hi, hz, hs1, hbt, hzs⟩ := hty.hi
 obtain ⟨v', w', hr, hO, hg, hnn, hat⟩ := run_append_own_at (P := P) w base t ty e i z sz bytes hty.ht hi hz hs1 hbt hzs hty.pos _ _ _ hown q m c2 ys hl hnews (fun u hu => List.all_eq_true.1 hone u hu) (by simp only [maxLen]; omega)
  (by have := Nat.mul_le_mul hb hty.le; omega) hbase
 have hv : ∃ p' c', v' = .slice p' (n + m) c' := by
  rcases hO.2 with ⟨h1, h2⟩ | ⟨g, cap, cur, h1, _⟩
  · exact ⟨none, 0, by rw [h1, h2]⟩
  · exact ⟨_, _, h1⟩
 obtain ⟨p', c', rfl⟩ := hv
 have hg' : w.grownBy w' (p.map (·.block)) := by cases p <;> exact hg
 refine ⟨?_⟩
 rw [if_pos hw]
 subst ho
 unfold Oper.wp execOp
 simp only [resolve, invoke, builtin, Sem.run_bind, Sem.run_pure, Result.andThen_ok, List.map_toArray, List.map_cons, List.map_nil, hs, hx, hr]
 refine h p' c' w' hO hg' fun hp' => ?_
 cases p' with
 | none => cases hp'
 | some a' =>
  rcases hat with h1 | h1
  · cases p with
    | none => cases h1
    | some b =>
     left
     exact ⟨rfl, Option.some.inj h1⟩
  · exact .inr (Option.some.inj h1)
end
/-! ### A block that was handed in -/
theorem Bt.far {w : World} {b b' : Nat} {t t' : TypeId} {vs us : Array Value} (h : Bt w b t vs) (hX : Bt w b' t' us) (hne : Nat.beq t t' = false) : ¬ (b = b') := by
 intro e
 subst e
 have := h.symm.trans hX
 simp only [Option.some.injEq, Obj.cells.injEq] at this
 rw [this.2.1] at hne
 simp at hne
def btF (b : Nat) (t : TypeId) (vs : Array Value) : PF :=
 ⟨fun w => Bt w b t vs, fun a => b = a, fun _ _ h hb _ => (hb b h.lt rfl).trans h, fun _ _ h hf => hf ▸ h.lt⟩
theorem j1z {P : Program} {w : World} {b : Nat} {t : TypeId} {vs : Array Value} (h : Bt w b t vs) {ty k : Nat} (hT : l0n P ty k) {m : Nat} (cs : List Value) (hc : (vs.toList.drop m).take cs.length = cs) (hn : cs.length = k) : (VO.ld ty (.pointer (some (at_ (some ⟨b, 0, none⟩) m)))).sem.run P w = .ok (.agg cs.toArray) w := by
 have := j1e h hT m cs hc hn
 show (Instr.loadAt _ _).run P w = _
 unfold at_
 simpa using this
theorem u0v {α : Type} {s : Nat} {f : α → List Value} (hf : ∀ x, (f x).length = s) : ∀ {xs : List α} {i : Nat} {x : α}, xs[i]? = some x → ((xs.flatMap f).drop (i * s)).take (f x).length = f x
 | [], _, _, h => by simp at h
 | a :: l, 0, x, h => by
  simp only [List.getElem?_cons_zero, Option.some.injEq] at h
  subst h
  rw [Nat.zero_mul, List.drop_zero, List.flatMap_cons, List.take_left']
  rfl
 | a :: l, i + 1, x, h => by
  rw [List.getElem?_cons_succ] at h
  have := u0v hf h
  rw [List.flatMap_cons, Nat.add_mul, Nat.one_mul, Nat.add_comm, ← List.drop_drop, List.drop_left' (hf a)]
  exact this
theorem Kp.toBelow {u : Nat} {w w' : World} {t : TypeId} {vs : Array Value} (h : Kp [u] w w') (U : Bt w u t vs) (U' : Bt w' u t vs) : Below w.heap.size w w' :=
 ⟨h.os, h.tape, h.output, h.size, fun k hk => by
   by_cases e : k = u
   · subst e; exact Eq.trans U' (Eq.symm U)
   · exact h.block k hk (by simp [e])⟩
/-! ### Steps -/
def k0x : List Box → Bool
 | [] => true
 | b :: l => match b.ro with | true => false | false => k0x l
theorem g0b : ∀ {l : List Box}, k0x l = true → ∀ k, k < l.length → (lk bx0 l k).ro = false
 | [], _, _, h => by simp at h
 | b :: l, h, k, hk => by
  unfold k0x at h
  split at h
  · cases h
  · rename_i hb
    cases k with
    | zero => exact hb
    | succ k => exact g0b h k (by simpa using hk)
section
variable {P : Program} {Q : Exit → Act → World → Prop} {E : List Nat} {w0 : World} {A : List Nat} {fs : List PF} {W V : World} {c : Cfg}
theorem Inv.grown {W' : World} {bx : List Box} {b : Nat} {e : TypeId} {s : Nat} {p p' : OA} {cc c' n n' : Nat} {vs vs' : List Value} (I : Inv E w0 A bx (j0w b e s p cc n vs :: fs) W) (hb : w0.heap.size ≤ b) (hrw : k0x bx = true)
 (hO : OwnS W' b e s p' c' n' vs') (hg : W.grownBy W' (p.map (·.block))) (hat : p'.isSome = true → (p.isSome = true ∧ blk p' = blk p) ∨ blk p' = W.heap.size) (hfar : p.isSome = true → PF.far (blk p) fs) :
 Inv E w0 A bx (j0w b e s p' c' n' vs' :: fs) W' := by
 have hrow := I.fa.1
 have hne : ∀ k, p.map (·.block) = some k → p.isSome = true ∧ blk p = k := fun k h => by
  cases p with
  | none => cases h
  | some a => exact ⟨rfl, Option.some.inj h⟩
 have keep : ∀ k, k < W.heap.size → (p.isSome = true → blk p ≠ k) → W'.heap[k]? = W.heap[k]? := fun k hk h => hg.block k hk fun e => by
  obtain ⟨h1, h2⟩ := hne k e.symm
  exact h h1 h2
 refine ⟨⟨hg.os.trans I.bel.os, hg.tape.trans I.bel.tape, hg.output.trans I.bel.output, Nat.le_trans I.bel.size hg.size, fun k hk hkE => ?_⟩, I.ge, I.nd, I.len, I.pre, fun k hk => ?_, ⟨hO, ?_⟩, fun a ha => ⟨fun hf => ?_, (I.far a ha).2⟩⟩
 · rw [keep k (Nat.lt_of_lt_of_le hk I.bel.size) fun hp => by have := (hrow.blk_lt hp).1; omega]
   exact I.bel.block k hk hkE
 · have hF : Fa A bx (lk 0 A k) := ⟨k, hk, g0b hrw k hk, rfl⟩
   have h1 := I.bt k hk
   unfold Bt at h1 ⊢
   rw [keep _ (I.lt _ hF) fun hp e => (I.far _ hF).1 ⟨hp, e⟩]
   exact h1
 · refine PF.all_keep hg.size I.fa.2 fun k hk ha => keep k hk fun hp => ha _ (hfar hp)
 · rcases hat hf.1 with ⟨hp, h⟩ | h
   · exact (I.far a ha).1 ⟨hp, h.symm.trans hf.2⟩
   · have := I.lt a ha
     have := hf.2
     omega
def apOf (c : Cfg) (A : List Nat) : Option (TypeId × Value × Value) :=
 match hdOp c with
 | some ⟨_, .call ⟨.builtin .append, ⟨[s, x]⟩, ⟨[t, t']⟩⟩, _, _, _, _⟩ => match Nat.beq t t' with
  | true => some (t, evr A c.fr s, evr A c.fr x)
  | false => none
 | _ => none
theorem zap {e : TypeId} {sz : Nat} {p : OA} {cc n : Nat} {vs : List Value} (I : Inv E w0 A c.bx (j0w w0.heap.size e sz p cc n vs :: fs) W) {t : TypeId} {bytes : Nat} (hty : y0h P t e sz bytes) (k m : Nat) (news : List Nat → List Value)
 (hbox : ∀ A W, Inv E w0 A (zr P none c).bx (j0w w0.heap.size e sz p cc n vs :: fs) W → Bt W (lk 0 A k) e (news A).toArray) (hcap : n + m ≤ 1000000000)
 (hfar : ∀ A W, Inv E w0 A (zr P none c).bx (j0w w0.heap.size e sz p cc n vs :: fs) W → p.isSome = true → PF.far (blk p) fs)
 (h : ∀ A W p' c', (p'.isSome = true → PF.far (blk p') fs) → Inv E w0 A (putc (zr P none c) (.v (.slice p' (n + m) c'))).bx (j0w w0.heap.size e sz p' c' (n + m) (vs ++ news A) :: fs) W → G P Q A (putc (zr P none c) (.v (.slice p' (n + m) c'))) W)
 (hl : ∀ A, Nat.beq (news A).length (m * sz) = true := by intro _; kernel_rfl) (hone : ∀ A, (news A).all (·.oneCell') = true := by intro _; kernel_rfl)
 (ho : ∀ A, apOf (zr P none c) A = some (t, .slice p n cc, .slice (some ⟨lk 0 A k, 0, none⟩) m m) := by intro _; kernel_rfl)
 (hr : ∀ A w, (zms P none 5000 c A w).map (·.1) = (zms P none 5000 c A w).map (·.2) := by intro _ _; kernel_rfl)
 (hrw : k0x (zr P none c).bx = true := by kernel_rfl)
 (hm : ok1 (zr P none c).rg (zr P none c).bx = ok2 (zr P none c).rg := by kernel_rfl) : G P Q A c W :=
 b0b I hr fun A W I => by
  have ho2 := ho A
  have h2 := h A
  have hbox2 := hbox A W I
  have hfar2 := hfar A W I
  have hl2 := hl A
  have hone2 := hone A
  clear hr ho h hbox hfar hl hone
  generalize zr P none c = c at *
  unfold apOf hdOp at ho2
  split at ho2
  · rename_i hn'
    split at ho2
    · rename_i hbeq
      have htt := Nat.eq_of_beq_eq_true hbeq
      subst htt
      simp only [Option.some.injEq, Prod.mk.injEq] at ho2
      obtain ⟨rfl, ho1, ho2⟩ := ho2
      split at hn'
      · rename_i o' hn
        split at hn'
        · rename_i hw
          simp only [Option.some.injEq] at hn'
          subst hn'
          refine G_op (E := E) (w0 := w0) (fs := []) hn fun K hK => m1b _ _ _ _ rfl hty w0.heap.size p n cc vs I.fa.1 ⟨lk 0 A k, 0, none⟩ m m (news A) (Nat.eq_of_beq_eq_true hl2) (fun j u hu => ?_) hone2 (by rw [b0f]; exact ho1) (by rw [b0f]; exact ho2) hcap I.bel.size (by rw [d0h]; exact hw) fun p' c' W' hO hg hat => ?_
          · have := hbox2.bx.cell j
            rw [show (⟨lk 0 A k, 0, none⟩ : Addr).add j = ⟨lk 0 A k, j, none⟩ by unfold Addr.add; split <;> simp_all, this]
            simpa using hu
          · have I2 := I.grown (Nat.le_refl _) hrw hO hg hat hfar2
            have hq : p'.isSome = true → PF.far (blk p') fs := fun hp => by
             rcases hat hp with ⟨h1, h3⟩ | h1
             · rw [h3]; exact hfar2 h1
             · rw [h1]; exact PF.far_new I.fa.2
            have h := h2 W' p' c' hq I2
            unfold putc at h
            rw [hn] at h
            have := hK A W' _ c.bx (List.prefix_refl _) (I2.pick []) hm h
            rw [show Value.slice p' (n + m) c' = (SV.v (.slice p' (n + m) c')).r A from rfl, b0t]
            exact this
        · cases hn'
      · cases hn'
    · cases ho2
  · cases ho2
theorem Inv.newb {bx : List Box} (I : Inv E w0 A bx fs V) (hb : Below V.heap.size V W) {b : Nat} {t : TypeId} {cs : List SV} (hge : V.heap.size ≤ b) (hB : Bt W b t (cs.map (SV.r A)).toArray) (h1 : wfL bx.length cs = true) (h2 : wfB bx.length bx = true) :
 Inv E w0 (A ++ [b]) (bx ++ [⟨t, cs, false⟩]) fs W := by
 have I' := I.past hb
 have hl : ∀ k, k < bx.length → lk 0 (A ++ [b]) k = lk 0 A k ∧ lk bx0 (bx ++ [⟨t, cs, false⟩]) k = lk bx0 bx k := fun k h => ⟨d0i 0 (by rw [I.len]; exact h), d0i bx0 h⟩
 have hn : lk 0 (A ++ [b]) bx.length = b ∧ lk bx0 (bx ++ [⟨t, cs, false⟩]) bx.length = ⟨t, cs, false⟩ := ⟨by rw [← I.len, d0q], d0q _⟩
 have hF : ∀ a, Fa (A ++ [b]) (bx ++ [⟨t, cs, false⟩]) a → Fa A bx a ∨ a = b := fun a ⟨k, hk, hr, e⟩ => by
  rw [List.length_append, List.length_singleton] at hk
  by_cases h : k < bx.length
  · rw [(hl k h).2] at hr
    rw [(hl k h).1] at e
    exact .inl ⟨k, h, hr, e⟩
  · obtain rfl : k = bx.length := by omega
    exact .inr (e.trans hn.1)
 refine ⟨I'.bel, fun a ha => ?_, fun i j hi hj hr hne => ?_, by simp [I.len], I.pre.trans (List.prefix_append _ _), fun k hk => ?_, I'.fa, fun a ha => ?_⟩
 · rcases hF a ha with h | rfl
   · exact I.ge a h
   · exact .inl (Nat.le_trans I.bel.size hge)
 · rw [List.length_append, List.length_singleton] at hi hj
   by_cases h : i < bx.length
   · rw [(hl i h).2] at hr
     by_cases h' : j < bx.length
     · rw [(hl i h).1, (hl j h').1]
       exact I.nd i j h h' hr hne
     · obtain rfl : j = bx.length := by omega
       rw [(hl i h).1, hn.1]
       have := (I.bt i h).lt
       omega
   · obtain rfl : i = bx.length := by omega
     have h' : j < bx.length := by omega
     rw [(hl j h').1, hn.1]
     have := (I.bt j h').lt
     omega
 · rw [List.length_append, List.length_singleton] at hk
   by_cases h : k < bx.length
   · rw [(hl k h).1, (hl k h).2]
     have := I'.bt k h
     unfold Box.row at this ⊢
     rw [n0t _ I.len (m0m h2 k)]
     exact this
   · obtain rfl : k = bx.length := by omega
     rw [hn.1, hn.2]
     unfold Box.row
     simp only
     rw [n0t _ I.len h1]
     exact hB
 · rcases hF a ha with h | rfl
   · exact I'.far a h
   · have : ∀ {l : List PF}, PF.all V l → PF.far a l := fun {l} hl => by
      induction l with
      | nil => exact True.intro
      | cons f l ih => exact ⟨fun hf => by have := f.lt V _ hl.1 hf; omega, ih hl.2⟩
     exact this I.fa
theorem o1u {A' : List Nat} {c' : Cfg} (hA : A <+: A') (he : act A c.fr = act A' c'.fr) (h1 : c'.rg = c.rg) (h2 : c'.ks = c.ks) (h : G P Q A' c' W) : G P Q A c W := by
 refine ⟨?_⟩
 have h := h.out
 unfold j1l at *
 obtain ⟨fr, bx, rg, ks⟩ := c
 obtain ⟨fr', bx', rg', ks'⟩ := c'
 simp only at *
 subst h1 h2
 rw [he]
 cases rg' with
 | off => exact h
 | pl => exact h
 | dr ops A0 m fuel listed => exact fun pre => h (pre.on hA)
 | one ops A0 m fuel listed i => exact fun pre => h (pre.on hA)
 | ret => exact h
theorem y0i {bxv : List Box} (I : Inv E w0 A bxv fs V) (hb : Below V.heap.size V W) (k b : Nat) (t : TypeId) (cs : List Value) (hge : V.heap.size ≤ b) (hB : Bt W b t cs.toArray)
 (h : ∀ A', lk 0 A' k = b → Inv E w0 A' (c.bx ++ [⟨t, cs.map .v, false⟩]) fs W → G P Q A' ⟨c.fr, c.bx ++ [⟨t, cs.map .v, false⟩], c.rg, c.ks⟩ W)
 (hbv : bxv = c.bx := by kernel_rfl) (hk : c.bx.length = k := by kernel_rfl) (h1 : wfL c.bx.length (cs.map SV.v) = true := by kernel_rfl) (h2 : wfB c.bx.length c.bx = true := by kernel_rfl) (h3 : wfL c.bx.length c.fr = true := by kernel_rfl) : G P Q A c W := by
 subst hbv
 have hcs : ∀ A, (cs.map SV.v).map (SV.r A) = cs := fun A => by
  rw [List.map_map]
  exact List.map_id _
 have I2 := I.newb hb (cs := cs.map SV.v) hge (by rw [hcs]; exact hB) h1 h2
 refine o1u (A' := A ++ [b]) (c' := ⟨c.fr, c.bx ++ [⟨t, cs.map .v, false⟩], c.rg, c.ks⟩) (List.prefix_append _ _) ?_ rfl rfl (h _ ?_ I2)
 · unfold act
   simp only
   rw [n0t _ I.len h3]
 · rw [← hk, ← I.len, d0q]
theorem y0j (I : Inv E w0 A c.bx fs W) (d k b : Nat) (hk : lk 0 A k = b) (h : ∀ A W, Inv E w0 A (putc (zr P (some d) c) (.p k 0)).bx fs W → G P Q A (putc (zr P (some d) c) (.p k 0)) W)
 (hkl : Nat.ble (k + 1) c.bx.length = true := by kernel_rfl)
 (hv : u0i P (zr P (some d) c) = some (.val (.v (.pointer (some ⟨b, 0, none⟩)))) := by kernel_rfl)
 (hc : ∀ A w, (f0e P (zr P (some d) c) A w).map (·.1) = (f0e P (zr P (some d) c) A w).map (·.2) := by intro _ _; kernel_rfl)
 (hr : ∀ A w, (zms P (some d) 5000 c A w).map (·.1) = (zms P (some d) 5000 c A w).map (·.2) := by intro _ _; kernel_rfl)
 (hm : ok1 (zr P (some d) c).rg (zr P (some d) c).bx = ok2 (zr P (some d) c).rg := by kernel_rfl) : G P Q A c W := by
 refine k0q 5000 I (fun A w => f0o (hr A w)) fun A' W' hA I' => ?_
 rw [← o1f] at I' ⊢
 refine o1h I' _ (.p k 0) ?_ (h A' W') hv (fun A w => f0o (hc A w)) hm
 show Value.pointer (some ⟨b, 0, none⟩) = .pointer (some ⟨lk 0 A' k, 0, none⟩)
 rw [r0z hA (by rw [I.len]; exact g0t hkl), hk]
theorem i0w {α : Type} (d : α) {l : List α} {n k : Nat} (h : k < n) : lk d (l.take n) k = lk d l k := by
 rw [c0x, c0x, List.getElem?_take, if_pos h]
theorem Inv.dropB {bx : List Box} (I : Inv E w0 A bx fs W) (n : Nat) (hE : E.length ≤ n) (hw : wfB n (bx.take n) = true) (hn : n ≤ bx.length) : Inv E w0 (A.take n) (bx.take n) fs W := by
 have hl : (bx.take n).length = n := by rw [List.length_take]; omega
 have hla : (A.take n).length = n := by rw [List.length_take, I.len]; omega
 have hF : ∀ a, Fa (A.take n) (bx.take n) a → Fa A bx a := fun a ⟨k, hk, hr, e⟩ => by
  rw [hl] at hk
  rw [i0w _ hk] at hr e
  exact ⟨k, by omega, hr, e⟩
 refine ⟨I.bel, fun a ha => I.ge a (hF a ha), fun i j hi hj hr hne => ?_, by rw [hl, hla], ?_, fun k hk => ?_, I.fa, fun a ha => I.far a (hF a ha)⟩
 · rw [hl] at hi hj
   rw [i0w _ hi] at hr
   rw [i0w _ hi, i0w _ hj]
   exact I.nd i j (by omega) (by omega) hr hne
 · exact List.prefix_take_iff.2 ⟨I.pre, hE⟩
 · rw [hl] at hk
   have h1 := I.bt k (by omega)
   rw [i0w _ hk, i0w _ hk]
   unfold Box.row at h1 ⊢
   have hw2 := m0m hw k
   rw [i0w _ hk] at hw2
   have h2 := n0t (A := A.take n) (A.drop n) hla hw2
   rw [List.take_append_drop] at h2
   rw [← h2]
   exact h1
theorem o0u (n : Nat) (I : Inv E w0 A c.bx fs W) (J : Act → World → Prop) {fr : (Nat → Value) → List SV} {bx : (Nat → Value) → List Box} (h : ∀ A W U, Inv E w0 A (bx U) fs W → J (act A (fr U)) W)
 (hr : ∀ A w, (zms P none 5000 c A w).map (·.1) = (zms P none 5000 c A w).map (·.2) := by intro _ _; kernel_rfl)
 (hf : ∀ A, (zr P none c).fr.map (SV.r A) = (fr (uOf (zr P none c) A)).map (SV.r A) := by intro _; kernel_rfl)
 (hb : ∀ A, (zr P none c).bx.take n = bx (uOf (zr P none c) A) := by intro _; kernel_rfl)
 (hw : ∀ U, wfL n (fr U) = true := by intro _; kernel_rfl) (hw2 : wfB n ((zr P none c).bx.take n) = true := by kernel_rfl) (hn : Nat.ble n (zr P none c).bx.length = true := by kernel_rfl) (hE : Nat.ble E.length n = true := by kernel_rfl)
 (hs : j1s (zr P none c) = some J := by kernel_rfl) : G P Q A c W :=
 b0b I hr fun A W I => by
  have I2 := I.dropB n (Nat.le_of_ble_eq_true hE) hw2 (Nat.le_of_ble_eq_true hn)
  rw [hb A] at I2
  have h := h (A.take n) W (uOf (zr P none c) A) I2
  have hf := hf A
  have hla : (A.take n).length = n := by rw [List.length_take, I.len]; exact Nat.min_eq_left (Nat.le_of_ble_eq_true hn)
  have h3 := n0t (A := A.take n) (A.drop n) hla (hw (uOf (zr P none c) A))
  rw [List.take_append_drop] at h3
  unfold act at h
  rw [← h3, ← hf] at h
  clear hb hf h3 hw hw2 hn I2
  generalize zr P none c = c at *
  refine ⟨?_⟩
  obtain ⟨cf, cb, rg, ks⟩ := c
  cases rg with
  | pl => cases hs
  | dr => cases hs
  | one => cases hs
  | ret => cases hs
  | off =>
   cases ks with
   | nil => cases hs
   | cons k ks =>
    cases k with
    | block => cases hs
    | code => cases hs
    | stop J' =>
     obtain rfl : J' = J := Option.some.inj hs
     exact h
theorem zgfe (I : Inv E w0 A c.bx fs W) (k : Nat) (t : TypeId) {f : FuncId} {args : List Nat → World → Array Value} {post : List Nat → World → Ending → World → Prop} (hf : ∀ args w, (callFunc f args).run P w = .ok (.enter f args) w)
 (hc : ∀ A W, Inv E w0 A (zr P none c).bx fs W → Calls P f (args A W) W (post A W))
 (h : ∀ A V, Inv E w0 A (zr P none c).bx fs V → w0.heap.size ≤ V.heap.size → ∀ K : Value → World → Prop, (∀ v cs W, Kp [lk 0 A k] V W → Bt W (lk 0 A k) t (cs.map (SV.r A)).toArray → (Inv E w0 A (n0u (zr P none c) k cs (.v v)).bx fs W → G P Q A (n0u (zr P none c) k cs (.v v)) W) → K v W) → ∀ e W, post A V e W → ∃ v, e = .returned v ∧ K v W)
 (ho : ∀ A w, s0a (zr P none c) A = some (.func (.func f) #[] #[], args A w) := by intro _ _; kernel_rfl)
 (hr : ∀ A w, (zms P none 5000 c A w).map (·.1) = (zms P none 5000 c A w).map (·.2) := by intro _ _; kernel_rfl)
 (hm : ∀ cs, ok1 (zr P none c).rg (setL (zr P none c).bx k ⟨(lk bx0 (zr P none c).bx k).t, cs, false⟩) = ok2 (zr P none c).rg := by intro _; kernel_rfl) (hk : wrOk (zr P none c) k = true := by kernel_rfl)
 (ht : (lk bx0 (zr P none c).bx k).t = t := by kernel_rfl) : G P Q A c W :=
 b0b I hr fun A V I => j1o I k (hc A V I) (by rw [ht]; exact h A V I I.bel.size) (p0u (ho A V) (hf _)) hm hk
theorem Inv.owns {bx : List Box} (I : Inv E w0 A bx fs W) {b : Nat} {e : TypeId} {s : Nat} {p : OA} {cc n : Nat} {vs : List Value} (o : OwnS W b e s p cc n vs) (hb : w0.heap.size ≤ b := by first | exact Nat.le_refl _ | assumption | omega) (hne : q0c e bx = true := by kernel_rfl) :
 Inv E w0 A bx (j0w w0.heap.size e s p cc n vs :: fs) W :=
 I.add (j0w w0.heap.size e s p cc n vs) (o.mono hb) fun a ha hf => by
  obtain ⟨j, hj, _, rfl⟩ := ha
  exact o.far (I.bt j hj) (g0a hne j hj) hf.1 hf.2
end
/-! ### Rows -/
def wrF (b : Nat) (k : IntKind) (p : OA) (xs : List Nat) : PF :=
 ⟨fun w => Wr w b k p xs, fun a => 0 < xs.length ∧ blk p = a, fun _ _ h hb _ => h.same fun hp => hb _ (h.rd.lt hp) ⟨hp, rfl⟩, fun _ _ h hf => hf.2 ▸ h.rd.lt hf.1⟩
theorem OwnV.apart {w : World} {base : Nat} {e : TypeId} {p : OA} {c : Nat} {vs : List Value} (h : OwnV w base e p c vs) {b2 : Nat} {k : IntKind} {e2 : TypeId} {q : OA} {c2 : Nat} {xs : List Nat} (o : Own w b2 k e2 q c2 xs) (hne : Nat.beq e2 e = false) (hp : p.isSome = true) : ¬ (q.isSome = true ∧ blk q = blk p) :=
 OwnS.apart (s := 1) (n := vs.length) h o hne hp
theorem q1q {w w' : World} (h : Below w.heap.size w w') (q : Option Nat) : w.grownBy w' q := ⟨h.os, h.tape, h.output, h.size, fun b hb _ => h.block b hb⟩
theorem g1j {a w w' : World} {q : Option Nat} (h : a.grownBy w q) (k : w.grownBy w' q) : a.grownBy w' q :=
 ⟨k.os.trans h.os, k.tape.trans h.tape, k.output.trans h.output, Nat.le_trans h.size k.size, fun b hb hn => (k.block b (Nat.lt_of_lt_of_le hb h.size) hn).trans (h.block b hb hn)⟩
theorem c1f {a w : World} {q : Option Nat} (h : a.grownBy w q) : a.grownBy w.drew q := ⟨h.os, h.tape, h.output, h.size, h.block⟩
theorem k1a {P : Program} {w : World} {src dt e : TypeId} (hs : P.underlying src = some (.slice e)) (he : P.underlying e = some (.int .u8)) (hd : P.underlying dt = some .string) {p : OA} {n c : Nat} {xs : List Nat} (hr : Rd w .u8 p xs) (hn : n = xs.length) :
 (VO.cv src dt (.slice p n c)).sem.run P w = .ok (.string (a0e xs)) w := g0y (P := P) w src dt e hs he hd p n c xs hr hn
theorem o1v {P : Program} {w : World} {ty : TypeId} {k : IntKind} {p : OA} {xs : List Nat} (hr : Rd w k p xs) (hT : j0l P ty) {m x : Nat} (hm : m < xs.length) (h : dg xs m = x) : (VO.ld ty (.pointer (some (at_ p m)))).sem.run P w = .ok (.int k (x : Int)) w := by
 subst h
 exact b0e hr.v hT (by rw [List.getElem?_map, List.getElem?_eq_getElem hm, a0t hm]; rfl)
theorem j0x {P : Program} (w : World) {t e : TypeId} {z : Value} {bytes : Nat} (hty : j0o P t e z bytes) (ty : TypeId) (base : Nat) (p : OA) (c : Nat) (xs : List Value) (hown : OwnV w base e p c xs)
 (q : OA) (c2 : Nat) (ys : List Value) (hrd : RdV w q ys) (hone : ys.all (·.oneCell') = true) (hb : (xs.length + ys.length) * bytes ≤ 140737488355328) (h63 : xs.length + ys.length ≤ maxLen) (hbase : base ≤ w.heap.size) :
 ∃ p' c' w', (Builtin.append_ #[t, t] ty #[.slice p xs.length c, .slice q ys.length c2]).run P w = .ok (.slice p' (xs.length + ys.length) c') w' ∧ OwnV w' base e p' c' (xs ++ ys) ∧
  w.grownBy w' (p.map (·.block)) ∧ (p'.isSome = true → (p.isSome = true ∧ blk p' = blk p) ∨ blk p' = w.heap.size) := by
 obtain ⟨i, hi, hz, hs, hbt⟩ := hty.hi
 by_cases hq : q = none
 · have h0 : ys = [] := by
    rcases Nat.eq_zero_or_pos ys.length with h | h
    · exact List.eq_nil_of_length_eq_zero h
    · have := (hrd.solid h).1; simp [hq] at this
   subst h0 hq
   refine ⟨p, c, w, ?_, by simpa using hown, ⟨rfl, rfl, rfl, Nat.le_refl _, fun _ _ _ => rfl⟩, fun h => .inl ⟨h, rfl⟩⟩
   have hle := hown.le_cap
   rcases hown.form with ⟨rfl, rfl, rfl⟩ | ⟨g, rfl, _⟩
   · simp [Builtin.append_, run_underlying hty.ht, sizeOf, typeInfo, hi, Builtin.lenOf, Builtin.firstCells]
   · simp [Builtin.append_, run_underlying hty.ht, sizeOf, typeInfo, hi, Builtin.lenOf, Builtin.firstCells, hle, storeCells]
 · obtain ⟨b, rfl⟩ := Option.ne_none_iff_exists'.1 hq
   have hnews : ∀ j u, ys[j]? = some u → w.cell? (b.add j) = some u := by
    intro j u hu
    have hj : j < ys.length := (List.getElem?_eq_some_iff.1 hu).1
    have h1 := hrd.cells j hj
    have h2 := z0v (some b) ys.length j hrd.solid (by omega)
    simp only [Option.getD_some] at h2
    rw [h2, h1, hu]
   obtain ⟨v', w', hr, ho, hg, hn, hat⟩ := run_append_own_at (P := P) w base t ty e i z 1 bytes hty.ht hi hz hs hbt (by rw [hty.hz]; rfl) (by omega) _ _ _ hown b ys.length c2 ys (by simp) hnews (fun u hu => List.all_eq_true.1 hone u hu) h63 hb hbase
   have hv : ∃ p' c', v' = .slice p' (xs.length + ys.length) c' := by
    rcases ho.2 with ⟨h1, h2⟩ | ⟨g, cap, cur, h1, _⟩
    · exact ⟨none, 0, by rw [h1]; congr 1; omega⟩
    · exact ⟨_, _, h1⟩
   obtain ⟨p', c', rfl⟩ := hv
   refine ⟨p', c', w', hr, by unfold OwnV; rw [List.length_append]; exact ho, by cases p <;> exact hg, fun hp' => ?_⟩
   cases p' with
   | none => cases hp'
   | some a' =>
    rcases hat with h1 | h1
    · cases p with
      | none => cases h1
      | some b => exact .inl ⟨rfl, Option.some.inj h1⟩
    · exact .inr (Option.some.inj h1)
section
variable {P : Program} {Q : Exit → Act → World → Prop} {E : List Nat} {w0 : World} {A : List Nat} {fs : List PF} {f : PF} {W W' : World} {c : Cfg}
theorem Inv.addNew {bx : List Box} (I : Inv E w0 A bx fs W) (hb : Below W.heap.size W W') (f : PF) (hf : f.prop W') (hfo : ∀ a, f.foot a → W.heap.size ≤ a) : Inv E w0 A bx (f :: fs) W' :=
 (I.past hb).add f hf fun a ha h => by
  have := I.lt a ha
  have := hfo a h
  omega
theorem Inv.redo {bx : List Box} (I : Inv E w0 A bx (f :: fs) W) (q : Option Nat) (hg : W.grownBy W' q) (hq : ∀ k, q = some k → f.foot k ∧ w0.heap.size ≤ k ∧ PF.far k fs) (hrw : k0x bx = true) (g : PF) (hp : g.prop W') (hfo : ∀ a, g.foot a → f.foot a ∨ W.heap.size ≤ a) : Inv E w0 A bx (g :: fs) W' := by
 refine ⟨⟨hg.os.trans I.bel.os, hg.tape.trans I.bel.tape, hg.output.trans I.bel.output, Nat.le_trans I.bel.size hg.size, fun j hj hjE => ?_⟩, I.ge, I.nd, I.len, I.pre, fun j hj => ?_, ⟨hp, ?_⟩, fun a ha => ⟨fun h => ?_, (I.far a ha).2⟩⟩
 · rw [hg.block j (Nat.lt_of_lt_of_le hj I.bel.size) fun e => by have := (hq j e.symm).2.1; omega]
   exact I.bel.block j hj hjE
 · have hF : Fa A bx (lk 0 A j) := ⟨j, hj, g0b hrw j hj, rfl⟩
   have h1 := I.bt j hj
   unfold Bt at h1 ⊢
   rw [hg.block _ (I.lt _ hF) fun e => (I.far _ hF).1 (hq _ e.symm).1]
   exact h1
 · exact PF.all_keep hg.size I.fa.2 fun b hb ha => hg.block b hb fun e => ha _ (hq _ e.symm).2.2 rfl
 · rcases hfo a h with h | h
   · exact (I.far a ha).1 h
   · have := I.lt a ha
     omega
theorem Inv.pk {bx : List Box} (I : Inv E w0 A bx (f :: fs) W) (is : List Nat) : Inv E w0 A bx (f :: Go.Slip.pick is fs) W := by
 have h1 := I.pick (0 :: is.map (· + 1))
 have : ∀ is : List Nat, Go.Slip.pick (is.map (· + 1)) (f :: fs) = Go.Slip.pick is fs := fun is => by
  induction is with
  | nil => rfl
  | cons i is ih => show _ :: _ = _ :: _; rw [ih]; rfl
 have h2 : Go.Slip.pick (0 :: is.map (· + 1)) (f :: fs) = f :: Go.Slip.pick is fs := by rw [← this is]; rfl
 rw [h2] at h1
 exact h1
/-! ### Operations that write -/
inductive WO where
 | st (t : TypeId) (x y : Value)
 | ap (t ty : TypeId) (s x : Value)
 | mk (t : TypeId) (n m : Value)
 | cv (s d : TypeId) (x : Value)
def WO.run (P : Program) (w w' : World) (v : Value) : WO → Prop
 | .st t x y => (Instr.storeAt t x y).run P w = .ok () w' ∧ v = undef
 | .ap t ty s x => (Builtin.append_ #[t, t] ty #[s, x]).run P w = .ok v w'
 | .mk t n m => (Instr.makeSlice t n m).run P w = .ok v w'
 | .cv s d x => (convert s d x).run P w = .ok v w'
def woOf (c : Cfg) (A : List Nat) : Option WO :=
 match hdOp c with
 | some ⟨_, .store t x y, _, _, _, _⟩ => some (.st t (evr A c.fr x) (evr A c.fr y))
 | some ⟨_, .makeSlice t n m, _, _, _, _⟩ => some (.mk t (evr A c.fr n) (evr A c.fr m))
 | some ⟨_, .convert s d x, _, _, _, _⟩ => some (.cv s d (evr A c.fr x))
 | some ⟨_, .call ⟨.builtin .append, ⟨[s, x]⟩, ⟨[t, t']⟩⟩, ty, _, _, _⟩ => match Nat.beq t t' with
  | true => some (.ap t ty (evr A c.fr s) (evr A c.fr x))
  | false => none
 | _ => none
theorem o1w {ops : Array Oper} {o : Oper} {a : Act} {K : Act → World → Prop} (d : Option Tmp) (hd : o.dst = d) (v : Value) (hw : Region.wanted o (yielded ops a.tmps) = true) (hr : (execOp a.eval o).run P W = .ok (.value v) W' ∨ (execOp a.eval o).run P W = .ok .skip W' ∧ v = undef) (h : K (a.put d v) W') : OpW P ops Q o K a W := by
 rcases hr with hr | ⟨hr, rfl⟩
 · subst hd
   refine ⟨?_⟩
   rw [if_pos hw]
   unfold Oper.wp
   rw [hr]
   exact h
 · exact f1k d hd hw hr h
theorem zdo {ι : Type} (I : Inv E w0 A c.bx fs W) (d : Option Nat) {wo : List Nat → WO} (v : ι → Value) (gs : ι → List PF)
 (hx : ∀ A W, Inv E w0 A (zr P d c).bx fs W → ∃ x W', (wo A).run P W W' (v x) ∧ Inv E w0 A (zr P d c).bx (gs x) W')
 (h : ∀ A W x, Inv E w0 A (putc (zr P d c) (.v (v x))).bx (gs x) W → G P Q A (putc (zr P d c) (.v (v x))) W)
 (hv : ∀ A, woOf (zr P d c) A = some (wo A))
 (hr : ∀ A w, (zms P d 5000 c A w).map (·.1) = (zms P d 5000 c A w).map (·.2))
 (hm : ok1 (zr P d c).rg (zr P d c).bx = ok2 (zr P d c).rg) : G P Q A c W :=
 b0b I hr fun A W I => by
  have hv := hv A
  obtain ⟨x, W', hx, J⟩ := hx A W I
  have h := h A W' x J
  clear hr
  generalize wo A = wo at hv hx
  generalize zr P d c = c at *
  generalize v x = v at *
  have ho : ∃ o, nxt c.rg = some o ∧ wnt (p0t c.rg) c.fr o = true ∧ ((execOp (evr A c.fr) o).run P W = .ok (.value v) W' ∨ (execOp (evr A c.fr) o).run P W = .ok .skip W' ∧ v = undef) := by
   have hh : ∀ o, hdOp c = some o → nxt c.rg = some o ∧ wnt (p0t c.rg) c.fr o = true := fun o h => by
    unfold hdOp at h
    split at h
    · split at h
      · rename_i hn _ hw
        cases h
        exact ⟨hn, hw⟩
      · cases h
    · cases h
   unfold woOf at hv
   split at hv
   · rename_i ho
     refine ⟨_, (hh _ ho).1, (hh _ ho).2, .inr ?_⟩
     cases hv
     refine ⟨?_, hx.2⟩
     unfold execOp
     simp only [Sem.run_bind, hx.1, Result.andThen_ok, Sem.run_pure]
   · rename_i ho
     refine ⟨_, (hh _ ho).1, (hh _ ho).2, .inl ?_⟩
     cases hv
     unfold execOp
     unfold WO.run at hx
     simp only [Sem.run_bind, hx, Result.andThen_ok, Sem.run_pure]
   · rename_i ho
     refine ⟨_, (hh _ ho).1, (hh _ ho).2, .inl ?_⟩
     cases hv
     unfold execOp
     unfold WO.run at hx
     simp only [Sem.run_bind, hx, Result.andThen_ok, Sem.run_pure]
   · rename_i ho
     refine ⟨_, (hh _ ho).1, (hh _ ho).2, .inl ?_⟩
     split at hv
     · rename_i hbeq
       have htt := Nat.eq_of_beq_eq_true hbeq
       subst htt
       cases hv
       unfold execOp
       unfold WO.run at hx
       simp only [resolve, invoke, builtin, Sem.run_bind, Sem.run_pure, Result.andThen_ok, List.map_toArray, List.map_cons, List.map_nil, hx]
     · cases hv
   · cases hv
  obtain ⟨o, hn, hw, ho⟩ := ho
  refine G_op (E := E) (w0 := w0) (fs := gs x) hn fun K hK => o1w o.dst rfl v (by rw [d0h]; exact hw) (by rw [b0f]; exact ho) ?_
  unfold putc at h
  rw [hn] at h
  have := hK A W' _ c.bx (List.prefix_refl _) J hm h
  rw [show v = (SV.v v).r A from rfl, b0t]
  exact this
theorem zput {e : TypeId} {p : OA} {cc : Nat} {vs us : List Value} (I : Inv E w0 A c.bx (b0s w0.heap.size e p cc vs :: fs) W) (is : List Nat) {ts : TypeId} {z : Value} {bytes : Nat} (hty : j0o P ts e z bytes) (j : Nat) (v : Value) (hj : j < vs.length) (hu : vs.set j v = us)
 (hfar : ∀ A W, Inv E w0 A (zr P none c).bx (b0s w0.heap.size e p cc vs :: fs) W → p.isSome = true → PF.far (blk p) (pick is fs))
 (h : ∀ A W, Inv E w0 A (putc (zr P none c) (.v undef)).bx (b0s w0.heap.size e p cc us :: pick is fs) W → G P Q A (putc (zr P none c) (.v undef)) W)
 (h1 : v.cells = #[v] := by rfl) (h5 : v.oneCell' = true := by rfl)
 (hv : ∀ A, woOf (zr P none c) A = some (.st e (.pointer (some (at_ p j))) v) := by intro _; kernel_rfl)
 (hr : ∀ A w, (zms P none 5000 c A w).map (·.1) = (zms P none 5000 c A w).map (·.2) := by intro _ _; kernel_rfl)
 (hrw : k0x (zr P none c).bx = true := by kernel_rfl)
 (hm : ok1 (zr P none c).rg (zr P none c).bx = ok2 (zr P none c).rg := by kernel_rfl) : G P Q A c W := by
 subst hu
 refine zdo (ι := Unit) I none (fun _ => undef) (fun _ => b0s w0.heap.size e p cc (vs.set j v) :: pick is fs) (fun A W I => ?_) (fun A W _ I => h A W I) hv hr hm
 have hown := I.fa.1
 have hs := l1i hown j hj v
 have h3 := hown.rd.cells j hj
 rw [List.getElem?_eq_getElem hj] at h3
 have hps : p.isSome = true := (hown.rd.solid (by omega)).1
 obtain ⟨i, hi, hz, hsz, hb⟩ := hty.hi
 refine ⟨(), _, ⟨?_, rfl⟩, (I.pk is).redo (some (blk p)) hs.2.1 (fun k hk => ?_) hrw _ hs.1 fun a h => .inl h⟩
 · simp only [Instr.storeAt, Instr.sureAddr]
   have ha : (at_ p j).add 0 = at_ p j := by simp [Addr.add]
   simp [storeVar, sizeOf, typeInfo, hi, hsz, h1, storeCells, ha]
   rw [run_store P W _ v _ h5, h3]
   simp [l1j hown j hj]
 · cases hk
   exact ⟨⟨hps, rfl⟩, hs.2.2, hfar A W I hps⟩
theorem zapv {e : TypeId} {p : OA} {cc : Nat} {vs us : List Value} (I : Inv E w0 A c.bx (b0s w0.heap.size e p cc vs :: fs) W) (is : List Nat) {t : TypeId} {z : Value} {bytes : Nat} (hty : j0o P t e z bytes) (ty n m l : Nat) (q : List Nat → OA) (c2 : Nat) (ys : List Value) (hn : n = vs.length) (hm2 : m = ys.length) (hl : n + m = l) (hb : l ≤ 4000000000) (hu : vs ++ ys = us)
 (hrd : ∀ A W, Inv E w0 A (zr P none c).bx (b0s w0.heap.size e p cc vs :: fs) W → RdV W (q A) ys)
 (hfar : ∀ A W, Inv E w0 A (zr P none c).bx (b0s w0.heap.size e p cc vs :: fs) W → p.isSome = true → PF.far (blk p) (pick is fs))
 (h : ∀ A W p' c', Inv E w0 A (putc (zr P none c) (.v (.slice p' l c'))).bx (b0s w0.heap.size e p' c' us :: pick is fs) W → G P Q A (putc (zr P none c) (.v (.slice p' l c'))) W)
 (hone : ys.all (·.oneCell') = true := by rfl)
 (hv : ∀ A, woOf (zr P none c) A = some (.ap t ty (.slice p n cc) (.slice (q A) m c2)) := by intro _; kernel_rfl)
 (hr : ∀ A w, (zms P none 5000 c A w).map (·.1) = (zms P none 5000 c A w).map (·.2) := by intro _ _; kernel_rfl)
 (hrw : k0x (zr P none c).bx = true := by kernel_rfl)
 (hm : ok1 (zr P none c).rg (zr P none c).bx = ok2 (zr P none c).rg := by kernel_rfl) : G P Q A c W := by
 subst hu hn hm2 hl
 refine zdo (ι := OA × Nat) I none (fun x => .slice x.1 (vs.length + ys.length) x.2) (fun x => b0s w0.heap.size e x.1 x.2 (vs ++ ys) :: pick is fs) (fun A W I => ?_) (fun A W x I => h A W x.1 x.2 I) hv hr hm
 have hown := I.fa.1
 obtain ⟨p', c', W', h1, h2, h3, h4⟩ := j0x (P := P) W hty ty w0.heap.size p cc vs hown (q A) c2 ys (hrd A W I) hone (by have := Nat.mul_le_mul hb hty.le; omega) (by simp only [maxLen]; omega) I.bel.size
 refine ⟨(p', c'), W', h1, (I.pk is).redo (p.map (·.block)) h3 (fun k hk => ?_) hrw _ h2 fun a ha => ?_⟩
 · cases p with
   | none => cases hk
   | some a =>
    cases hk
    exact ⟨⟨rfl, rfl⟩, (hown.blk_lt rfl).1, hfar A W I rfl⟩
 · rcases h4 ha.1 with h | h
   · exact .inl ⟨h.1, h.2.symm.trans ha.2⟩
   · exact .inr (Nat.le_of_eq (h.symm.trans ha.2))
theorem zmk (I : Inv E w0 A c.bx fs W) (d : Nat) {t e : TypeId} {z : Value} {bytes : Nat} (hty : j0o P t e z bytes) (n : Nat) (us : List Value) (hb : n ≤ 4000000000) (hu : List.replicate n z = us)
 (h : ∀ A W p c', Inv E w0 A (putc (zr P (some d) c) (.v (.slice p n c'))).bx (b0s w0.heap.size e p c' us :: fs) W → G P Q A (putc (zr P (some d) c) (.v (.slice p n c'))) W)
 (hv : ∀ A, woOf (zr P (some d) c) A = some (.mk t (.int .i64 (n : Int)) (.int .i64 (n : Int))) := by intro _; kernel_rfl)
 (hr : ∀ A w, (zms P (some d) 5000 c A w).map (·.1) = (zms P (some d) 5000 c A w).map (·.2) := by intro _ _; kernel_rfl)
 (hm : ok1 (zr P (some d) c).rg (zr P (some d) c).bx = ok2 (zr P (some d) c).rg := by kernel_rfl) : G P Q A c W := by
 subst hu
 refine zdo (ι := OA × Nat) I (some d) (fun x => .slice x.1 n x.2) (fun x => b0s w0.heap.size e x.1 x.2 (List.replicate n z) :: fs) (fun A W I => ?_) (fun A W x I => h A W x.1 x.2 I) hv hr hm
 obtain ⟨i, hi, hz, hs, hbt⟩ := hty.hi
 obtain ⟨W', hr, h1, h2⟩ := run_make_full (P := P) W W.heap.size t e i z 1 hty.ht hi hz hs .i64 .i64 n (by rw [hbt]; have := Nat.mul_le_mul hty.le hb; omega) (by simp only [maxLen]; omega) (Nat.le_refl _)
 have h3 : OwnV W' W.heap.size e (some ⟨W.heap.size, 0, none⟩) n (List.replicate n z) := by
  unfold OwnV
  rw [List.length_replicate]
  have : (madeCells (Value.cells z) (n * 1)).toList = List.replicate n z := by
   rw [Nat.mul_one, hty.hz]; exact toList_madeCells_one _ _
  rw [← this]
  exact h1
 exact ⟨(_, _), W', hr, I.addNew (c0q h2 (Nat.le_refl _) fun k hk => by cases hk) _ (h3.mono I.bel.size) fun a ha => ha.2 ▸ (h3.blk_lt ha.1).1⟩
theorem zby (I : Inv E w0 A c.bx fs W) (d : Nat) {src dst e : TypeId} (hs : P.underlying src = some .string) (hdt : P.underlying dst = some (.slice e)) (he : P.underlying e = some (.int .u8)) (s : ByteArray)
 (h : ∀ A W p c', Inv E w0 A (putc (zr P (some d) c) (.v (.slice p s.size c'))).bx (wrF w0.heap.size .u8 p (a0b s) :: fs) W → G P Q A (putc (zr P (some d) c) (.v (.slice p s.size c'))) W)
 (hv : ∀ A, woOf (zr P (some d) c) A = some (.cv src dst (.string s)) := by intro _; kernel_rfl)
 (hr : ∀ A w, (zms P (some d) 5000 c A w).map (·.1) = (zms P (some d) 5000 c A w).map (·.2) := by intro _ _; kernel_rfl)
 (hm : ok1 (zr P (some d) c).rg (zr P (some d) c).bx = ok2 (zr P (some d) c).rg := by kernel_rfl) : G P Q A c W := by
 refine zdo (ι := OA × Nat) I (some d) (fun x => .slice x.1 s.size x.2) (fun x => wrF w0.heap.size .u8 x.1 (a0b s) :: fs) (fun A W I => ?_) (fun A W x I => h A W x.1 x.2 I) hv hr hm
 have h3 := q0a W e s
 exact ⟨(_, _), _, Lib.run_convert_string_bytes (P := P) W src dst e s hs hdt he, I.addNew (e0r (Nat.le_refl _) e s) _ (h3.mono I.bel.size) fun a ha => ha.2 ▸ h3.from_ ha.1⟩
theorem zlo (I : Inv E w0 A c.bx fs W) (d n : Nat) (t : TypeId) (cs : List Value)
 (h : ∀ A W b, ((some ⟨b, 0, none⟩ : OA).isSome = true → PF.far b fs) → Inv E w0 A (putc (zr P (some d) c) (.v (.slice (some ⟨b, 0, none⟩) n n))).bx (b0s w0.heap.size t (some ⟨b, 0, none⟩) n cs :: fs) W → G P Q A (putc (zr P (some d) c) (.v (.slice (some ⟨b, 0, none⟩) n n))) W)
 (hn : cs.toArray.size = n := by rfl) (hl : Nat.ble n 1000 = true := by rfl)
 (ho : ∀ A w, g0u P (zr P (some d) c) A w = some (.ok (.value (.slice (some ⟨w.heap.size, 0, none⟩) n n)) (w.alloc (.cells cs.toArray t))) := by intro _ _; kernel_rfl)
 (hr : ∀ A w, (zms P (some d) 5000 c A w).map (·.1) = (zms P (some d) 5000 c A w).map (·.2) := by intro _ _; kernel_rfl)
 (hm : ok1 (zr P (some d) c).rg (zr P (some d) c).bx = ok2 (zr P (some d) c).rg := by kernel_rfl) : G P Q A c W :=
 b0b I hr fun A W I => by
  have ho := ho A W
  have h := h A
  clear hr
  generalize zr P (some d) c = c at *
  unfold g0u at ho
  split at ho
  · rename_i o hn9
    split at ho
    · rename_i hw
      refine G_op (E := E) (w0 := w0) (fs := []) hn9 fun K hK => w0c o.dst rfl (.slice (some ⟨W.heap.size, 0, none⟩) n n) cs.toArray t (by rw [d0h]; exact hw) (by rw [b0f]; exact Option.some.inj ho) fun W' hb _ hB => ?_
      have hv : OwnV W' w0.heap.size t (some ⟨W.heap.size, 0, none⟩) n cs := by
       subst hn
       unfold OwnV
       have := Nat.le_of_ble_eq_true hl
       exact ⟨by simp, .inr ⟨W.heap.size, _, cs.toArray, rfl, I.bel.size, hB, by simp, by simp only [maxLen]; omega, by simp, by simp⟩⟩
      have I2 := I.addNew hb (b0s w0.heap.size t (some ⟨W.heap.size, 0, none⟩) n cs) hv fun a ha => Nat.le_of_eq ha.2
      have h := h W' W.heap.size (fun _ => PF.far_new I.fa) I2
      unfold putc at h
      rw [hn9] at h
      have := hK A W' _ c.bx (List.prefix_refl _) (I2.pick []) hm h
      rw [show Value.slice (some ⟨W.heap.size, 0, none⟩) n n = (SV.v (.slice (some ⟨W.heap.size, 0, none⟩) n n)).r A from rfl, b0t]
      exact this
    · cases ho
  · cases ho
theorem zsp {g : PF} (I : Inv E w0 A c.bx (f :: fs) W) (is : List Nat) (q : Nat) {fn : FuncId} {args : List Nat → World → Array Value} {v : Value} (hf : ∀ args w, (callFunc fn args).run P w = .ok (.enter fn args) w)
 (hc : ∀ A W, Inv E w0 A (zr P none c).bx (f :: fs) W → Calls P fn (args A W) W fun e w' => e = .returned v ∧ g.prop w' ∧ W.grownBy w' (some q))
 (hq : ∀ A W, Inv E w0 A (zr P none c).bx (f :: fs) W → f.foot q ∧ w0.heap.size ≤ q ∧ PF.far q (pick is fs)) (hfo : ∀ a, g.foot a → f.foot a)
 (h : ∀ A W, Inv E w0 A (putc (zr P none c) (.v v)).bx (g :: pick is fs) W → G P Q A (putc (zr P none c) (.v v)) W)
 (ho : ∀ A w, s0a (zr P none c) A = some (.func (.func fn) #[] #[], args A w) := by intro _ _; kernel_rfl)
 (hr : ∀ A w, (zms P none 5000 c A w).map (·.1) = (zms P none 5000 c A w).map (·.2) := by intro _ _; kernel_rfl)
 (hrw : k0x (zr P none c).bx = true := by kernel_rfl)
 (hm : ok1 (zr P none c).rg (zr P none c).bx = ok2 (zr P none c).rg := by kernel_rfl) : G P Q A c W :=
 b0b I hr fun A V I => by
  have h := h A
  have ho := p0u (P := P) (W := V) (ho A V) (hf _)
  have hc := hc A V I
  have hq := hq A V I
  unfold g0u at ho
  split at ho
  · rename_i o hn
    split at ho
    · rename_i hw
      refine G_op (E := E) (w0 := w0) (fs := g :: pick is fs) hn fun K hK => h0b o.dst rfl fn _ (by rw [d0h]; exact hw) (by rw [b0f]; exact Option.some.inj ho) (hc.mono fun e W' hp => ?_)
      obtain ⟨rfl, h1, h2⟩ := hp
      have J := (I.pk is).redo (some q) h2 (fun k hk => by cases hk; exact hq) hrw g h1 fun a ha => .inl (hfo a ha)
      refine ⟨_, rfl, ?_⟩
      have := h W' J
      unfold putc at this
      rw [hn] at this
      have := hK A W' _ (zr P none c).bx (List.prefix_refl _) J hm this
      rw [← b0t] at this
      exact this
    · cases ho
  · cases ho
end
def vB (xs : List Nat) : List Value := xs.map fun x : Nat => Value.int .u8 (x : Int)
theorem o0v (xs : List Nat) : (vB xs).length = xs.length := List.length_map ..
theorem k1b (n : Nat) : List.replicate n (Value.int .u8 0) = vB (List.replicate n 0) := by unfold vB; rw [List.map_replicate]; rfl
theorem k1c (xs : List Nat) (i n : Nat) : (vB xs).set i (.int .u8 (n : Int)) = vB (xs.set i n) := by unfold vB; rw [List.map_set]
theorem k1d {w : World} {base : Nat} {e : TypeId} {p : OA} {c : Nat} {xs : List Nat} (h : OwnV w base e p c (vB xs)) : Own w base .u8 e p c xs := f1t h
end Go.Slip
namespace Go.Slip
open Go.RowKit Go.MapKept
section
variable {P : Program} {w : World} {ik : IntKind}
theorem h0g (ik : IntKind) (k : Int) : IsKey (.int ik) (.int ik k) := by first | rfl | (simp [IsKey]) | (cases ik <;> rfl)
theorem e0e {mt kt vt : TypeId} (hm : P.underlying mt = some (.map kt vt)) (hk : P.underlying kt = some (.int ik)) (es : Array MapEntry) (clock : Nat) (k : Int) (v : Value)
 (hf : Instr.findNow (.int ik) (.int ik k) es.toList 0 = some none) :
 (Instr.mapUpdate mt (.map (some w.heap.size)) (.int ik k) v).run P (w.alloc (.map es clock)) = .ok () (w.alloc (.map (es.push ⟨.int ik k, v, clock⟩) (clock + 1))) := by
 have hb : (w.alloc (.map es clock)).heap[w.heap.size]? = some (.map es clock) := by show (w.heap.push _)[_]? = _; simp
 simp [Instr.mapUpdate, run_underlying hm, MapKept.run_getObj_map hb, run_checkKey hk (h0g ik k), run_findKey hk hf, run_setObj_map _ hb, Result.andThen]
 have e : (w.heap.push (.map es clock)).setIfInBounds w.heap.size (.map (es.push ⟨.int ik k, v, clock⟩) (clock + 1)) = w.heap.push (.map (es.push ⟨.int ik k, v, clock⟩) (clock + 1)) := by
  apply Array.ext'
  simp
 show World.mk _ _ _ _ _ = World.mk _ _ _ _ _
 congr 1
theorem f0s {mt kt vt : TypeId} {b : Nat} {es : Array MapEntry} {clock : Nat} (hm : P.underlying mt = some (.map kt vt)) (hk : P.underlying kt = some (.int ik)) (hb : w.heap[b]? = some (.map es clock)) (k : Int)
 {i : Nat} {v : Value} (hf : Instr.findNow (.int ik) (.int ik k) es.toList 0 = some (some (i, v))) :
 (Instr.lookup mt (.map (some b)) (.int ik k) false).run P w = .ok v w := by
 simp [Instr.lookup, run_underlying hm, MapKept.run_getObj_map hb, run_checkKey hk (h0g ik k), run_findKey hk hf, Result.andThen]
theorem h0h {mt kt vt : TypeId} {b : Nat} {es : Array MapEntry} {clock : Nat} {z : Value} (hm : P.underlying mt = some (.map kt vt)) (hk : P.underlying kt = some (.int ik)) (hb : w.heap[b]? = some (.map es clock)) (k : Int)
 (hz : (zeroValue vt).run P w = .ok z w) (hf : Instr.findNow (.int ik) (.int ik k) es.toList 0 = some none) :
 (Instr.lookup mt (.map (some b)) (.int ik k) false).run P w = .ok z w := by
 simp [Instr.lookup, run_underlying hm, MapKept.run_getObj_map hb, run_checkKey hk (h0g ik k), run_findKey hk hf, Result.andThen, hz]
theorem y0k {ops : Array Oper} {rest : List Oper} {o : Oper} {a : Act} {Q : Exit → Act → World → Prop}
 (hg : o.guard = none) (m x v : Operand) (t : TypeId) (hop : o.op = Op.insert t m x v) {kt vt : TypeId} (hm : P.underlying t = some (.map kt vt)) (hk : P.underlying kt = some (.int ik)) {es : Array MapEntry} {clock : Nat} {k : Int} {val : Value}
 (h1 : a.eval m = .map (some w.heap.size)) (h2 : a.eval x = .int ik k) (h3 : a.eval v = val) (hf : Instr.findNow (.int ik) (.int ik k) es.toList 0 = some none)
 (h : wpList P ops Q rest (a.put o.dst undef) (w.alloc (.map (es.push ⟨.int ik k, val, clock⟩) (clock + 1)))) : wpList P ops Q (o :: rest) a (w.alloc (.map es clock)) := by
 refine wpList_plain hg fun K' hK' => ?_
 unfold Oper.wp
 simp [execOp, hop, h1, h2, h3, e0e hm hk es clock k val hf, Result.andThen]
 exact hK' _ _ h
end
def mapF (b : Nat) (es : Array MapEntry) (clock : Nat) : PF :=
 ⟨fun w => w.heap[b]? = some (.map es clock), fun a => b = a, fun _ _ h hb _ => (hb b (Array.getElem?_eq_some_iff.1 h).1 rfl).trans h, fun _ _ h hf => hf ▸ (Array.getElem?_eq_some_iff.1 h).1⟩
theorem q0j {w : World} {b base : Nat} {es : Array MapEntry} {clock : Nat} {k : IntKind} {e : TypeId} {q : OA} {c : Nat} {xs : List Nat} (h : w.heap[b]? = some (.map es clock)) (o : Own w base k e q c xs) : ¬ (q.isSome = true ∧ blk q = b) := by
 rintro ⟨hq, he⟩
 rcases o.2 with ⟨h1, h2⟩ | ⟨g', cap', cur', hv', hb', hg', _⟩
 · simp only [Value.slice.injEq] at h1
   rw [h1.1] at hq; cases hq
 · simp only [Value.slice.injEq] at hv'
   rw [hv'.1] at he
   have hE : g' = b := he
   subst hE
   have := h.symm.trans hg'
   simp at this
section
variable {P : Program} {ops : Array Oper} {o : Oper} {a : Act} {Q : Exit → Act → World → Prop} {w w' : World} {K : Act → World → Prop}
theorem o1x (d : Option Tmp) (hd : o.dst = d) (v : Value) (hw : Region.wanted o (yielded ops a.tmps) = true) (hr : (execOp a.eval o).run P w = .ok (.value v) w') (h : K (a.put d v) w') : OpW P ops Q o K a w := by
 subst hd
 refine ⟨?_⟩
 rw [if_pos hw]
 unfold Oper.wp
 rw [hr]
 exact h
theorem c1g (d : Option Tmp) (hd : o.dst = d) (hw : Region.wanted o (yielded ops a.tmps) = true) (hr : (execOp a.eval o).run P w = .ok .skip w') (h : K (a.put d undef) w') : OpW P ops Q o K a w := by
 subst hd
 refine ⟨?_⟩
 rw [if_pos hw]
 unfold Oper.wp
 rw [hr]
 exact h
theorem q0k {ik : IntKind} {mt kt vt : TypeId} (hm : P.underlying mt = some (.map kt vt)) (hk : P.underlying kt = some (.int ik)) {b : Nat} {es : Array MapEntry} {clock : Nat} (hb : w.heap[b]? = some (.map es clock)) (k : Int) (v : Value)
 (hf : Instr.findNow (.int ik) (.int ik k) es.toList 0 = some none) :
 (Instr.mapUpdate mt (.map (some b)) (.int ik k) v).run P w = .ok () { w with heap := w.heap.setIfInBounds b (.map (es.push ⟨.int ik k, v, clock⟩) (clock + 1)) } := by
 simp [Instr.mapUpdate, run_underlying hm, MapKept.run_getObj_map hb, run_checkKey hk (h0g ik k), run_findKey hk hf, run_setObj_map _ hb, Result.andThen]
end
section
variable {P : Program} {Q : Exit → Act → World → Prop} {E : List Nat} {w0 : World} {A : List Nat} {fs : List PF} {W V : World} {c : Cfg}
def mkOf (c : Cfg) : Option TypeId :=
 match hdOp c with
 | some ⟨_, .makeMap t none, _, _, _, _⟩ => some t
 | _ => none
theorem zmkm (I : Inv E w0 A c.bx fs W) (t : TypeId) (h : ∀ A W b, w0.heap.size ≤ b → Inv E w0 A (putc (zr P none c) (.v (.map (some b)))).bx (mapF b #[] 0 :: fs) W → G P Q A (putc (zr P none c) (.v (.map (some b)))) W)
 (ho : mkOf (zr P none c) = some t := by kernel_rfl)
 (hr : ∀ A w, (zms P none 5000 c A w).map (·.1) = (zms P none 5000 c A w).map (·.2) := by intro _ _; kernel_rfl)
 (hm : ok1 (zr P none c).rg (zr P none c).bx = ok2 (zr P none c).rg := by kernel_rfl) : G P Q A c W :=
 b0b I hr fun A W I => by
  have h2 := h A
  clear hr h
  generalize zr P none c = c at *
  unfold mkOf hdOp at ho
  split at ho
  · rename_i hn'
    split at hn'
    · rename_i o' hn
      split at hn'
      · rename_i hw
        simp only [Option.some.injEq] at hn' ho
        subst hn' ho
        have hbl : Below W.heap.size W (W.alloc (.map #[] 0)) := (Below.refl _ _).alloc (Nat.le_refl _) _
        have hb : (W.alloc (.map #[] 0)).heap[W.heap.size]? = some (.map #[] 0) := by show (W.heap.push _)[_]? = _; simp
        have I2 := (I.past hbl).add (mapF W.heap.size #[] 0) hb (fun a ha hf => by have := I.lt a ha; have hf : W.heap.size = a := hf; omega)
        refine G_op (E := E) (w0 := w0) (fs := []) hn fun K hK => o1x _ rfl (.map (some W.heap.size)) (by rw [d0h]; exact hw) (w' := W.alloc (.map #[] 0)) ?_ ?_
        · unfold execOp
          simp only [Option.map_none, run_makeMap, Sem.run_bind, Result.andThen_ok, Sem.run_pure]
        · have h := h2 _ _ I.bel.size I2
          unfold putc at h
          rw [hn] at h
          have := hK A _ _ c.bx (List.prefix_refl _) (I2.pick []) hm h
          rw [show Value.map (some W.heap.size) = (SV.v (.map (some W.heap.size))).r A from rfl, b0t]
          exact this
      · cases hn'
    · cases hn'
  · cases ho
def o1y (c : Cfg) (A : List Nat) : Option (TypeId × Value × Value × Value) :=
 match hdOp c with
 | some ⟨_, .insert t m k x, _, _, _, _⟩ => some (t, evr A c.fr m, evr A c.fr k, evr A c.fr x)
 | _ => none
theorem zins {b : Nat} {es : Array MapEntry} {clock : Nat} (I : Inv E w0 A c.bx (mapF b es clock :: fs) W) {t : TypeId} {ik : IntKind} {kt vt : TypeId} (hmt : P.underlying t = some (.map kt vt)) (hk : P.underlying kt = some (.int ik)) (k : Int) (v : Value) (hge : w0.heap.size ≤ b)
 (hfar : ∀ A W, Inv E w0 A (zr P none c).bx (mapF b es clock :: fs) W → PF.far b fs)
 (h : ∀ A W, Inv E w0 A (putc (zr P none c) (.v undef)).bx (mapF b (es.push ⟨.int ik k, v, clock⟩) (clock + 1) :: fs) W → G P Q A (putc (zr P none c) (.v undef)) W)
 (hf : Instr.findNow (.int ik) (.int ik k) es.toList 0 = some none := by kernel_rfl)
 (ho : ∀ A, o1y (zr P none c) A = some (t, .map (some b), .int ik k, v) := by intro _; kernel_rfl)
 (hr : ∀ A w, (zms P none 5000 c A w).map (·.1) = (zms P none 5000 c A w).map (·.2) := by intro _ _; kernel_rfl)
 (hrw : k0x (zr P none c).bx = true := by kernel_rfl)
 (hm : ok1 (zr P none c).rg (zr P none c).bx = ok2 (zr P none c).rg := by kernel_rfl) : G P Q A c W :=
 b0b I hr fun A W I => by
  have ho2 := ho A
  have h2 := h A
  have hfar2 := hfar A W I
  clear hr h ho hfar
  generalize zr P none c = c at *
  unfold o1y hdOp at ho2
  split at ho2
  · rename_i hn'
    simp only [Option.some.injEq, Prod.mk.injEq] at ho2
    obtain ⟨rfl, o1, o2, o3⟩ := ho2
    split at hn'
    · rename_i o' hn
      split at hn'
      · rename_i hw
        simp only [Option.some.injEq] at hn'
        subst hn'
        have hb : W.heap[b]? = some (.map es clock) := I.fa.1
        have hbl := (Array.getElem?_eq_some_iff.1 hb).1
        have keep : ∀ j, j ≠ b → (W.heap.setIfInBounds b (.map (es.push ⟨.int ik k, v, clock⟩) (clock + 1)))[j]? = W.heap[j]? := fun j hj => Array.getElem?_setIfInBounds_ne (Ne.symm hj)
        have I2 : Inv E w0 A c.bx (mapF b (es.push ⟨.int ik k, v, clock⟩) (clock + 1) :: fs) { W with heap := W.heap.setIfInBounds b (.map (es.push ⟨.int ik k, v, clock⟩) (clock + 1)) } := by
         refine ⟨⟨I.bel.os, I.bel.tape, I.bel.output, by simp only [Array.size_setIfInBounds]; exact I.bel.size, fun j hj hjE => ?_⟩, I.ge, I.nd, I.len, I.pre, fun j hj => ?_, ⟨?_, ?_⟩, fun a ha => ⟨(I.far a ha).1, (I.far a ha).2⟩⟩
         · rw [keep j (by omega)]
           exact I.bel.block j hj hjE
         · have hF : Fa A c.bx (lk 0 A j) := ⟨j, hj, g0b hrw j hj, rfl⟩
           have h1 := I.bt j hj
           unfold Bt at h1 ⊢
           rw [keep _ (fun e => (I.far _ hF).1 e.symm)]
           exact h1
         · show (W.heap.setIfInBounds b _)[b]? = _
           simp [hbl]
         · refine PF.all_keep (by simp) I.fa.2 fun j hj ha => keep j fun e => ha _ hfar2 e.symm
        refine G_op (E := E) (w0 := w0) (fs := []) hn fun K hK => c1g _ rfl (by rw [d0h]; exact hw) (w' := { W with heap := W.heap.setIfInBounds b (.map (es.push ⟨.int ik k, v, clock⟩) (clock + 1)) }) ?_ ?_
        · rw [b0f]
          unfold execOp
          simp only [o1, o2, o3, Sem.run_bind, q0k hmt hk hb k v hf, Result.andThen_ok, Sem.run_pure]
        · have h := h2 _ I2
          unfold putc at h
          rw [hn] at h
          have := hK A _ _ c.bx (List.prefix_refl _) (I2.pick []) hm h
          rw [show undef = (SV.v undef).r A from rfl, b0t]
          exact this
      · cases hn'
    · cases hn'
  · cases ho2
theorem o1z {ik : IntKind} {t kt vt : TypeId} (hm : P.underlying t = some (.map kt vt)) (hk : P.underlying kt = some (.int ik)) {b : Nat} {es : Array MapEntry} {clock : Nat} (hb : W.heap[b]? = some (.map es clock)) (k : Int) {v : Value} (hf : ∃ i, Instr.findNow (.int ik) (.int ik k) es.toList 0 = some (some (i, v))) :
 (VO.lk t (.map (some b)) (.int ik k) false).sem.run P W = .ok v W := by
 obtain ⟨i, hf⟩ := hf
 exact f0s hm hk hb k hf
end
theorem OwnV.take {w : World} {base : Nat} {e : TypeId} {p : OA} {c : Nat} {vs : List Value} (h : OwnV w base e p c vs) (n : Nat) : OwnV w base e p c (vs.take n) := by
 by_cases hn : vs.length ≤ n
 · rw [List.take_of_length_le hn]; exact h
 · refine ⟨by simp, ?_⟩
   rcases h.2 with ⟨h1, h2⟩ | ⟨g, cap, cur, hv, hbg, hg, hnc, hc, hcs, htake⟩
   · omega
   · simp only [Value.slice.injEq] at hv
     obtain ⟨rfl, _, rfl⟩ := hv
     have hl : (vs.take n).length = n := by simp; omega
     refine .inr ⟨g, c, cur, by rw [hl], hbg, hg, by omega, hc, hcs, ?_⟩
     rw [hl, Nat.mul_one, ← htake, List.take_take]
     congr 1
     omega
/-! ### A world cut off -/
def cutW (w : World) (B : Nat) : World := { w with heap := w.heap.extract 0 B }
theorem e0m {w : World} {B : Nat} (h : B ≤ w.heap.size) : (cutW w B).heap.size = B := by
 show (w.heap.extract 0 B).size = B
 simp only [Array.size_extract]
 omega
theorem w0n {w : World} {B k : Nat} (h : B ≤ w.heap.size) (hk : k < B) : (cutW w B).heap[k]? = w.heap[k]? := by
 show (w.heap.extract 0 B)[k]? = _
 rw [Array.getElem?_extract, if_pos (by omega), Nat.zero_add]
def y0l (w : World) (S : Nat → Prop) : PF :=
 ⟨fun W => w.heap.size ≤ W.heap.size ∧ ∀ b, b < w.heap.size → S b → W.heap[b]? = w.heap[b]?, fun b => b < w.heap.size ∧ S b,
  fun _ _ h hb hs => ⟨Nat.le_trans h.1 hs, fun b hl hS => (hb b (Nat.lt_of_lt_of_le hl h.1) ⟨hl, hS⟩).trans (h.2 b hl hS)⟩,
  fun _ _ h hf => Nat.lt_of_lt_of_le hf.1 h.1⟩
def offS (bw : Nat) (p : OA) (b : Nat) : Prop := b ≠ bw ∧ ¬ (p.isSome = true ∧ blk p = b)
structure Wk (T e : TypeId) (B bw : Nat) (f a g r : Int) (p : OA) (c : Nat) (vs : List Value) (w : World) : Prop where
 bt : Bt w bw T #[.int .i64 f, .int .i64 a, .int .i64 g, .int .i64 r, .slice p vs.length c]
 own : OwnV w B e p c vs
 ne : p.isSome = true → blk p ≠ bw
 ge : B ≤ bw
 pos : 0 < B
structure WkTo (bw : Nat) (p p' : OA) (w w' : World) : Prop where
 os : w'.os = w.os
 tape : w'.tape = w.tape
 output : w'.output = w.output
 size : w.heap.size ≤ w'.heap.size
 keep : ∀ b, b < w.heap.size → offS bw p b → w'.heap[b]? = w.heap[b]?
 at_ : p'.isSome = true → (p.isSome = true ∧ blk p' = blk p) ∨ w.heap.size ≤ blk p'
def PF.foots : List PF → Nat → Prop
 | [], _ => False
 | f :: l, a => f.foot a ∨ PF.foots l a
theorem PF.all_app {W : World} : ∀ {l m : List PF}, PF.all W l → PF.all W m → PF.all W (l ++ m)
 | [], _, _, h => h
 | _ :: _, _, h, k => ⟨h.1, PF.all_app h.2 k⟩
theorem PF.far_app {a : Nat} : ∀ {l m : List PF}, ¬ PF.foots l a → PF.far a m → PF.far a (l ++ m)
 | [], _, _, h => h
 | _ :: _, _, h, k => ⟨fun hf => h (.inl hf), PF.far_app (fun hf => h (.inr hf)) k⟩
theorem c1h {w : World} {b : Nat} {t : TypeId} {vs : List Value} (h : Bt w b t vs.toArray) : RdV w (some ⟨b, 0, none⟩) vs := by
 refine ⟨fun _ => ⟨rfl, rfl⟩, fun j hj => ?_⟩
 have := h.bx.cell j
 rw [show at_ (some ⟨b, 0, none⟩) j = ⟨b, j, none⟩ by simp [at_]]
 rw [this]
 simp
theorem a0r {w : World} {b a : Nat} {es : Array MapEntry} {cl : Nat} {t : TypeId} {vs : Array Value} (h : w.heap[b]? = some (.map es cl)) (k : Bt w a t vs) : ¬ a = b := fun e => by
 subst e
 unfold Bt at k
 rw [h] at k
 cases k
section
variable {P : Program} {Q : Exit → Act → World → Prop} {E : List Nat} {w0 : World} {A : List Nat} {fs : List PF} {f : PF} {W W' : World} {c : Cfg}
theorem Inv.startM {T e : TypeId} {B bw : Nat} {f a g r : Int} {p : OA} {c : Nat} {vs : List Value} {v : World} (h : Wk T e B bw f a g r p c vs v) (gs : List PF) (hg : PF.all v gs) (hf : PF.far bw gs) :
 ∃ w : World, w.heap.size = B ∧ (w.os = v.os ∧ w.tape = v.tape ∧ w.output = v.output) ∧ Inv [bw] w [bw] [⟨T, [.v (.int .i64 f), .v (.int .i64 a), .v (.int .i64 g), .v (.int .i64 r), .v (.slice p vs.length c)], false⟩] (b0s w.heap.size e p c vs :: y0l v (offS bw p) :: gs) v := by
 have hB : B ≤ v.heap.size := Nat.le_trans h.ge (Nat.le_of_lt h.bt.lt)
 have hF : ∀ (cs : List SV) a, Fa [bw] [⟨T, cs, false⟩] a → a = bw := fun cs a ⟨k, hk, _, e⟩ => by
  obtain rfl : k = 0 := by simpa using hk
  exact e
 refine ⟨cutW v B, e0m hB, ⟨rfl, rfl, rfl⟩, ⟨rfl, rfl, rfl, by rw [e0m hB]; exact hB, fun k hk _ => ?_⟩, fun a h => .inr (by rw [hF _ a h]; simp), fun i j hi hj _ hn => ?_, rfl, List.prefix_refl _, fun k hk => ?_, ⟨?_, ⟨Nat.le_refl _, fun _ _ _ => rfl⟩, hg⟩, fun a ha => ?_⟩
 · rw [e0m hB] at hk
   rw [w0n hB hk]
 · simp at hi hj
   omega
 · obtain rfl : k = 0 := by simpa using hk
   exact h.bt
 · show OwnV _ _ _ _ _ _
   rw [e0m hB]
   exact h.own
 · rw [hF _ a ha]
   exact ⟨fun hf => h.ne hf.1 hf.2, fun hf => hf.2.1 rfl, hf⟩
theorem WkTo.of {bw : Nat} {p p' : OA} {v : World} {bx : List Box} (I : Inv E w0 A bx fs W) (h0 : w0.os = v.os ∧ w0.tape = v.tape ∧ w0.output = v.output) (hk : (y0l v (offS bw p)).prop W) (hat : p'.isSome = true → (p.isSome = true ∧ blk p' = blk p) ∨ v.heap.size ≤ blk p') : WkTo bw p p' v W :=
 ⟨I.bel.os.trans h0.1, I.bel.tape.trans h0.2.1, I.bel.output.trans h0.2.2, hk.1, hk.2, hat⟩
def m1c (bw cb : Nat) (p : OA) (b : Nat) : Prop := (b ≠ bw ∧ b ≠ cb) ∧ ¬ (p.isSome = true ∧ blk p = b)
theorem Inv.startM2 {T e : TypeId} {B bw : Nat} {f a g r : Int} {p : OA} {c : Nat} {vs : List Value} {v : World} (h : Wk T e B bw f a g r p c vs v) {cb : Nat} {t2 : TypeId} (cs2 : List Value) (h2 : Bt v cb t2 cs2.toArray) (hne : cb ≠ bw) (hrow : p.isSome = true → blk p ≠ cb) (gs : List PF) (hg : PF.all v gs) (hf : PF.far bw gs) (hf2 : PF.far cb gs) :
 ∃ w : World, w.heap.size = B ∧ (w.os = v.os ∧ w.tape = v.tape ∧ w.output = v.output) ∧ Inv [bw, cb] w [bw, cb] [⟨T, [.v (.int .i64 f), .v (.int .i64 a), .v (.int .i64 g), .v (.int .i64 r), .v (.slice p vs.length c)], false⟩, ⟨t2, cs2.map .v, false⟩] (b0s w.heap.size e p c vs :: y0l v (m1c bw cb p) :: gs) v := by
 have hB : B ≤ v.heap.size := Nat.le_trans h.ge (Nat.le_of_lt h.bt.lt)
 have hF : ∀ (cs cs' : List SV) a, Fa [bw, cb] [⟨T, cs, false⟩, ⟨t2, cs', false⟩] a → a = bw ∨ a = cb := fun cs cs' a ⟨k, hk, _, e⟩ => by
  match k, hk, e with
  | 0, _, e => exact .inl e
  | 1, _, e => exact .inr e
  | k + 2, hk, _ => exact absurd (show k + 2 < 2 from hk) (by omega)
 refine ⟨cutW v B, e0m hB, ⟨rfl, rfl, rfl⟩, ⟨rfl, rfl, rfl, by rw [e0m hB]; exact hB, fun k hk _ => ?_⟩, fun a h => .inr (by rcases hF _ _ a h with rfl | rfl <;> simp), fun i j hi hj _ hn => ?_, rfl, List.prefix_refl _, fun k hk => ?_, ⟨?_, ⟨Nat.le_refl _, fun _ _ _ => rfl⟩, hg⟩, fun a ha => ?_⟩
 · rw [e0m hB] at hk
   rw [w0n hB hk]
 · match i, j, hi, hj, hn with
   | 0, 0, _, _, hn => exact (hn rfl).elim
   | 0, 1, _, _, _ => exact Ne.symm hne
   | 1, 0, _, _, _ => exact hne
   | 1, 1, _, _, hn => exact (hn rfl).elim
   | i + 2, _, hi, _, _ => exact absurd (show i + 2 < 2 from hi) (by omega)
   | 0, j + 2, _, hj, _ => exact absurd (show j + 2 < 2 from hj) (by omega)
   | 1, j + 2, _, hj, _ => exact absurd (show j + 2 < 2 from hj) (by omega)
 · match k, hk with
   | 0, _ => exact h.bt
   | 1, _ =>
    show Bt v cb t2 ((cs2.map SV.v).map (SV.r _)).toArray
    rw [List.map_map, show (cs2.map (SV.r [bw, cb] ∘ SV.v)) = cs2 from List.map_id _]
    exact h2
   | k + 2, hk => exact absurd (show k + 2 < 2 from hk) (by omega)
 · show OwnV _ _ _ _ _ _
   rw [e0m hB]
   exact h.own
 · rcases hF _ _ a ha with rfl | rfl
   · exact ⟨fun hf => h.ne hf.1 hf.2, fun hf => hf.2.1.1 rfl, hf⟩
   · exact ⟨fun hf => hrow hf.1 hf.2, fun hf => hf.2.1.2 rfl, hf2⟩
theorem WkTo.of2 {bw cb : Nat} {p p' : OA} {v : World} {bx : List Box} {t2 : TypeId} {row : Array Value} {E' : List Nat} (I : Inv (bw :: cb :: E') w0 A bx fs W) (h0 : w0.os = v.os ∧ w0.tape = v.tape ∧ w0.output = v.output) (h2 : Bt v cb t2 row) (h3 : Bt W (lk 0 A 1) t2 row) (hk : (y0l v (m1c bw cb p)).prop W) (hat : p'.isSome = true → (p.isSome = true ∧ blk p' = blk p) ∨ v.heap.size ≤ blk p') : WkTo bw p p' v W := by
 refine ⟨I.bel.os.trans h0.1, I.bel.tape.trans h0.2.1, I.bel.output.trans h0.2.2, hk.1, fun b hb hS => ?_, hat⟩
 by_cases hc : b = cb
 · subst hc
   have e1 : lk 0 A 1 = b := I.adE 1 (by simp)
   rw [e1] at h3
   exact Eq.trans h3 (Eq.symm h2)
 · exact hk.2 b hb ⟨⟨hS.1, hc⟩, hS.2⟩
theorem Inv.wk {T e : TypeId} {f a g r : Int} {p : OA} {c : Nat} {vs : List Value} {bx : List Box} {n : Nat} (I : Inv E w0 A bx (b0s w0.heap.size e p c vs :: fs) W) (k : Nat) (hpos : 0 < w0.heap.size) (hge : w0.heap.size ≤ lk 0 A k)
 (hn : n = vs.length) (h : b1b bx k A = some (T, #[.int .i64 f, .int .i64 a, .int .i64 g, .int .i64 r, .slice p n c]) := by kernel_rfl) (hr : (lk bx0 bx k).ro = false := by kernel_rfl) (hk : Nat.ble (k + 1) bx.length = true := by kernel_rfl) : Wk T e w0.heap.size (lk 0 A k) f a g r p c vs W := by
 subst hn
 exact ⟨I.box k T _ h, I.fa.1, fun hp e => (I.far _ ⟨k, Nat.le_of_ble_eq_true hk, hr, rfl⟩).1 ⟨hp, e⟩, hge, hpos⟩
theorem Inv.wkE {T e : TypeId} {bw : Nat} {f a g r : Int} {p : OA} {c : Nat} {vs : List Value} {bx : List Box} {n : Nat} {E' : List Nat} (I : Inv (bw :: E') w0 A bx (b0s w0.heap.size e p c vs :: fs) W) (hge : w0.heap.size ≤ bw) (hpos : 0 < w0.heap.size)
 (hn : n = vs.length) (h : b1b bx 0 A = some (T, #[.int .i64 f, .int .i64 a, .int .i64 g, .int .i64 r, .slice p n c]) := by kernel_rfl) (hr : (lk bx0 bx 0).ro = false := by kernel_rfl) (hk : Nat.ble (0 + 1) bx.length = true := by kernel_rfl) : Wk T e w0.heap.size bw f a g r p c vs W := by
 have e0 : lk 0 A 0 = bw := I.adE 0 (by simp)
 have h1 := I.wk 0 hpos (by rw [e0]; exact hge) hn h hr hk
 rw [e0] at h1
 exact h1
theorem Inv.takeV {bx : List Box} {b : Nat} {e : TypeId} {p : OA} {c : Nat} {vs : List Value} (I : Inv E w0 A bx (b0s b e p c vs :: fs) W) (m : Nat) : Inv E w0 A bx (b0s b e p c (vs.take m) :: fs) W :=
 ⟨I.bel, I.ge, I.nd, I.len, I.pre, I.bt, ⟨OwnV.take I.fa.1 m, I.fa.2⟩, fun a ha => ⟨(I.far a ha).1, (I.far a ha).2⟩⟩
theorem zo4 (i j l m : Nat) (I : Inv E w0 A c.bx fs W) (h : Inv E w0 A (oneC i c).bx fs W → G P Q A (oneC i c) W) (k : Inv E w0 A (oneC j c).bx fs W → G P Q A (oneC j c) W) (q : Inv E w0 A (oneC l c).bx fs W → G P Q A (oneC l c) W) (r : Inv E w0 A (oneC m c).bx fs W → G P Q A (oneC m c) W) (hr : m0n c = some [i, j, l, m] := by kernel_rfl) : G P Q A c W :=
 zor [i, j, l, m] (fun x hx => by simp only [List.mem_cons, List.not_mem_nil, or_false] at hx; rcases hx with rfl | rfl | rfl | rfl <;> first | exact h (by rw [f0q]; exact I) | exact k (by rw [f0q]; exact I) | exact q (by rw [f0q]; exact I) | exact r (by rw [f0q]; exact I)) hr rfl
theorem Inv.neBt {bx : List Box} (I : Inv E w0 A bx fs W) (k : Nat) {b : Nat} {t : TypeId} {row : Array Value} (h : Bt W b t row) (hk : Nat.ble (k + 1) bx.length = true := by kernel_rfl) (ht : Nat.beq t (lk bx0 bx k).t = false := by kernel_rfl) : b ≠ lk 0 A k := fun e => by
 subst e
 have h1 := I.bt k (Nat.le_of_ble_eq_true hk)
 unfold Bt at h h1
 rw [h] at h1
 have h2 : t = (lk bx0 bx k).t := by injection h1 with h1; injection h1
 rw [← h2] at ht
 simp at ht
theorem Inv.rot1 {bx : List Box} {f g : PF} (I : Inv E w0 A bx (f :: g :: fs) W) : Inv E w0 A bx (g :: f :: fs) W :=
 ⟨I.bel, I.ge, I.nd, I.len, I.pre, I.bt, ⟨I.fa.2.1, I.fa.1, I.fa.2.2⟩, fun a ha => ⟨(I.far a ha).2.1, (I.far a ha).1, (I.far a ha).2.2⟩⟩
theorem Inv.meth {bx : List Box} (I : Inv E w0 A bx (f :: fs) W) {k : Nat} (hk : k < bx.length) (hr : (lk bx0 bx k).ro = false) {cs : List SV} (h1 : W'.os = W.os) (h2 : W'.tape = W.tape) (h3 : W'.output = W.output) (h4 : W.heap.size ≤ W'.heap.size)
 (hkeep : ∀ b, b < W.heap.size → b ≠ lk 0 A k → ¬ f.foot b → W'.heap[b]? = W.heap[b]?) (hge : ∀ b, f.foot b → w0.heap.size ≤ b) (hfar : ∀ b, f.foot b → PF.far b fs) (hrw : k0x bx = true)
 (hB : Bt W' (lk 0 A k) (lk bx0 bx k).t (cs.map (SV.r A)).toArray) {gs : List PF} (hg : PF.all W' gs) (hgf : ∀ a, PF.foots gs a → f.foot a ∨ W.heap.size ≤ a) :
 Inv E w0 A (setL bx k ⟨(lk bx0 bx k).t, cs, false⟩) (gs ++ fs) W' := by
 have hF : Fa A bx (lk 0 A k) := ⟨k, hk, hr, rfl⟩
 have hn : (setL bx k ⟨(lk bx0 bx k).t, cs, false⟩).length = bx.length := by rw [c0u, List.length_set]
 have hl : ∀ j, j < bx.length → (lk bx0 (setL bx k ⟨(lk bx0 bx k).t, cs, false⟩) j).ro = (lk bx0 bx j).ro := fun j hj => by
  by_cases h : j = k
  · subst h
    rw [c0x bx0 (setL _ _ _), c0u, List.getElem?_set_self hj, hr]
    rfl
  · rw [c0x bx0 (setL _ _ _), c0u, List.getElem?_set_ne (Ne.symm h), ← c0x]
 have hFa : ∀ a, Fa A (setL bx k ⟨(lk bx0 bx k).t, cs, false⟩) a → Fa A bx a := fun a ⟨j, hj, hr, e⟩ => by
  rw [hn] at hj
  rw [hl j hj] at hr
  exact ⟨j, hj, hr, e⟩
 refine ⟨⟨h1.trans I.bel.os, h2.trans I.bel.tape, h3.trans I.bel.output, Nat.le_trans I.bel.size h4, fun b hb hE => ?_⟩, fun a ha => I.ge a (hFa a ha), fun i j hi hj hr hne => ?_, by rw [hn]; exact I.len, I.pre, fun j hj => ?_, PF.all_app hg (PF.all_keep h4 I.fa.2 fun b hb ha => hkeep b hb (Ne.symm (ha _ (I.far _ hF).2)) fun hf => ha b (hfar b hf) rfl), fun a ha => PF.far_app (fun h => ?_) (I.far a (hFa a ha)).2⟩
 · rw [hkeep b (Nat.lt_of_lt_of_le hb I.bel.size) (fun e => by
     subst e
     rcases I.ge _ hF with h | h
     · omega
     · exact hE h) fun hf => by have := hge b hf; omega]
   exact I.bel.block b hb hE
 · rw [hn] at hi hj
   rw [hl i hi] at hr
   exact I.nd i j hi hj hr hne
 · rw [hn] at hj
   by_cases h : j = k
   · subst h
     rw [c0x bx0 (setL _ _ _), c0u, List.getElem?_set_self hj]
     exact hB
   · rw [c0x bx0 (setL _ _ _), c0u, List.getElem?_set_ne (Ne.symm h), ← c0x]
     have hFj : Fa A bx (lk 0 A j) := ⟨j, hj, g0b hrw j hj, rfl⟩
     have h5 := I.bt j hj
     unfold Bt at h5 ⊢
     rw [hkeep _ (I.lt _ hFj) (I.nd j k hj hk (g0b hrw j hj) h) (I.far _ hFj).1]
     exact h5
 · rcases hgf a h with h | h
   · exact (I.far a (hFa a ha)).1 h
   · have := I.lt a (hFa a ha)
     omega
theorem d0t {ι : Type} {e : TypeId} {p : OA} {cc : Nat} {vs : List Value} (I : Inv E w0 A c.bx (b0s w0.heap.size e p cc vs :: fs) W) (is : List Nat) (k : Nat) (t : TypeId) (N : Nat) {fn : FuncId} {args : List Nat → World → Array Value} {v : ι → Value} {cs : ι → List Value} {q : ι → OA} {g : ι → List PF}
 (hN : ∀ A W, Inv E w0 A (zr P none c).bx (b0s w0.heap.size e p cc vs :: fs) W → N ≤ W.heap.size)
 (hfar : ∀ A W, Inv E w0 A (zr P none c).bx (b0s w0.heap.size e p cc vs :: fs) W → p.isSome = true → PF.far (blk p) (pick is fs))
 (hc : ∀ A W, Inv E w0 A (zr P none c).bx (b0s w0.heap.size e p cc vs :: fs) W → Calls P fn (args A W) W fun en w' => ∃ x, en = .returned (v x) ∧ WkTo (lk 0 A k) p (q x) W w' ∧ Bt w' (lk 0 A k) t (cs x).toArray ∧ PF.all w' (g x) ∧ ∀ a, PF.foots (g x) a → (p.isSome = true ∧ blk p = a) ∨ W.heap.size ≤ a)
 (h : ∀ A W x, ((q x).isSome = true → (p.isSome = true ∧ blk (q x) = blk p) ∨ N ≤ blk (q x)) → Inv E w0 A (n0u (zr P none c) k ((cs x).map .v) (.v (v x))).bx (g x ++ pick is fs) W → G P Q A (n0u (zr P none c) k ((cs x).map .v) (.v (v x))) W)
 (ho : ∀ A w, g0u P (zr P none c) A w = some (.ok (.enter fn (args A w)) w) := by intro _ _; kernel_rfl)
 (hr : ∀ A w, (zms P none 5000 c A w).map (·.1) = (zms P none 5000 c A w).map (·.2) := by intro _ _; kernel_rfl)
 (hrw : k0x (zr P none c).bx = true := by kernel_rfl) (hk : wrOk (zr P none c) k = true := by kernel_rfl) (ht : (lk bx0 (zr P none c).bx k).t = t := by kernel_rfl)
 (hm : ∀ x, ok1 (zr P none c).rg (setL (zr P none c).bx k ⟨(lk bx0 (zr P none c).bx k).t, (cs x).map .v, false⟩) = ok2 (zr P none c).rg := by intro _; kernel_rfl) : G P Q A c W :=
 b0b I hr fun A V I => by
  have h := h A
  have ho := ho A V
  have hc := hc A V I
  have hN := hN A V I
  have hfar := hfar A V I
  subst ht
  unfold wrOk at hk
  simp only [Bool.and_eq_true, Bool.not_eq_true'] at hk
  unfold g0u at ho
  split at ho
  · rename_i o hn
    split at ho
    · rename_i hw
      refine G_op (E := E) (w0 := w0) (fs := []) hn fun K hK => h0b o.dst rfl fn _ (by rw [d0h]; exact hw) (by rw [b0f]; exact Option.some.inj ho) (hc.mono fun e W' hp => ?_)
      obtain ⟨x, rfl, hT, hB, hg, hgf⟩ := hp
      have hcs : ((cs x).map SV.v).map (SV.r A) = cs x := by
       rw [List.map_map]
       exact List.map_id _
      have J := (I.pk is).meth (g0t hk.1) hk.2 (cs := (cs x).map .v) hT.os hT.tape hT.output hT.size (fun b hb h1 h2 => hT.keep b hb ⟨h1, h2⟩) (fun b hf => hf.2 ▸ (I.fa.1.blk_lt hf.1).1) (fun b hf => hf.2 ▸ hfar hf.1) hrw (by rw [hcs]; exact hB) hg hgf
      refine ⟨_, rfl, ?_⟩
      have := h W' x (fun hq => (hT.at_ hq).imp id fun h => Nat.le_trans hN h) J
      unfold n0u at this
      rw [hn] at this
      have := hK A W' _ _ (List.prefix_refl _) (J.pick []) (hm x) this
      rw [← b0t] at this
      exact this
    · cases ho
  · cases ho
theorem zapm {e : TypeId} {p : OA} {cc : Nat} {vs us : List Value} (I : Inv E w0 A c.bx (b0s w0.heap.size e p cc vs :: fs) W) (is : List Nat) {t : TypeId} {z : Value} {bytes : Nat} (hty : j0o P t e z bytes) (ty n m l : Nat) (q : List Nat → OA) (c2 : Nat) (ys : List Value) (hn : n = vs.length) (hm2 : m = ys.length) (hl : n + m = l) (hb : l ≤ 4000000000) (hu : vs ++ ys = us)
 (hrd : ∀ A W, Inv E w0 A (zr P none c).bx (b0s w0.heap.size e p cc vs :: fs) W → RdV W (q A) ys)
 (hfar : ∀ A W, Inv E w0 A (zr P none c).bx (b0s w0.heap.size e p cc vs :: fs) W → p.isSome = true → PF.far (blk p) (pick is fs)) (N : Nat)
 (hN : ∀ A W, Inv E w0 A (zr P none c).bx (b0s w0.heap.size e p cc vs :: fs) W → N ≤ W.heap.size)
 (h : ∀ A W p' c', (p'.isSome = true → (p.isSome = true ∧ blk p' = blk p) ∨ N ≤ blk p') → Inv E w0 A (putc (zr P none c) (.v (.slice p' l c'))).bx (b0s w0.heap.size e p' c' us :: pick is fs) W → G P Q A (putc (zr P none c) (.v (.slice p' l c'))) W)
 (hone : ys.all (·.oneCell') = true := by rfl)
 (hv : ∀ A, woOf (zr P none c) A = some (.ap t ty (.slice p n cc) (.slice (q A) m c2)) := by intro _; kernel_rfl)
 (hr : ∀ A w, (zms P none 5000 c A w).map (·.1) = (zms P none 5000 c A w).map (·.2) := by intro _ _; kernel_rfl)
 (hrw : k0x (zr P none c).bx = true := by kernel_rfl)
 (hm : ok1 (zr P none c).rg (zr P none c).bx = ok2 (zr P none c).rg := by kernel_rfl) : G P Q A c W := by
 subst hu hn hm2 hl
 refine zdo (ι := {x : OA × Nat // x.1.isSome = true → (p.isSome = true ∧ blk x.1 = blk p) ∨ N ≤ blk x.1}) I none (fun x => .slice x.1.1 (vs.length + ys.length) x.1.2) (fun x => b0s w0.heap.size e x.1.1 x.1.2 (vs ++ ys) :: pick is fs) (fun A W I => ?_) (fun A W x I => h A W x.1.1 x.1.2 x.2 I) hv hr hm
 have hown := I.fa.1
 obtain ⟨p', c', W', h1, h2, h3, h4⟩ := j0x (P := P) W hty ty w0.heap.size p cc vs hown (q A) c2 ys (hrd A W I) hone (by have := Nat.mul_le_mul hb hty.le; omega) (by simp only [maxLen]; omega) I.bel.size
 refine ⟨⟨(p', c'), fun hp => (h4 hp).imp id fun h => show N ≤ blk p' by rw [h]; exact hN A W I⟩, W', h1, (I.pk is).redo (p.map (·.block)) h3 (fun k hk => ?_) hrw _ h2 fun a ha => ?_⟩
 · cases p with
   | none => cases hk
   | some a =>
    cases hk
    exact ⟨⟨rfl, rfl⟩, (hown.blk_lt rfl).1, hfar A W I rfl⟩
 · rcases h4 ha.1 with h | h
   · exact .inl ⟨h.1, h.2.symm.trans ha.2⟩
   · exact .inr (Nat.le_of_eq (h.symm.trans ha.2))
end
theorem zbx {P : Program} {Q : Exit → Act → World → Prop} {E : List Nat} {w0 : World} {A : List Nat} {fs : List PF} {W : World} {c : Cfg} (I : Inv E w0 A c.bx fs W) (d : Nat) (t : TypeId) (cs : Array Value)
 (h : ∀ A W b, w0.heap.size ≤ b → Inv E w0 A (putc (zr P (some d) c) (.v (.pointer (some ⟨b, 0, none⟩)))).bx (btF b t cs :: fs) W → G P Q A (putc (zr P (some d) c) (.v (.pointer (some ⟨b, 0, none⟩)))) W)
 (ho : ∀ A w, g0u P (zr P (some d) c) A w = some (.ok (.value (.pointer (some ⟨w.heap.size, 0, none⟩))) (w.alloc (.cells cs t))) := by intro _ _; kernel_rfl)
 (hr : ∀ A w, (zms P (some d) 5000 c A w).map (·.1) = (zms P (some d) 5000 c A w).map (·.2) := by intro _ _; kernel_rfl)
 (hm : ok1 (zr P (some d) c).rg (zr P (some d) c).bx = ok2 (zr P (some d) c).rg := by kernel_rfl) : G P Q A c W :=
 b0b I hr fun A W I => by
  have ho := ho A W
  have h := h A
  clear hr
  generalize zr P (some d) c = c at *
  unfold g0u at ho
  split at ho
  · rename_i o hn
    split at ho
    · rename_i hw
      refine G_op (E := E) (w0 := w0) (fs := []) hn fun K hK => w0c o.dst rfl (.pointer (some ⟨W.heap.size, 0, none⟩)) cs t (by rw [d0h]; exact hw) (by rw [b0f]; exact Option.some.inj ho) fun W' hb _ hB => ?_
      have I2 : Inv E w0 A c.bx (btF W.heap.size t cs :: fs) W' := (I.past hb).add (btF W.heap.size t cs) hB fun a ha hf => by
       have h1 := I.lt a ha
       have h2 : W.heap.size = a := hf
       omega
      have h := h W' W.heap.size I.bel.size I2
      unfold putc at h
      rw [hn] at h
      have := hK A W' _ c.bx (List.prefix_refl _) (I2.pick []) hm h
      rw [show Value.pointer (some ⟨W.heap.size, 0, none⟩) = (SV.v (.pointer (some ⟨W.heap.size, 0, none⟩))).r A from rfl, b0t]
      exact this
    · cases ho
  · cases ho
theorem p1a {P : Program} {W : World} {ik : IntKind} {t kt vt : TypeId} (hm : P.underlying t = some (.map kt vt)) (hk : P.underlying kt = some (.int ik)) {b : Nat} {es : Array MapEntry} {clock : Nat} (hb : W.heap[b]? = some (.map es clock)) (k : Int) {v : Value} (hf : ∃ i, Instr.findNow (.int ik) (.int ik k) es.toList 0 = some (some (i, v))) :
 (VO.lk t (.map (some b)) (.int ik k) true).sem.run P W = .ok (.tuple #[v, .bool true]) W := by
 obtain ⟨i, hf⟩ := hf
 have h : (Instr.lookup t (.map (some b)) (.int ik k) true).run P W = .ok (.tuple #[v, .bool true]) W := by
  simp [Instr.lookup, run_underlying hm, MapKept.run_getObj_map hb, run_checkKey hk (h0g ik k), run_findKey hk hf, Result.andThen]
 exact h
theorem p1b {P : Program} {w : World} {ty : TypeId} {p : OA} {vs : List Value} (hr : RdV w p vs) {k : Nat} (hT : l0n P ty k) {m : Nat} (cs : List Value) (hc : (vs.drop m).take cs.length = cs) (hn : cs.length = k) : (VO.ld ty (.pointer (some (at_ p m)))).sem.run P w = .ok (.agg cs.toArray) w := by
 obtain ⟨⟨d, hu, hd⟩, hi⟩ := hT
 show (Instr.loadAt _ _).run P w = _
 have hE : at_ p m = ⟨(at_ p m).block, (at_ p m).off, none⟩ := rfl
 rw [hE]
 refine run_loadAt_mid w _ _ ty cs d (fun j v hv => ?_) hu hd (by rw [hi, hn])
 have hj := (List.getElem?_eq_some_iff.1 hv).1
 rw [← hc, List.getElem?_take, if_pos hj, List.getElem?_drop] at hv
 have := hr.cells (m + j) (List.getElem?_eq_some_iff.1 hv).1
 rw [hv] at this
 rw [← this]
 unfold at_
 simp only [Nat.add_assoc]
theorem n0a {P : Program} {E : List Nat} {w v : World} {A : List Nat} {bx : List Box} {fs : List PF} {f : FuncId} {fn : Func} {args : Array Value} {R : Ending → World → Prop} (fr : List SV) (_ : Inv E w A bx fs v) (hf : P.funcs[f]? = some fn)
 (h : G P (bodyPost P fn R) A (cfg0 fn fr bx) v) (hb : fn.body.isSome = true := by kernel_rfl) (ha : fr.map (SV.r A) = args.toList := by kernel_rfl) : Calls P f args v R := by
 have hb2 : fn.body = some (s0c fn) := by
  unfold s0c
  cases h : fn.body with
  | none => rw [h] at hb; cases hb
  | some c => rfl
 refine calls_of_wp hf hb2 ?_
 have hl : fr.length = args.size := by rw [← Array.length_toList, ← ha, List.length_map]
 have e : (⟨args ++ Array.replicate (fn.ntmps - args.size) undef, []⟩ : Act) = act A (cfg0 fn fr bx).fr := by
  unfold act cfg0
  simp only [Act.mk.injEq, and_true]
  rw [List.map_append, ha, List.map_replicate, hl]
  apply Array.toList_inj.1
  simp [SV.r]
 rw [e]
 exact h.out
theorem p1c {P : Program} {w : World} {t : TypeId} {e : TypeId} {z : Value} {bytes : Nat} (hty : j0o P t e z bytes) {p : OA} {n c m : Nat} (hm : m ≤ c) : (VO.sl t (.slice p n c) none (some (.int .i64 (m : Int))) none).sem.run P w = .ok (.slice p m c) w := by
 show (Instr.sliceAt _ _ _ _ _).run P w = _
 simp only [run_sliceAt_slice (h := j0p hty), run_slice_h (ht := j0p hty) (h0 := Int.natCast_nonneg m) (h2 := Int.ofNat_le.2 hm), k0r hty, Result.andThen_ok, sliced, Int.toNat_natCast, Nat.zero_mul, Nat.sub_zero, a1y, ite_self]
theorem OwnV.up {w : World} {base b' : Nat} {e : TypeId} {p : OA} {c : Nat} {vs : List Value} (h : OwnV w base e p c vs) (hb : p.isSome = true → b' ≤ blk p) : OwnV w b' e p c vs := by
 refine ⟨h.1, ?_⟩
 rcases h.2 with h1 | ⟨g, cap, cur, hv, hbg, r⟩
 · exact .inl h1
 · simp only [Value.slice.injEq] at hv
   obtain ⟨rfl, _, rfl⟩ := hv
   exact .inr ⟨g, c, cur, rfl, hb rfl, r⟩
theorem WkTo.refl (bw : Nat) (p : OA) (w : World) : WkTo bw p p w w := ⟨rfl, rfl, rfl, Nat.le_refl _, fun _ _ _ => rfl, fun h => .inl ⟨h, rfl⟩⟩
theorem d0w {T e : TypeId} {B bw : Nat} {f a g r : Int} {p : OA} {vs : List Value} {V : Value} {w w' : World} {en : Ending} :
 (∃ p' c', en = .returned V ∧ Wk T e B bw f a g r p' c' vs w' ∧ WkTo bw p p' w w') → ∃ x : OA × Nat, en = .returned V ∧ WkTo bw p x.1 w w' ∧ Bt w' bw T ([.int .i64 f, .int .i64 a, .int .i64 g, .int .i64 r, .slice x.1 vs.length x.2] : List Value).toArray ∧ PF.all w' [b0s B e x.1 x.2 vs] ∧ ∀ b, PF.foots [b0s B e x.1 x.2 vs] b → (p.isSome = true ∧ blk p = b) ∨ w.heap.size ≤ b := by
 rintro ⟨p', c', he, h, k⟩
 refine ⟨(p', c'), he, k, h.bt, ⟨h.own, True.intro⟩, fun b hb => ?_⟩
 rcases hb with hb | hb
 · obtain ⟨h1, rfl⟩ := hb
   exact (k.at_ h1).imp (fun h => ⟨h.1, h.2.symm⟩) id
 · cases hb
theorem q1r {T e : TypeId} {B bw n : Nat} {f a g r : Int} {p : OA} {c : Nat} {vs us : List Value} {w w' : World} {en : Ending} (hB : B ≤ w.heap.size) :
 (∃ q d, en = .returned (.slice q n d) ∧ OwnV w' w.heap.size e q d us ∧ Wk T e B bw f a g r p c vs w' ∧ WkTo bw p p w w') → ∃ x : OA × Nat, en = .returned (.slice x.1 n x.2) ∧ WkTo bw p p w w' ∧ Bt w' bw T ([.int .i64 f, .int .i64 a, .int .i64 g, .int .i64 r, .slice p vs.length c] : List Value).toArray ∧ PF.all w' [b0s B e p c vs, b0s B e x.1 x.2 us] ∧ ∀ b, PF.foots [b0s B e p c vs, b0s B e x.1 x.2 us] b → (p.isSome = true ∧ blk p = b) ∨ w.heap.size ≤ b := by
 rintro ⟨q, d, he, ho, h, k⟩
 refine ⟨(q, d), he, k, h.bt, ⟨h.own, ho.mono hB, True.intro⟩, fun b hb => ?_⟩
 rcases hb with hb | hb | hb
 · exact .inl hb
 · obtain ⟨h1, rfl⟩ := hb
   exact .inr (ho.blk_lt h1).1
 · cases hb
end Go.Slip
