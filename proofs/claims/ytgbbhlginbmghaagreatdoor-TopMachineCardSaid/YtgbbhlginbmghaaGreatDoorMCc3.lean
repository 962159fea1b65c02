/- A walk that reckons: returns, drawn regions, loops, facts. No program is in sight here. -/
import Derived.Laws.Sem
import Derived.Deep.LoopGhost
import Derived.Lib.ConvBytes
import Derived.Test.YtgbbhlginbmghaaGreatDoorMCc1
import Derived.Test.YtgbbhlginbmghaaGreatDoorMCc2
set_option maxHeartbeats 8000000
set_option maxRecDepth 100000
namespace Go.Slip
open Go.RowKit
/-! ### What a function answers -/
def resO (P : Program) (c : Cfg) : List ResultVar → Option (List SV)
 | [] => some []
 | .tmp t :: l => match resO P c l with
  | some r => some (lk (.v undef) c.fr t :: r)
  | none => none
 | .cell a ty :: l => match lk (.v undef) c.fr a with
  | .p k off => match ldB P c.bx ty k off with
   | some x => match resO P c l with
    | some r => some (x :: r)
    | none => none
   | none => none
  | _ => none
def resV (A : List Nat) : Option (List SV) → Option Value
 | some [x] => some (x.r A)
 | some l => some (.tuple (l.map (SV.r A)).toArray)
 | none => none
def r1y (c : Cfg) : Bool :=
 match c.rg with
 | .ret => true
 | .off => match c.ks with
  | [] => true
  | _ => false
 | _ => false
section
variable {P : Program} {fn : Func} {R : Ending → World → Prop} {E : List Nat} {w0 : World} {A : List Nat} {fs : List PF} {W : World} {c : Cfg} {o : Oper}
theorem r0p (I : Inv E w0 A c.bx fs W) : ∀ (rs : List ResultVar) {xs : List SV}, resO P c rs = some xs → (rs.mapM (rvS (act A c.fr).tmps)).run P W = .ok (xs.map (SV.r A)) W
 | [], xs, h => by
  simp only [resO, Option.some.injEq] at h
  subst h
  rfl
 | .tmp t :: l, xs, h => by
  unfold resO at h
  split at h
  · rename_i r hr
    simp only [Option.some.injEq] at h
    subst h
    have ih := r0p I l hr
    rw [List.mapM_cons]
    simp only [rvS, Sem.run_bind, Sem.run_pure, Result.andThen_ok, ih, List.map_cons]
    congr 3
    exact congrFun (b0j A c.fr) (.tmp t)
  · cases h
 | .cell a ty :: l, xs, h => by
  unfold resO at h
  split at h
  · rename_i k off hp
    split at h
    · rename_i x hx
      split at h
      · rename_i r hr
        simp only [Option.some.injEq] at h
        subst h
        have ih := r0p I l hr
        have h2 := m1s (P := P) I.ok hx
        have he : (act A c.fr).tmps.getD a undef = .pointer (some ⟨lk 0 A k, off, none⟩) := by
         have := congrFun (b0j A c.fr) (.tmp a)
         refine this.trans ?_
         show SV.r A (lk (.v undef) c.fr a) = _
         rw [hp]; rfl
        simp only [Instr.loadAt, Instr.sureAddr, Sem.run_bind, Sem.run_pure, Result.andThen_ok] at h2
        rw [List.mapM_cons]
        simp only [rvS, he, asAddr, Sem.run_bind, Sem.run_pure, Result.andThen_ok, h2, ih, List.map_cons]
      · cases h
    · cases h
  · cases h
theorem o1p (I : Inv E w0 A c.bx fs W) {v : Value} (h : resV A (resO P c fn.results.toList) = some v) : (results fn (act A c.fr).tmps).run P W = .ok v W := by
 cases hx : resO P c fn.results.toList with
 | none => rw [hx] at h; cases h
 | some xs =>
  rw [hx] at h
  have := r0p I _ hx
  rw [p0x, ← Array.toArray_toList (xs := fn.results), List.mapM_toArray]
  rw [Sem.run_bind]
  simp only [map_eq_pure_bind, Sem.run_bind, this, Result.andThen_ok, Sem.run_pure]
  congr 1
  match xs, h with
  | [], h => simpa [resV] using h
  | [x], h => simpa [resV] using h
  | x :: y :: l, h => simpa [resV] using h
theorem zret (I : Inv E w0 A c.bx fs W) {v : List Nat → Value} (h : ∀ A W, Inv E w0 A (zr P none c).bx fs W → R (.returned (v A)) W)
 (hv : ∀ A, resV A (resO P (zr P none c) fn.results.toList) = some (v A) := by intro _; kernel_rfl)
 (hr : ∀ A w, (zms P none 5000 c A w).map (·.1) = (zms P none 5000 c A w).map (·.2) := by intro _ _; kernel_rfl)
 (hi : r1y (zr P none c) = true := by kernel_rfl) : G P (bodyPost P fn R) A c W :=
 b0d I hr fun A W I => by
  have hv9 := o1p I (hv A)
  have h9 := h A W I
  clear h hv
  generalize zr P none c = c at *
  refine ⟨?_⟩
  obtain ⟨fr, bx, rg, ks⟩ := c
  cases rg with
  | ret =>
   have : ∀ ks, post P (bodyPost P fn R) ks .ret (act A fr) W := fun ks => by
    induction ks with
    | nil => exact ⟨rfl, _, hv9, h9⟩
    | cons k ks ih => cases k <;> exact ih
   exact this ks
  | off =>
   cases ks with
   | nil => exact ⟨rfl, _, hv9, h9⟩
   | cons => cases hi
  | pl => cases hi
  | dr => cases hi
  | one => cases hi
theorem zrb (I : Inv [] w0 A c.bx fs W) {v : Value}
 (hv : ∀ A, resV A (resO P (zr P none c) fn.results.toList) = some v := by intro _; kernel_rfl)
 (hr : ∀ A w, (zms P none 5000 c A w).map (·.1) = (zms P none 5000 c A w).map (·.2) := by intro _ _; kernel_rfl)
 (hi : r1y (zr P none c) = true := by kernel_rfl) : G P (bodyPost P fn fun en w' => en = .returned v ∧ Below w0.heap.size w0 w') A c W :=
 zret (v := fun _ => v) I (fun _ _ I => ⟨rfl, I.below⟩) hv hr hi
end
/-! ### Drawn regions -/
def g0b (Q : Exit → Act → World → Prop) : Prop := ∀ ch a d v w, Q (.panic ch) (Act.put a d v) w → Q (.panic ch) a w
theorem d0u {P : Program} {fn : Func} {R : Ending → World → Prop} : g0b (bodyPost P fn R) := fun ch a d v w h => by
 cases d <;> exact h
theorem e0g {P : Program} {Q : Exit → Act → World → Prop} (hQ : g0b Q) : ∀ ks, g0b (post P Q ks)
 | [] => hQ
 | .code _ :: ks => fun ch a d v w h => e0g hQ ks ch a d v w h
 | .block _ :: ks => fun ch a d v w h => e0g hQ ks ch a d v w h
 | .stop _ :: ks => fun ch a d v w h => e0g hQ ks ch a d v w h
def memN (k : Nat) : List Nat → Bool
 | [] => false
 | x :: l => match Nat.beq k x with | true => true | false => memN k l
def mkM (ex : List Nat) : Nat → List Box → List (Option Box)
 | _, [] => []
 | k, b :: l => (match memN k ex with | true => none | false => some b) :: mkM ex (k + 1) l
theorem d1s (ex : List Nat) : ∀ (l : List Box) (k : Nat), (mkM ex k l).length = l.length
 | [], _ => rfl
 | _ :: l, k => by simp [mkM, d1s ex l]
theorem w0o (ex : List Nat) : ∀ (l : List Box) (k : Nat), msk (mkM ex k l) l = mkM ex k l
 | [], _ => rfl
 | b :: l, k => by
  unfold mkM
  split
  · simp [msk, w0o ex l]
  · simp [msk, w0o ex l]
def r1z (c : Cfg) : Bool :=
 match c.rg, c.ks with
 | .off, .code (.region _ _ true) :: _ => true
 | _, _ => false
def s1a (ex : List Nat) (c : Cfg) (A : List Nat) : Cfg :=
 match c.rg, c.ks with
 | .off, .code (.region _ ops true) :: ks => ⟨c.fr, c.bx, .dr ops A (mkM ex 0 c.bx) ops.size (Array.replicate ops.size false), ks⟩
 | _, _ => c
def r0q (P : Program) (i : Nat) (c : Cfg) : Cfg :=
 match c.rg with
 | .dr ops A0 m (fuel + 1) listed => match ops[i]? with
  | some o => match wnt ops c.fr o with
   | false => ⟨putO c.fr o.dst (.v undef), c.bx, .dr ops A0 m fuel (listed.setIfInBounds i true), c.ks⟩
   | true => match eff P (m.map unm) c.fr o with
    | .val x => ⟨putO c.fr o.dst x, c.bx, .dr ops A0 m fuel (listed.setIfInBounds i true), c.ks⟩
    | _ => c
  | none => c
 | _ => c
def w0p (P : Program) (i : Nat) (c : Cfg) : Bool :=
 match c.rg with
 | .dr ops _ m (_ + 1) listed => match ops[i]? with
  | some o => match Region.noSelect ops && Region.free .any ops listed i && (Region.ready .any ops listed).contains i with
   | true => match wnt ops c.fr o with
    | false => true
    | true => match eff P (m.map unm) c.fr o with
     | .val _ => true
     | _ => false
   | false => false
  | none => false
 | _ => false
def d0m (P : Program) (i : Nat) (c : Cfg) (A : List Nat) (w : World) : List (Result Next × Result Next) :=
 match c.rg with
 | .dr ops _ m _ _ => match ops[i]? with
  | some o => match wnt ops c.fr o with
   | false => []
   | true => n0s P (m.map unm) c.fr o A w
  | none => []
 | _ => []
def o1q (P : Program) : List Nat → Cfg → Cfg
 | [], c => c
 | i :: is, c => o1q P is (r0q P i c)
def d1t (P : Program) : List Nat → Cfg → Bool
 | [], _ => true
 | i :: is, c => match w0p P i c with | true => d1t P is (r0q P i c) | false => false
def r0r (P : Program) : List Nat → Cfg → List Nat → World → List (Result Next × Result Next)
 | [], _, _, _ => []
 | i :: is, c, A, w => d0m P i c A w ++ r0r P is (r0q P i c) A w
def dk1 : Rg → List Box → List (Option Box)
 | .dr _ _ m _ _, bx => msk m bx
 | _, _ => []
def dk2 : Rg → List (Option Box)
 | .dr _ _ m _ _ => m
 | _ => []
def o1r (c : Cfg) : Prop := dk1 c.rg c.bx = dk2 c.rg
def n0v (c : Cfg) : Option (List Nat) :=
 match c.rg with
 | .dr ops _ _ (_ + 1) listed => some (Region.ready .any ops listed)
 | _ => none
def oneC (i : Nat) (c : Cfg) : Cfg :=
 match c.rg with
 | .dr ops A0 m (fuel + 1) listed => ⟨c.fr, c.bx, .one ops A0 m fuel listed i, c.ks⟩
 | _ => c
section
variable {P : Program} {Q : Exit → Act → World → Prop} {E : List Nat} {w0 : World} {A : List Nat} {fs : List PF} {W : World} {c : Cfg} {o : Oper}
theorem s1b {A0 : List Nat} {m : List (Option Box)} {w : World} (h : PreD A0 m A) (hS : SB A0 m w) : BtOk A (m.map unm) w := fun k hk hc => by
 have := hS k hk hc
 rw [List.length_map] at hk
 rw [t0v h.pre (by have := h.le; omega), d1r h.pre h.wf]
 exact this
theorem w0q (hQ : g0b Q) (I : Inv E w0 A c.bx fs W) (hm : o1r c) (i : Nat) (h : G P Q A (r0q P i c) W) (ho : w0p P i c = true) (hc : ∀ A w, n0t (d0m P i c A w)) : G P Q A c W := by
 refine ⟨?_⟩
 have h := h.out
 obtain ⟨fr, bx, rg, ks⟩ := c
 cases rg with
 | off => cases ho
 | pl => cases ho
 | one => cases ho
 | ret => cases ho
 | dr ops A0 m fuel listed =>
  cases fuel with
  | zero => cases ho
  | succ fuel =>
   unfold w0p at ho
   unfold r0q at h
   unfold d0m at hc
   simp only at ho h hc
   intro pre
   split at ho
   · rename_i o hi
     rw [hi] at h hc
     split at ho
     · rename_i h1
       simp only [Bool.and_eq_true] at h1
       obtain ⟨⟨h1, h2⟩, h3⟩ := h1
       have hS : SB A0 m W := a1q I pre hm
       have hP := fun (x : Value) c a w => e0g (P := P) hQ ks c a o.dst x w
       cases hw : wnt ops fr o with
       | false =>
        simp only [hw] at h
        have h : WpH P ops (post P Q ks) (SB A0 m) fuel (listed.setIfInBounds i true) (act A (putO fr o.dst (.v undef))) W := h pre
        rw [← c0a] at h
        exact n0q i o.dst undef _ hi rfl rfl h1 h2 h3 (hP undef) (.inr ⟨by rw [d0k]; exact hw, rfl⟩) hS h
       | true =>
        simp only [hw] at h ho hc
        split at ho
        · rename_i x hx
          rw [hx] at h
          simp only at h
          have h : WpH P ops (post P Q ks) (SB A0 m) fuel (listed.setIfInBounds i true) (act A (putO fr o.dst x)) W := h pre
          rw [← c0a] at h
          exact n0q i o.dst (x.r A) _ hi rfl rfl h1 h2 h3 (hP _) (.inl ⟨by rw [d0k]; exact hw, fun w' hS' => r0m (s1b pre hS') hx (hc A w')⟩) hS h
        · cases ho
     · cases ho
   · cases ho
theorem d1u (i : Nat) (hm : o1r c) : o1r (r0q P i c) := by
 obtain ⟨fr, bx, rg, ks⟩ := c
 cases rg with
 | dr ops A0 m fuel listed =>
  cases fuel with
  | zero => exact hm
  | succ fuel =>
   unfold r0q
   simp only
   split
   · split
     · exact hm
     · split
       · exact hm
       · exact hm
   · exact hm
 | _ => exact hm
theorem i1t (i : Nat) : (r0q P i c).bx = c.bx := by
 unfold r0q
 repeat' split
 all_goals rfl
theorem zk (is : List Nat) (I : Inv E w0 A c.bx fs W) (h : Inv E w0 A (nrm (o1q P is c)).bx fs W → G P Q A (nrm (o1q P is c)) W) (ho : d1t P is c = true := by kernel_rfl)
 (hc : ∀ A w, (r0r P is c A w).map (·.1) = (r0r P is c A w).map (·.2) := by intro _ _; kernel_rfl) (hm : dk1 c.rg c.bx = dk2 c.rg := by kernel_rfl) (hQ : g0b Q := by exact d0u) : G P Q A c W := by
 rw [d1q] at h
 replace hc := fun A w => g0a (hc A w)
 induction is generalizing c with
 | nil => exact h I
 | cons i is ih =>
  unfold d1t at ho
  split at ho
  · rename_i h1
    refine w0q hQ I hm i (ih (by rw [i1t]; exact I) h ho (d1u i hm) fun A w => (d0s (hc A w)).2) h1 fun A w => (d0s (hc A w)).1
  · cases ho
theorem zd (ex : List Nat) (I : Inv E w0 A c.bx fs W) (h : ∀ A W, Inv E w0 A (s1a ex (zr P none c) A).bx fs W → G P Q A (s1a ex (zr P none c) A) W)
 (hr : ∀ A w, (zms P none 5000 c A w).map (·.1) = (zms P none 5000 c A w).map (·.2) := by intro _ _; kernel_rfl)
 (hd : r1z (zr P none c) = true := by kernel_rfl) (hw : wfB (zr P none c).bx.length ((mkM ex 0 (zr P none c).bx).map unm) = true := by kernel_rfl) (hm : P.follows .mixedOrders = true := by kernel_rfl) : G P Q A c W :=
 b0d I hr fun A W I => by
  have h := h A
  generalize zr P none c = c at *
  refine ⟨?_⟩
  obtain ⟨fr, bx, rg, ks⟩ := c
  cases rg with
  | pl => cases hd
  | dr => cases hd
  | one => cases hd
  | ret => cases hd
  | off =>
   cases ks with
   | nil => cases hd
   | cons k ks =>
    cases k with
    | block => cases hd
    | stop => cases hd
    | code x =>
     cases x with
     | region id ops b =>
      cases b with
      | false => cases hd
      | true =>
       have I2 := I.past (W' := W.drew) (Below.refl _ _).drew
       have hp : PreD A (mkM ex 0 bx) A := ⟨List.prefix_refl _, by rw [d1s, I.len]; exact Nat.le_refl _, by rw [I.len]; exact hw⟩
       have h := (h W.drew I2).out
       exact sxd P _ rfl (a1q I2 hp (w0o ex bx 0)) (h hp) hm
     | _ => cases hd
theorem zor (rs : List Nat) (h : ∀ i ∈ rs, G P Q A (oneC i c) W) (hr : n0v c = some rs) (hne : rs.isEmpty = false) : G P Q A c W := by
 refine ⟨?_⟩
 obtain ⟨fr, bx, rg, ks⟩ := c
 cases rg with
 | off => cases hr
 | pl => cases hr
 | one => cases hr
 | ret => cases hr
 | dr ops A0 m fuel listed =>
  cases fuel with
  | zero => cases hr
  | succ fuel =>
   intro pre
   refine i1n rs (Option.some.inj hr) hne ?_
   clear hr hne
   induction rs with
   | nil => exact o1l
   | cons i rs ih =>
    obtain ⟨o, ho, hk⟩ := (h i (by simp)).out pre
    exact i1o _ ho rfl hk (ih fun j hj => h j (by simp [hj]))
theorem g0c (i : Nat) : (oneC i c).bx = c.bx := by
 unfold oneC
 split <;> rfl
theorem zo (i : Nat) (I : Inv E w0 A c.bx fs W) (h : Inv E w0 A (oneC i c).bx fs W → G P Q A (oneC i c) W) (hr : n0v c = some [i] := by kernel_rfl) : G P Q A c W := zor [i] (fun j hj => by rw [List.mem_singleton] at hj; subst hj; exact h (by rw [g0c]; exact I)) hr rfl
theorem zo2 (i j : Nat) (I : Inv E w0 A c.bx fs W) (h : Inv E w0 A (oneC i c).bx fs W → G P Q A (oneC i c) W) (k : Inv E w0 A (oneC j c).bx fs W → G P Q A (oneC j c) W) (hr : n0v c = some [i, j] := by kernel_rfl) : G P Q A c W :=
 zor [i, j] (fun x hx => by simp only [List.mem_cons, List.not_mem_nil, or_false] at hx; rcases hx with rfl | rfl <;> first | exact h (by rw [g0c]; exact I) | exact k (by rw [g0c]; exact I)) hr rfl
theorem zo3 (i j l : Nat) (I : Inv E w0 A c.bx fs W) (h : Inv E w0 A (oneC i c).bx fs W → G P Q A (oneC i c) W) (k : Inv E w0 A (oneC j c).bx fs W → G P Q A (oneC j c) W) (q : Inv E w0 A (oneC l c).bx fs W → G P Q A (oneC l c) W) (hr : n0v c = some [i, j, l] := by kernel_rfl) : G P Q A c W :=
 zor [i, j, l] (fun x hx => by simp only [List.mem_cons, List.not_mem_nil, or_false] at hx; rcases hx with rfl | rfl | rfl <;> first | exact h (by rw [g0c]; exact I) | exact k (by rw [g0c]; exact I) | exact q (by rw [g0c]; exact I)) hr rfl
def oneN (P : Program) (c : Cfg) : Cfg :=
 match nxt c.rg with
 | some o => match aft c.bx c.fr o.dst (eff P c.bx c.fr o) with
  | some (fr, bx) => ⟨fr, bx, rgN c.rg, c.ks⟩
  | none => c
 | none => c
def m1y (P : Program) (c : Cfg) : Bool :=
 match nxt c.rg with
 | some o => match wnt (r0n c.rg) c.fr o with
  | true => match aft c.bx c.fr o.dst (eff P c.bx c.fr o) with
   | some _ => true
   | none => false
  | false => false
 | none => false
theorem zn (I : Inv E w0 A c.bx fs W) (h : ∀ A W, Inv E w0 A (nrm (oneN P c)).bx fs W → G P Q A (nrm (oneN P c)) W) (ho : m1y P c = true := by kernel_rfl)
 (hc : ∀ A w, (f0p P c A w).map (·.1) = (f0p P c A w).map (·.2) := by intro _ _; kernel_rfl) (hm : ok1 c.rg (oneN P c).bx = ok2 c.rg := by kernel_rfl) : G P Q A c W := by
 rw [d1q] at h
 have hc := g0a (hc A W)
 unfold m1y at ho
 unfold f0p at hc
 unfold oneN at h hm
 split at ho
 · rename_i o hn
   rw [hn] at h hc hm
   simp only at h hc hm
   split at ho
   · rename_i hw
     split at ho
     · rename_i r ha
       obtain ⟨fr, bx⟩ := r
       rw [ha] at h hm
       simp only at h hm
       exact G_op (E := E) (w0 := w0) (fs := fs) hn fun K hK => m1t I hw hc ha fun A' W' hA I' => hK A' W' _ _ hA I' hm (h A' W' I')
     · cases ho
   · cases ho
 · cases ho
/-! ### Loops, and where ways come together -/
def m1z (c : Cfg) : Option (Code × List Kt) :=
 match c.rg, c.ks with
 | .off, .code (.loop b) :: ks => some (b, ks)
 | _, _ => none
def n1a (c : Cfg) (fr : List SV) (bx : List Box) (J : Act → World → Prop) : Cfg :=
 match m1z c with
 | some (b, ks) => ⟨fr, bx, .off, .code b :: .stop J :: ks⟩
 | none => c
def uOf (c : Cfg) (A : List Nat) : Nat → Value := fun i => (lk (.v undef) c.fr i).r A
abbrev vu : SV := .v undef
def su : Nat → List SV → List SV
 | 0, l => l
 | n + 1, l => .v undef :: su n l
def sw (U : Nat → Value) : Nat → Nat → List SV → List SV
 | _, 0, l => l
 | i, n + 1, l => .v (U i) :: sw U (i + 1) n l
theorem h0u (I : Inv E w0 A c.bx fs W) (L : Nat → List SV → List Box → List PF → Prop) (n0 : Nat) {fr : List Nat → (Nat → Value) → List SV} {bx : List Nat → (Nat → Value) → List Box}
 (h0 : ∀ A W U, Inv E w0 A (bx A U) fs W → ∃ gs, L n0 (fr A U) (bx A U) gs ∧ Inv E w0 A (bx A U) gs W)
 (h : ∀ J n fr bx gs, L n fr bx gs → (∀ n' fr' bx' gs' A W, n' < n → L n' fr' bx' gs' → Inv E w0 A bx' gs' W → J (act A fr') W) → ∀ A W, Inv E w0 A (n1a (zr P none c) fr bx J).bx gs W → G P Q A (n1a (zr P none c) fr bx J) W)
 (hr : ∀ A w, (zms P none 5000 c A w).map (·.1) = (zms P none 5000 c A w).map (·.2) := by intro _ _; kernel_rfl)
 (hf : ∀ A, (zr P none c).fr.map (SV.r A) = (fr A (uOf (zr P none c) A)).map (SV.r A) := by intro _; kernel_rfl)
 (hb : ∀ A, (zr P none c).bx = bx A (uOf (zr P none c) A) := by intro _; kernel_rfl)
 (hl : (m1z (zr P none c)).isSome = true := by kernel_rfl) : G P Q A c W :=
 b0d I hr fun A W I => by
  have h9 := h0 A W (uOf (zr P none c) A) (by rw [← hb A]; exact I)
  have hf := hf A
  clear h0 hb
  generalize zr P none c = c at *
  refine ⟨?_⟩
  obtain ⟨gs, h9, I9⟩ := h9
  obtain ⟨cf, cb, rg, ks⟩ := c
  cases rg with
  | pl => cases hl
  | dr => cases hl
  | one => cases hl
  | ret => cases hl
  | off =>
   cases ks with
   | nil => cases hl
   | cons k ks =>
    cases k with
    | block => cases hl
    | stop => cases hl
    | code b =>
     cases b with
     | loop b =>
      refine wp_loop_ghost (fun n a w => ∃ fr bx gs A, L n fr bx gs ∧ a = act A fr ∧ Inv E w0 A bx gs w) n0 ⟨_, _, gs, A, h9, by unfold act; rw [hf], I9⟩ ?_
      rintro n a w ⟨fr, bx, gs, A, hL, rfl, I⟩
      exact (h (fun a w => ∃ n', n' < n ∧ ∃ fr bx gs A, L n' fr bx gs ∧ a = act A fr ∧ Inv E w0 A bx gs w) n fr bx gs hL (fun n' fr' bx' gs' A W hn hL I => ⟨n', hn, fr', bx', gs', A, hL, rfl, I⟩) A w I).out
     | _ => cases hl
def n1b (c : Cfg) : Option (Act → World → Prop) :=
 match c.rg, c.ks with
 | .off, .stop J :: _ => some J
 | _, _ => none
theorem a0i (I : Inv E w0 A c.bx fs W) (J : Act → World → Prop) {fr : List Nat → (Nat → Value) → List SV} {bx : List Nat → (Nat → Value) → List Box} (h : ∀ A W U, Inv E w0 A (bx A U) fs W → J (act A (fr A U)) W)
 (hr : ∀ A w, (zms P none 5000 c A w).map (·.1) = (zms P none 5000 c A w).map (·.2) := by intro _ _; kernel_rfl)
 (hf : ∀ A, (zr P none c).fr.map (SV.r A) = (fr A (uOf (zr P none c) A)).map (SV.r A) := by intro _; kernel_rfl)
 (hb : ∀ A, (zr P none c).bx = bx A (uOf (zr P none c) A) := by intro _; kernel_rfl)
 (hs : n1b (zr P none c) = some J := by kernel_rfl) : G P Q A c W :=
 b0d I hr fun A W I => by
  have h := h A W (uOf (zr P none c) A) (by rw [← hb A]; exact I)
  have hf := hf A
  clear hb
  unfold act at h
  rw [← hf] at h
  generalize zr P none c = c at *
  refine ⟨?_⟩
  obtain ⟨cf, cb, rg, ks⟩ := c
  cases rg with
  | pl => cases hs
  | dr => cases hs
  | one => cases hs
  | ret => cases hs
  | off =>
   cases ks with
   | nil => cases hs
   | cons k ks =>
    cases k with
    | block => cases hs
    | code => cases hs
    | stop J' =>
     obtain rfl : J' = J := Option.some.inj hs
     exact h
def cut1 (c : Cfg) (J : Act → World → Prop) : Cfg :=
 match c.ks with
 | k :: ks => ⟨c.fr, c.bx, c.rg, k :: .stop J :: ks⟩
 | [] => c
def cut2 (c : Cfg) (fr : List SV) (bx : List Box) : Cfg :=
 match c.ks with
 | _ :: ks => ⟨fr, bx, .off, ks⟩
 | [] => c
def s1c (c : Cfg) : Bool :=
 match c.rg, c.ks with
 | .off, .code _ :: _ => true
 | _, _ => false
theorem zcut (I : Inv E w0 A c.bx fs W) (d : Option Nat) (L : List SV → List Box → List PF → Prop)
 (h1 : ∀ J, (∀ fr bx gs A W, L fr bx gs → Inv E w0 A bx gs W → J (act A fr) W) → ∀ A W, Inv E w0 A (cut1 (zr P d c) J).bx fs W → G P Q A (cut1 (zr P d c) J) W)
 (h2 : ∀ fr bx gs, L fr bx gs → ∀ A W, Inv E w0 A (cut2 (zr P d c) fr bx).bx gs W → G P Q A (cut2 (zr P d c) fr bx) W)
 (hr : ∀ A w, (zms P d 5000 c A w).map (·.1) = (zms P d 5000 c A w).map (·.2) := by intro _ _; kernel_rfl)
 (hi : s1c (zr P d c) = true := by kernel_rfl) : G P Q A c W :=
 b0d I hr fun A W I => by
  have h1 := fun J hJ => h1 J hJ A W
  have h2 := fun fr bx gs hL A W I => (h2 fr bx gs hL A W I).out
  generalize zr P d c = c at *
  refine ⟨?_⟩
  obtain ⟨cf, cb, rg, ks⟩ := c
  cases rg with
  | pl => cases hi
  | dr => cases hi
  | one => cases hi
  | ret => cases hi
  | off =>
   cases ks with
   | nil => cases hi
   | cons k ks =>
    cases k with
    | block => cases hi
    | stop => cases hi
    | code b =>
     refine wp_mono (h1 (fun a w => ∃ fr bx gs A, L fr bx gs ∧ a = act A fr ∧ Inv E w0 A bx gs w) (fun fr bx gs A W hL I => ⟨fr, bx, gs, A, hL, rfl, I⟩) I).out ?_
     intro e a w hq
     cases e with
     | normal =>
      obtain ⟨fr, bx, gs, A, hL, rfl, I⟩ := hq
      exact h2 fr bx gs hL A w I
     | exit id => exact hq
     | goto l => exact hq
     | ret => exact hq
     | panic ch => exact hq
     | outgrown => exact hq
def i0x (i : Nat) (y : SV) (c : Cfg) : Cfg :=
 match c.rg with
 | .dr ops A0 m (fuel + 1) listed => match ops[i]? with
  | some o => ⟨putO c.fr o.dst y, c.bx, .dr ops A0 m fuel (listed.setIfInBounds i true), c.ks⟩
  | none => c
 | _ => c
def r0s (P : Program) (i : Nat) (c : Cfg) : Option Eff :=
 match c.rg with
 | .dr ops _ m (_ + 1) listed => match ops[i]? with
  | some o => match Region.noSelect ops && Region.free .any ops listed i && (Region.ready .any ops listed).contains i && wnt ops c.fr o with
   | true => some (eff P (m.map unm) c.fr o)
   | false => none
  | none => none
 | _ => none
theorem r0t (i : Nat) (y : SV) : (i0x i y c).bx = c.bx := by
 unfold i0x
 repeat' split
 all_goals rfl
theorem ztk (i : Nat) (I : Inv E w0 A c.bx fs W) (x y : SV) (hxy : ∀ A, x.r A = y.r A) (h : Inv E w0 A (i0x i y c).bx fs W → G P Q A (i0x i y c) W) (hv : r0s P i c = some (.val x) := by kernel_rfl)
 (hc : ∀ A w, (d0m P i c A w).map (·.1) = (d0m P i c A w).map (·.2) := by intro _ _; kernel_rfl) (hm : dk1 c.rg c.bx = dk2 c.rg := by kernel_rfl) (hQ : g0b Q := by exact d0u) : G P Q A c W := by
 refine ⟨?_⟩
 have h := (h (by rw [r0t]; exact I)).out
 replace hc := fun A w => g0a (hc A w)
 obtain ⟨cf, cb, rg, ks⟩ := c
 cases rg with
 | off => cases hv
 | pl => cases hv
 | one => cases hv
 | ret => cases hv
 | dr ops A0 m fuel listed =>
  cases fuel with
  | zero => cases hv
  | succ fuel =>
   unfold r0s at hv
   unfold i0x at h
   unfold d0m at hc
   simp only at hv h hc
   intro pre
   split at hv
   · rename_i o hi
     rw [hi] at h hc
     split at hv
     · rename_i h1
       simp only [Bool.and_eq_true] at h1
       obtain ⟨⟨⟨h1, h2⟩, h3⟩, hw⟩ := h1
       have hS : SB A0 m W := a1q I pre hm
       have hx := Option.some.inj hv
       simp only [hw] at hc
       have h : WpH P ops (post P Q ks) (SB A0 m) fuel (listed.setIfInBounds i true) (act A (putO cf o.dst y)) W := h pre
       rw [← c0a, ← hxy] at h
       exact n0q i o.dst (x.r A) _ hi rfl rfl h1 h2 h3 (fun c a w => e0g (P := P) hQ ks c a o.dst (x.r A) w) (.inl ⟨by rw [d0k]; exact hw, fun w' hS' => r0m (s1b pre hS') hx (hc A w')⟩) hS h
     · cases hv
   · cases hv
def d1v (i : Nat) (c : Cfg) (A : List Nat) : Option (BinOp × Value × Value) :=
 match c.rg with
 | .dr ops _ _ (_ + 1) listed => match ops[i]? with
  | some o => match Region.noSelect ops && Region.free .any ops listed i && (Region.ready .any ops listed).contains i && wnt ops c.fr o with
   | true => match o.op with
    | .binOp b _ x y _ => some (b, evr A c.fr x, evr A c.fr y)
    | _ => none
   | false => none
  | none => none
 | _ => none
theorem a1r (i : Nat) (I : Inv E w0 A c.bx fs W) {b : BinOp} {X Y : Value} (v : Value) (hx : ∀ t x y W, (do eqGuard b t x y X Y; binOp b t X Y : Sem Value).run P W = .ok v W) (h : Inv E w0 A (i0x i (.v v) c).bx fs W → G P Q A (i0x i (.v v) c) W)
 (hv : d1v i c A = some (b, X, Y) := by kernel_rfl) (hm : dk1 c.rg c.bx = dk2 c.rg := by kernel_rfl) (hQ : g0b Q := by exact d0u) : G P Q A c W := by
 refine ⟨?_⟩
 have h := (h (by rw [r0t]; exact I)).out
 obtain ⟨cf, cb, rg, ks⟩ := c
 cases rg with
 | off => cases hv
 | pl => cases hv
 | one => cases hv
 | ret => cases hv
 | dr ops A0 m fuel listed =>
  cases fuel with
  | zero => cases hv
  | succ fuel =>
   unfold d1v at hv
   unfold i0x at h
   simp only at hv h
   intro pre
   split at hv
   · rename_i o hi
     rw [hi] at h
     split at hv
     · rename_i h1
       simp only [Bool.and_eq_true] at h1
       obtain ⟨⟨⟨h1, h2⟩, h3⟩, hw⟩ := h1
       split at hv
       · rename_i b' t' x y t2 hop
         simp only [Option.some.injEq, Prod.mk.injEq] at hv
         obtain ⟨rfl, e1, e2⟩ := hv
         have hS : SB A0 m W := a1q I pre hm
         have h : WpH P ops (post P Q ks) (SB A0 m) fuel (listed.setIfInBounds i true) (act A (putO cf o.dst (.v v))) W := h pre
         rw [← c0a] at h
         refine n0q i o.dst v _ hi rfl rfl h1 h2 h3 (fun c a w => e0g (P := P) hQ ks c a o.dst v w) (.inl ⟨by rw [d0k]; exact hw, fun w' _ => ?_⟩) hS h
         rw [b0j]
         unfold execOp
         have := hx t' x y w'
         simp only [hop, e1, e2, Sem.run_bind] at this ⊢
         rw [this]
         rfl
       · cases hv
     · cases hv
   · cases hv
theorem zki (i : Nat) (I : Inv E w0 A c.bx fs W) (k : IntKind) (t e : Int) (hp : k.wrap t = e) (h : Inv E w0 A (i0x i (.v (.int k e)) c).bx fs W → G P Q A (i0x i (.v (.int k e)) c) W) (hv : r0s P i c = some (.val (.v (.int k (k.wrap t)))) := by kernel_rfl)
 (hc : ∀ A w, (d0m P i c A w).map (·.1) = (d0m P i c A w).map (·.2) := by intro _ _; kernel_rfl) (hm : dk1 c.rg c.bx = dk2 c.rg := by kernel_rfl) (hQ : g0b Q := by exact d0u) : G P Q A c W :=
 ztk i I (.v (.int k (k.wrap t))) (.v (.int k e)) (fun _ => by show Value.int k (k.wrap t) = .int k e; rw [hp]) h hv hc hm hQ
theorem zkb (i : Nat) (I : Inv E w0 A c.bx fs W) (e b : Bool) (hp : e = b) (h : Inv E w0 A (i0x i (.v (.bool b)) c).bx fs W → G P Q A (i0x i (.v (.bool b)) c) W) (hv : r0s P i c = some (.val (.v (.bool e))) := by kernel_rfl)
 (hc : ∀ A w, (d0m P i c A w).map (·.1) = (d0m P i c A w).map (·.2) := by intro _ _; kernel_rfl) (hm : dk1 c.rg c.bx = dk2 c.rg := by kernel_rfl) (hQ : g0b Q := by exact d0u) : G P Q A c W :=
 ztk i I (.v (.bool e)) (.v (.bool b)) (fun _ => by rw [hp]) h hv hc hm hQ
end
section walk
variable {P : Program} {ops : Array Oper} {rest : List Oper} {o : Oper} {a : Act} {K : Act → World → Prop} {Q : Exit → Act → World → Prop} {w : World}
end walk
theorem Own.kept {w w' : World} {base : Nat} {k : IntKind} {e : TypeId} {p q : OA} {c : Nat} {xs : List Nat} (h : Own w base k e p c xs) (hg : w.grownBy w' (q.map (·.block))) (hne : q.isSome = true → p.isSome = true → blk q ≠ blk p) : Own w' base k e p c xs := by
 refine h.grown hg fun hp => ?_
 cases q with
 | none => simp
 | some a =>
  have := hne rfl hp
  simp [blk] at this ⊢
  exact fun e => this e.symm
end Go.Slip
namespace Go.Proofs.YtgbbhlginbmghaaGreatDoor
open Go.RowKit Go.Slip
end Go.Proofs.YtgbbhlginbmghaaGreatDoor
namespace Go.Slip
open Go.RowKit
theorem Rd.pre {w : World} {k : IntKind} {p : OA} {xs ys : List Nat} (h : Rd w k p (xs ++ ys)) : Rd w k p xs := by
 have hl : (xs ++ ys).length = xs.length + ys.length := List.length_append
 refine ⟨fun h0 => h.solid (by omega), fun j hj => ?_⟩
 rw [h.cells j (by omega)]
 unfold dg
 rw [List.getElem?_append_left hj]
theorem w0r {P : Program} {t e : TypeId} (h : P.underlying t = some (.slice e)) : P.elem t = e := by
 unfold Program.elem
 rw [h]
theorem d1w (p : OA) : p.map (·.add 0) = p := by
 cases p with
 | none => rfl
 | some a => simp [Addr.add]
section
variable {P : Program} {ops : Array Oper} {Q : Exit → Act → World → Prop} {a : Act} {w : World} {rest : List Oper} {o : Oper}
end
def a0a (s : ByteArray) : List Nat := s.data.toList.map UInt8.toNat
theorem b0e (s : ByteArray) : (a0a s).length = s.size := by unfold a0a; rw [List.length_map, Array.length_toList]; rfl
theorem a1s (s : ByteArray) (j : Nat) (h : j < s.size) : (s[j]'h).toNat = dg (a0a s) j := by
 rw [a0x (by rw [b0e]; exact h)]
 simp [a0a]; rfl
theorem p0z (s : ByteArray) : ∀ x ∈ a0a s, x < 256 := by
 intro x hx
 obtain ⟨u, _, rfl⟩ := List.mem_map.1 hx
 exact u.toNat_lt
theorem d0f (s : ByteArray) (i j : Nat) : a0a (s.extract i j) = ((a0a s).take j).drop i := by
 unfold a0a
 rw [ByteArray.data_extract, Array.toList_extract, List.extract_eq_take_drop]
 rw [← List.map_take, ← List.map_drop, List.drop_take]
def n1c (s : ByteArray) : Prop := ∀ j, j < s.size → 48 ≤ dg (a0a s) j ∧ dg (a0a s) j ≤ 57
theorem f0b {w : World} {B : Nat} (hB : B ≤ w.heap.size) (e : TypeId) (s : ByteArray) : Below B w (Lib.bytesWorld w e s) := by
 refine ⟨?_, ?_, ?_, by rw [Lib.bytesWorld_size]; omega, fun i hi => Lib.bytesWorld_at_old w e s i (by omega)⟩
 all_goals (unfold Lib.bytesWorld World.freeze; split <;> rfl)
theorem k0m (w : World) (e : TypeId) (s : ByteArray) : Rd (Lib.bytesWorld w e s) .u8 (some ⟨w.heap.size, 0, none⟩) (a0a s) := by
 refine ⟨fun _ => ⟨rfl, rfl⟩, fun j hj => ?_⟩
 have hj2 : j < s.size := by rw [← b0e]; exact hj
 have h := Lib.bytesWorld_cell w e s j hj2
 simp only [at_, Option.getD_some, Nat.zero_add]
 rw [h, a0x hj]
 simp [a0a, List.getD, hj2]
section walk
variable {P : Program} {ops : Array Oper} {rest : List Oper} {o : Oper} {a : Act} {K : Act → World → Prop} {Q : Exit → Act → World → Prop} {w : World}
theorem i1u (x : Operand) (src dst : TypeId) (ho : o.op = .convert src dst x) {e : TypeId} (hs : P.underlying src = some .string) (hd : P.underlying dst = some (.slice e)) (he : P.underlying e = some (.int .u8))
 (s : ByteArray) (hx : a.eval x = .string s) (h : ∀ p' c' w', Rd w' .u8 p' (a0a s) → Below w.heap.size w w' → K (a.put o.dst (.slice p' s.size c')) w') : o.wp P a w K Q := by
 unfold Oper.wp execOp
 simp only [ho, hx]
 have hr := Lib.run_convert_string_bytes (P := P) w src dst e s hs hd he
 simp [hr, Oper.upon]
 exact h _ _ _ (k0m w e s) (f0b (Nat.le_refl _) e s)
theorem t0x (hgd : o.guard = none) (x : Operand) (src dst : TypeId) (ho : o.op = .convert src dst x) {e : TypeId} (hs : P.underlying src = some .string) (hd : P.underlying dst = some (.slice e)) (he : P.underlying e = some (.int .u8))
 (s : ByteArray) (hx : a.eval x = .string s) (h : ∀ p' c' w', Rd w' .u8 p' (a0a s) → Below w.heap.size w w' → wpList P ops Q rest (a.put o.dst (.slice p' s.size c')) w') : wpList P ops Q (o :: rest) a w :=
 wpList_plain hgd fun _ hK => i1u x src dst ho hs hd he s hx fun p' c' w' h900 h901 => hK _ _ (h p' c' w' h900 h901)
end walk
structure RdV (w : World) (p : OA) (vs : List Value) : Prop where
 solid : h0m p vs.length
 cells : ∀ j, j < vs.length → w.cell? (at_ p j) = vs[j]?
theorem RdV.nil (w : World) (p : OA) : RdV w p [] := ⟨fun h => by simp at h, fun j hj => by simp at hj⟩
theorem RdV.lt {w : World} {p : OA} {vs : List Value} (h : RdV w p vs) (h0 : 0 < vs.length) : blk p < w.heap.size :=
 World.block_lt_of_cell? w (at_ p 0) (u := vs[0]) (by rw [h.cells 0 h0, List.getElem?_eq_getElem h0])
theorem RdV.same {w w' : World} {p : OA} {vs : List Value} (h : RdV w p vs) (hb : 0 < vs.length → w'.heap[blk p]? = w.heap[blk p]?) : RdV w' p vs :=
 ⟨h.solid, fun j hj => by rw [World.cell?_of_block (w := w) (a := at_ p j) (hb (by omega))]; exact h.cells j hj⟩
theorem RdV.below {w w' : World} {B : Nat} {p : OA} {vs : List Value} (h : RdV w p vs) (hb : Below B w w') (hp : 0 < vs.length → blk p < B) : RdV w' p vs :=
 h.same fun h0 => hb.block _ (hp h0)
theorem RdV.past {w w' : World} {p : OA} {vs : List Value} (h : RdV w p vs) (hb : Below w.heap.size w w') : RdV w' p vs :=
 h.below hb fun h0 => h.lt h0
theorem RdV.drop {w : World} {p : OA} {vs : List Value} (h : RdV w p vs) (n : Nat) : RdV w (p.map (·.add n)) (vs.drop n) := by
 refine ⟨fun h0 => ?_, fun j hj => ?_⟩
 · have h1 := h.solid (by simp at h0; omega)
   refine ⟨by simpa using h1.1, ?_⟩
   rw [r0a p n h1.1]
   unfold Addr.add
   split
   · exact h1.2
   · rfl
 · simp only [List.length_drop] at hj
   have h1 := h.solid (by omega)
   rw [c1s p n j h1.1, h.cells (n + j) (by omega), List.getElem?_drop]
theorem RdV.take {w : World} {p : OA} {vs : List Value} (h : RdV w p vs) (n : Nat) : RdV w p (vs.take n) := by
 refine ⟨h.solid.mono (by simp; omega), fun j hj => ?_⟩
 simp only [List.length_take] at hj
 rw [h.cells j (by omega), List.getElem?_take, if_pos (by omega)]
theorem Rd.v {w : World} {k : IntKind} {p : OA} {xs : List Nat} (h : Rd w k p xs) : RdV w p (xs.map fun x : Nat => Value.int k (x : Int)) := by
 refine ⟨by rw [List.length_map]; exact h.solid, fun j hj => ?_⟩
 rw [List.length_map] at hj
 rw [h.cells j hj, List.getElem?_map]
 simp [hj, a0x]
def OwnV (w : World) (base : Nat) (e : TypeId) (p : OA) (c : Nat) (vs : List Value) : Prop := w.ownsRow base e 1 (.slice p vs.length c) vs.length vs
theorem Own.v {w : World} {base : Nat} {k : IntKind} {e : TypeId} {p : OA} {c : Nat} {xs : List Nat} (h : Own w base k e p c xs) : OwnV w base e p c (xs.map fun x : Nat => Value.int k (x : Int)) := by
 unfold OwnV
 rw [List.length_map]
 exact h
theorem i1v {w : World} {base : Nat} {k : IntKind} {e : TypeId} {p : OA} {c : Nat} {xs : List Nat} (h : OwnV w base e p c (xs.map fun x : Nat => Value.int k (x : Int))) : Own w base k e p c xs := by
 unfold OwnV at h
 rw [List.length_map] at h
 exact h
theorem OwnV.nil (w : World) (base : Nat) (e : TypeId) : OwnV w base e none 0 [] := World.ownsRow_nil w base e 1
theorem OwnV.form {w : World} {base : Nat} {e : TypeId} {p : OA} {c : Nat} {vs : List Value} (h : OwnV w base e p c vs) :
 (p = none ∧ c = 0 ∧ vs = []) ∨ ∃ g, p = some ⟨g, 0, none⟩ ∧ base ≤ g ∧ g < w.heap.size ∧ vs.length ≤ c ∧ c ≤ maxLen := by
 rcases h.2 with ⟨h1, h2⟩ | ⟨g, cap, cur, hv, hb, hg, hn, hc, _, _⟩
 · left
   simp only [Value.slice.injEq] at h1
   exact ⟨h1.1, h1.2.2, List.eq_nil_of_length_eq_zero h2⟩
 · right
   simp only [Value.slice.injEq] at hv
   obtain ⟨rfl, _, rfl⟩ := hv
   exact ⟨g, rfl, hb, (Array.getElem?_eq_some_iff.1 hg).1, hn, hc⟩
theorem OwnV.mono {w : World} {base b' : Nat} {e : TypeId} {p : OA} {c : Nat} {vs : List Value} (h : OwnV w base e p c vs) (hb : b' ≤ base) : OwnV w b' e p c vs := by
 refine ⟨h.1, ?_⟩
 rcases h.2 with h1 | ⟨g, cap, cur, hv, hbg, r⟩
 · exact .inl h1
 · exact .inr ⟨g, cap, cur, hv, by omega, r⟩
theorem OwnV.le_cap {w : World} {base : Nat} {e : TypeId} {p : OA} {c : Nat} {vs : List Value} (h : OwnV w base e p c vs) : vs.length ≤ c := by
 rcases h.form with ⟨_, rfl, rfl⟩ | ⟨g, _, _, _, h, _⟩
 · simp
 · exact h
theorem OwnV.rd {w : World} {base : Nat} {e : TypeId} {p : OA} {c : Nat} {vs : List Value} (h : OwnV w base e p c vs) : RdV w p vs := by
 rcases h.form with ⟨rfl, _, rfl⟩ | ⟨g, rfl, _⟩
 · exact RdV.nil w none
 · refine ⟨fun _ => ⟨rfl, rfl⟩, fun j hj => ?_⟩
   have h1 := World.ownsRow.cellAt (w := w) (base := base) (e := e) (size := 1) (g := g) (n := vs.length) (cap := c) h j (by omega)
   simp only [at_, Option.getD_some, Nat.zero_add]
   exact h1
theorem OwnV.blk_lt {w : World} {base : Nat} {e : TypeId} {p : OA} {c : Nat} {vs : List Value} (h : OwnV w base e p c vs) (hp : p.isSome = true) : base ≤ blk p ∧ blk p < w.heap.size := by
 rcases h.form with ⟨rfl, _, rfl⟩ | ⟨g, rfl, h1, h2, _⟩
 · simp at hp
 · exact ⟨h1, h2⟩
theorem OwnV.same {w w' : World} {base : Nat} {e : TypeId} {p : OA} {c : Nat} {vs : List Value} (h : OwnV w base e p c vs) (hb : p.isSome = true → w'.heap[blk p]? = w.heap[blk p]?) : OwnV w' base e p c vs := by
 refine ⟨h.1, ?_⟩
 rcases h.2 with h1 | ⟨g, cap, cur, hv, hbg, hg, r⟩
 · exact .inl h1
 · simp only [Value.slice.injEq] at hv
   obtain ⟨rfl, h2, rfl⟩ := hv
   exact .inr ⟨g, c, cur, rfl, hbg, by rw [← hg]; exact hb rfl, r⟩
theorem OwnV.below {w w' : World} {base B : Nat} {e : TypeId} {p : OA} {c : Nat} {vs : List Value} (h : OwnV w base e p c vs) (hb : Below B w w') (hp : p.isSome = true → blk p < B) : OwnV w' base e p c vs :=
 h.same fun h0 => hb.block _ (hp h0)
theorem OwnV.past {w w' : World} {base : Nat} {e : TypeId} {p : OA} {c : Nat} {vs : List Value} (h : OwnV w base e p c vs) (hb : Below w.heap.size w w') : OwnV w' base e p c vs :=
 h.below hb fun h0 => (h.blk_lt h0).2
theorem o1s {w : World} {base : Nat} {e : TypeId} {p : OA} {c : Nat} {vs : List Value} (h : OwnV w base e p c vs) (j : Nat) (hj : j < vs.length) (v : Value) :
 OwnV (w.setCell (at_ p j) v) base e p c (vs.set j v) ∧ w.grownBy (w.setCell (at_ p j) v) (some (blk p)) ∧ base ≤ blk p := by
 rcases h.form with ⟨rfl, _, rfl⟩ | ⟨g, rfl, hb, _⟩
 · simp at hj
 · have h1 := World.ownsRow.stored (w := w) (base := base) (e := e) (size := 1) (g := g) (n := vs.length) (cap := c) h j v
   simp only [at_, Option.getD_some, Nat.zero_add]
   refine ⟨?_, h1.2, hb⟩
   unfold OwnV
   rw [List.length_set]
   exact h1.1
theorem o1t {w : World} {base : Nat} {e : TypeId} {p : OA} {c : Nat} {vs : List Value} (h : OwnV w base e p c vs) (j : Nat) (hj : j < vs.length) : w.frozen? (at_ p j) = false := by
 rcases h.form with ⟨rfl, _, rfl⟩ | ⟨g, rfl, hb, _⟩
 · simp at hj
 · simpa [at_] using World.ownsRow.frozenAt (w := w) (base := base) (e := e) (size := 1) (g := g) (n := vs.length) (cap := c) h j
structure k0n (P : Program) (t e : TypeId) (z : Value) (bytes : Nat) : Prop where
 ht : P.underlying t = some (.slice e)
 hi : ∃ i, P.info? e = some i ∧ i.zero = some z ∧ i.size = 1 ∧ i.bytes = bytes
 hz : z.cells = #[z]
 h1 : z.oneCell' = true
 le : bytes ≤ 16
section walk
variable {P : Program} {ops : Array Oper} {rest : List Oper} {o : Oper} {a : Act} {Q : Exit → Act → World → Prop} {w : World} {K : Act → World → Prop}
end walk
structure Wr (w : World) (base : Nat) (k : IntKind) (p : OA) (xs : List Nat) : Prop where
 rd : Rd w k p xs
 fr : ∀ j, j < xs.length → w.frozen? (at_ p j) = false
 from_ : 0 < xs.length → base ≤ blk p
theorem Own.wr {w : World} {base : Nat} {k : IntKind} {e : TypeId} {p : OA} {c : Nat} {xs : List Nat} (h : Own w base k e p c xs) : Wr w base k p xs :=
 ⟨h.rd, fun j hj => f0g h j hj, fun h0 => (h.blk_lt (h.rd.solid h0).1).1⟩
theorem Wr.mono {w : World} {base b' : Nat} {k : IntKind} {p : OA} {xs : List Nat} (h : Wr w base k p xs) (hb : b' ≤ base) : Wr w b' k p xs := ⟨h.rd, h.fr, fun h0 => Nat.le_trans hb (h.from_ h0)⟩
theorem Wr.same {w w' : World} {base : Nat} {k : IntKind} {p : OA} {xs : List Nat} (h : Wr w base k p xs) (hb : 0 < xs.length → w'.heap[blk p]? = w.heap[blk p]?) : Wr w' base k p xs :=
 ⟨h.rd.same hb, fun j hj => by rw [World.frozen?_of_block (w := w) (a := at_ p j) (hb (by omega))]; exact h.fr j hj, h.from_⟩
theorem Wr.past {w w' : World} {base : Nat} {k : IntKind} {p : OA} {xs : List Nat} (h : Wr w base k p xs) (hb : Below w.heap.size w w') : Wr w' base k p xs :=
 h.same fun h0 => hb.block _ (h.rd.lt h0)
theorem Wr.drew {w : World} {base : Nat} {k : IntKind} {p : OA} {xs : List Nat} (h : Wr w base k p xs) : Wr w.drew base k p xs := h.same fun _ => rfl
theorem s1d {p : OA} {i j : Nat} (h : i ≠ j) : at_ p i ≠ at_ p j := by
 unfold at_
 intro e
 simp only [Addr.mk.injEq, true_and, and_true] at e
 omega
theorem Wr.set {w : World} {base : Nat} {k : IntKind} {p : OA} {xs : List Nat} (h : Wr w base k p xs) (j : Nat) (hj : j < xs.length) (n : Nat) :
 Wr (w.setCell (at_ p j) (.int k (n : Int))) base k p (xs.set j n) ∧ w.grownBy (w.setCell (at_ p j) (.int k (n : Int))) (some (blk p)) ∧ base ≤ blk p := by
 refine ⟨⟨⟨by rw [List.length_set]; exact h.rd.solid, fun i hi => ?_⟩, fun i hi => ?_, fun _ => h.from_ (by omega)⟩, ?_, h.from_ (by omega)⟩
 · rw [List.length_set] at hi
   by_cases e : j = i
   · subst e
     rw [World.cell?_setCell_same (h := h.rd.cells j hj)]
     unfold dg
     rw [List.getElem?_set_self hj]
     rfl
   · rw [World.cell?_setCell_other (h := s1d e), h.rd.cells i hi]
     unfold dg
     rw [List.getElem?_set_ne e]
 · rw [List.length_set] at hi
   rw [World.frozen?_setCell]
   exact h.fr i hi
 · refine ⟨rfl, rfl, rfl, by simp [World.setCell], fun b _ hne => ?_⟩
   show (w.heap.modify _ _)[b]? = _
   rw [Array.getElem?_modify, if_neg (fun e => hne (by rw [← e]; rfl))]
theorem r0u (w : World) (e : TypeId) (s : ByteArray) : Wr (Lib.bytesWorld w e s) w.heap.size .u8 (some ⟨w.heap.size, 0, none⟩) (a0a s) := by
 refine ⟨k0m w e s, fun j hj => ?_, fun _ => Nat.le_refl _⟩
 have hj2 : j < s.size := by rw [← b0e]; exact hj
 unfold World.frozen? at_
 simp only [Option.getD_some, Nat.zero_add]
 rw [Lib.bytesWorld_at_new]
 have : s.size ≤ (Lib.bytesCells w e s).size := by
  unfold Lib.bytesCells
  rw [Array.size_append, Array.size_map]
  exact Nat.le_add_right _ _
 simp only [Bool.and_eq_false_iff, decide_eq_false_iff_not]
 left
 omega
section walk
variable {P : Program} {ops : Array Oper} {rest : List Oper} {o : Oper} {a : Act} {K : Act → World → Prop} {Q : Exit → Act → World → Prop} {w : World}
end walk
section walk
variable {P : Program} {ops : Array Oper} {rest : List Oper} {o : Oper} {a : Act} {K : Act → World → Prop} {Q : Exit → Act → World → Prop} {w : World}
theorem i1w (x y : Operand) (t : TypeId) (ho : o.op = .makeSlice t x y) {e : TypeId} {k : IntKind} {bytes : Nat} (hty : SlTy P t e k bytes) (kl kc : IntKind) (n m : Nat) (i1 i2 : Int)
 (hx : a.eval x = .int kl i1) (hy : a.eval y = .int kc i2) (h1 : i1 = n) (h2 : i2 = m) (hnm : n ≤ m) (hb : m ≤ 4000000000)
 (h : ∀ p' c' w', Own w' w.heap.size k e p' c' (List.replicate n 0) → Below w.heap.size w w' → w.heap.size < w'.heap.size → K (a.put o.dst (.slice p' n c')) w') : o.wp P a w K Q := by
 subst h1 h2
 obtain ⟨i, hi, hz, hs, hbt⟩ := hty.hi
 have hbb : (i.bytes : Int) * (m : Int) ≤ 281474976710656 := by
  have h1 : m * i.bytes ≤ 4000000000 * 8 := Nat.mul_le_mul hb (by rw [hbt]; exact hty.le)
  have h2 : ((i.bytes * m : Nat) : Int) ≤ 281474976710656 := by rw [Nat.mul_comm]; omega
  rwa [Int.natCast_mul] at h2
 have hr := run_make (P := P) w t e i (.int k 0) hty.ht hi hz kl kc n m (by omega) (by omega) hbb (by omega)
 simp only [Int.toNat_natCast, hs, Nat.mul_one] at hr
 unfold Oper.wp execOp
 simp only [ho, hx, hy]
 simp only [Sem.run_bind, hr, Result.andThen_ok, Sem.run_pure]
 have hO : Own (w.alloc (.cells (madeCells (Value.cells (.int k 0)) m) e)) w.heap.size k e (some ⟨w.heap.size, 0, none⟩) m (List.replicate m 0) := by
  unfold Own
  rw [List.length_replicate, List.map_replicate]
  have : (madeCells (Value.cells (.int k 0)) m).toList = List.replicate m (.int k ((0 : Nat) : Int)) := toList_madeCells_one _ _
  rw [← this]
  exact World.ownsRow_lit w _ m (Nat.le_refl _) (by simp only [maxLen]; omega) (by simp [madeCells])
 have hO2 := hO.take n
 rw [List.take_replicate, Nat.min_eq_left hnm] at hO2
 exact h _ _ _ hO2 ((Below.refl _ _).alloc (Nat.le_refl _) _) (by simp)
theorem d1x (hgd : o.guard = none) (x y : Operand) (t : TypeId) (ho : o.op = .makeSlice t x y) {e : TypeId} {k : IntKind} {bytes : Nat} (hty : SlTy P t e k bytes) (kl kc : IntKind) (n m : Nat) (i1 i2 : Int)
 (hx : a.eval x = .int kl i1) (hy : a.eval y = .int kc i2) (h1 : i1 = n) (h2 : i2 = m) (hnm : n ≤ m) (hb : m ≤ 4000000000)
 (h : ∀ p' c' w', Own w' w.heap.size k e p' c' (List.replicate n 0) → Below w.heap.size w w' → w.heap.size < w'.heap.size → wpList P ops Q rest (a.put o.dst (.slice p' n c')) w') : wpList P ops Q (o :: rest) a w :=
 wpList_plain hgd fun _ hK => i1w x y t ho hty kl kc n m i1 i2 hx hy h1 h2 hnm hb fun p' c' w' h900 h901 h902 => hK _ _ (h p' c' w' h900 h901 h902)
end walk
theorem a1t (p : OA) (l n c : Nat) (h : l < c) : sliced p l n c 1 = .slice (p.map (·.add l)) (n - l) (c - l) := by
 unfold sliced
 rw [if_neg (by omega), Nat.mul_one]
section
variable {P : Program} {ops : Array Oper} {Q : Exit → Act → World → Prop} {a : Act} {w : World} {rest : List Oper} {o : Oper}
end
section
variable {P : Program} {a : Act} {w : World} {dst : Option Tmp} {t2 : TypeId} {pos : String} {af : Array Edge} {g : Option (Nat × Bool)} {x y : Operand}
theorem y0n {src dt e : TypeId} (hs : P.underlying src = some (.slice e)) (he : P.underlying e = some (.int .u8)) (hd : P.underlying dt = some .string) {p : OA} {n c : Nat} {xs : List Nat} (hr : Rd w .u8 p xs) (hn : n = xs.length)
 (hx : a.eval x = .slice p n c) : (execOp a.eval ⟨dst, .convert src dt x, t2, pos, af, g⟩).run P w = .ok (.value (.string (a0d xs))) w := by
 unfold execOp
 simp only [hx]
 simp [f0n (P := P) w src dt e hs he hd p n c xs hr hn]
theorem l0t {P : Program} {t e : TypeId} {z : Value} {bytes : Nat} (hty : k0n P t e z bytes) (w : World) : (sizeOf (P.elem t)).run P w = .ok 1 w := by
 obtain ⟨i, hi, -, hs, -⟩ := hty.hi
 rw [w0r hty.ht]
 simp [sizeOf, typeInfo, hi, hs]
theorem k0o {P : Program} {t e : TypeId} {z : Value} {bytes : Nat} (hty : k0n P t e z bytes) : P.underlying t = some (.slice (P.elem t)) := by
 rw [w0r hty.ht]; exact hty.ht
variable {k : IntKind} {X Y : Int} {xT yT : TypeId}
end
theorem Bx.e9 {w : World} {b : Nat} {v0 v1 v2 v3 v4 v5 v6 v7 v8 : Value} (h : Bx w b #[v0, v1, v2, v3, v4, v5, v6, v7, v8]) : w.cell? ⟨b, 0, none⟩ = some v0 ∧ w.cell? ⟨b, 1, none⟩ = some v1 ∧ w.cell? ⟨b, 2, none⟩ = some v2 ∧ w.cell? ⟨b, 3, none⟩ = some v3 ∧ w.cell? ⟨b, 4, none⟩ = some v4 ∧ w.cell? ⟨b, 5, none⟩ = some v5 ∧ w.cell? ⟨b, 6, none⟩ = some v6 ∧ w.cell? ⟨b, 7, none⟩ = some v7 ∧ w.cell? ⟨b, 8, none⟩ = some v8 := ⟨h.c 0 rfl, h.c 1 rfl, h.c 2 rfl, h.c 3 rfl, h.c 4 rfl, h.c 5 rfl, h.c 6 rfl, h.c 7 rfl, h.c 8 rfl⟩
theorem n0w {x E : Nat} (hx : x < 2 ^ 63) (hE : E ≤ 60) : bits .and .i64 (x : Int) ((2 ^ E - 1 : Nat) : Int) = ((x % 2 ^ E : Nat) : Int) := by
 have p1 : 2 ^ E ≤ 2 ^ 60 := Nat.pow_le_pow_right (by omega) hE
 have h2 : (BitVec.ofInt 64 (x : Int)).toNat = x := by rw [BitVec.ofInt_natCast, BitVec.toNat_ofNat, Nat.mod_eq_of_lt (by omega)]
 have h1 : (BitVec.ofInt 64 ((2 ^ E - 1 : Nat) : Int)).toNat = 2 ^ E - 1 := by rw [BitVec.ofInt_natCast, BitVec.toNat_ofNat, Nat.mod_eq_of_lt (by omega)]
 have key : (BitVec.ofInt 64 (x : Int) &&& BitVec.ofInt 64 ((2 ^ E - 1 : Nat) : Int)).toNat = x % 2 ^ E := by
  rw [BitVec.toNat_and, h2, h1, Nat.and_two_pow_sub_one_eq_mod]
 show IntKind.i64.wrap ((BitVec.ofInt 64 (x : Int) &&& BitVec.ofInt 64 ((2 ^ E - 1 : Nat) : Int)).toNat : Nat) = _
 rw [key]
 have : x % 2 ^ E < 2 ^ E := Nat.mod_lt _ (Nat.pow_pos (by omega))
 exact iwo
theorem a1u {x E : Nat} (hx : x < 2 ^ E) (hE : E ≤ 60) : bits .or .i64 (x : Int) ((2 ^ E : Nat) : Int) = ((2 ^ E + x : Nat) : Int) := by
 have p1 : 2 ^ E ≤ 2 ^ 60 := Nat.pow_le_pow_right (by omega) hE
 have h2 : (BitVec.ofInt 64 (x : Int)).toNat = x := by rw [BitVec.ofInt_natCast, BitVec.toNat_ofNat, Nat.mod_eq_of_lt (by omega)]
 have h1 : (BitVec.ofInt 64 ((2 ^ E : Nat) : Int)).toNat = 2 ^ E := by rw [BitVec.ofInt_natCast, BitVec.toNat_ofNat, Nat.mod_eq_of_lt (by omega)]
 have key : (BitVec.ofInt 64 (x : Int) ||| BitVec.ofInt 64 ((2 ^ E : Nat) : Int)).toNat = 2 ^ E + x := by
  rw [BitVec.toNat_or, h2, h1, Nat.or_comm]
  have := Nat.two_pow_add_eq_or_of_lt hx 1
  rw [Nat.mul_one] at this
  exact this.symm
 show IntKind.i64.wrap ((BitVec.ofInt 64 (x : Int) ||| BitVec.ofInt 64 ((2 ^ E : Nat) : Int)).toNat : Nat) = _
 rw [key]
 exact iwo
theorem r0v {E : Nat} (hE : E ≤ 60) : IntKind.i64.wrap (1 * 2 ^ (min (E : Int).toNat IntKind.i64.bits)) = ((2 ^ E : Nat) : Int) := by
 have p1 : 2 ^ E ≤ 2 ^ 60 := Nat.pow_le_pow_right (by omega) hE
 rw [Int.toNat_natCast, show IntKind.i64.bits = 64 from rfl, Nat.min_eq_left (by omega), Int.one_mul, show ((2 : Int) ^ E) = ((2 ^ E : Nat) : Int) by norm_cast]
 generalize 2 ^ E = T at *
 exact iwo
theorem d1y {x E : Nat} (hE : E ≤ 60) : (x : Int).fdiv (2 ^ (min (E : Int).toNat IntKind.i64.bits)) = ((x / 2 ^ E : Nat) : Int) := by
 rw [Int.toNat_natCast, show IntKind.i64.bits = 64 from rfl, Nat.min_eq_left (by omega), show ((2 : Int) ^ E) = ((2 ^ E : Nat) : Int) by norm_cast, Int.fdiv_eq_ediv_of_nonneg _ (Int.natCast_nonneg _)]
 rfl
def t0y (fn : Func) : Code := match fn.body with | some c => c | none => .skip
def cfg0 (fn : Func) (fr : List SV) (bx : List Box) : Cfg := ⟨fr ++ List.replicate (fn.ntmps - fr.length) (.v undef), bx, .off, [.code (t0y fn)]⟩
theorem a0c {P : Program} {E : List Nat} {w : World} {A : List Nat} {bx : List Box} {fs : List PF} {f : FuncId} {fn : Func} {args : Array Value} {R : Ending → World → Prop} (fr : List SV) (_ : Inv E w A bx fs w) (hf : P.funcs[f]? = some fn)
 (h : G P (bodyPost P fn R) A (cfg0 fn fr bx) w) (hb : fn.body.isSome = true := by kernel_rfl) (ha : fr.map (SV.r A) = args.toList := by kernel_rfl) : Calls P f args w R := by
 have hb2 : fn.body = some (t0y fn) := by
  unfold t0y
  cases h : fn.body with
  | none => rw [h] at hb; cases hb
  | some c => rfl
 refine calls_of_wp hf hb2 ?_
 have hl : fr.length = args.size := by rw [← Array.length_toList, ← ha, List.length_map]
 have e : (⟨args ++ Array.replicate (fn.ntmps - args.size) undef, []⟩ : Act) = act A (cfg0 fn fr bx).fr := by
  unfold act cfg0
  simp only [Act.mk.injEq, and_true]
  rw [List.map_append, ha, List.map_replicate, hl]
  apply Array.toList_inj.1
  simp [SV.r]
 rw [e]
 exact h.out
/-! ### What is handed in -/
def btL (w : World) (A0 : List Nat) : List Nat → List Box → Prop
 | a :: A, b :: bx => Bt w a b.t (b.row A0) ∧ btL w A0 A bx
 | [], [] => True
 | _, _ => False
theorem w0s {w : World} {A0 : List Nat} : ∀ {A : List Nat} {bx : List Box}, btL w A0 A bx → A.length = bx.length ∧ ∀ k, k < bx.length → Bt w (lk 0 A k) (lk bx0 bx k).t ((lk bx0 bx k).row A0)
 | [], [], _ => ⟨rfl, fun _ h => by simp at h⟩
 | a :: A, b :: bx, h => by
  have ih := w0s h.2
  refine ⟨by simp [ih.1], fun k hk => ?_⟩
  cases k with
  | zero => exact h.1
  | succ k => exact ih.2 k (by simpa using hk)
 | [], _ :: _, h => h.elim
 | _ :: _, [], h => h.elim
def i1x : List Box → Bool
 | [] => true
 | b :: l => match b.ro with | true => i1x l | false => false
theorem n0x : ∀ {l : List Box}, i1x l = true → ∀ k, k < l.length → (lk bx0 l k).ro = true
 | [], _, _, h => by simp at h
 | b :: l, h, k, hk => by
  unfold i1x at h
  split at h
  · rename_i hb
    cases k with
    | zero => exact hb
    | succ k => exact n0x h k (by simpa using hk)
  · cases h
theorem Inv.startR (w : World) (A : List Nat) (bx : List Box) (fs : List PF) (hb : btL w A A bx) (hf : PF.all w fs) (hr : i1x bx = true := by kernel_rfl) : Inv [] w A bx fs w := by
 have hF : ∀ a, Fa A bx a → False := fun a ⟨k, hk, h, _⟩ => by rw [n0x hr k hk] at h; cases h
 exact ⟨Kp.refl _ _, fun a h => (hF a h).elim, fun i j hi _ h => (by rw [n0x hr i hi] at h; cases h), (w0s hb).1, List.nil_prefix, (w0s hb).2, hf, fun a h => (hF a h).elim⟩
theorem Inv.startW (w : World) (b : Nat) (t : TypeId) (cs : List SV) (fs : List PF) {row : Array Value} (hb : Bt w b t row) (hf : PF.all w fs) (hfar : PF.far b fs) (hrow : row = (cs.map (SV.r [b])).toArray := by kernel_rfl) : Inv [b] w [b] [⟨t, cs, false⟩] fs w := by
 have hF : ∀ a, Fa [b] [⟨t, cs, false⟩] a → a = b := fun a ⟨k, hk, _, e⟩ => by
  obtain rfl : k = 0 := by simpa using hk
  exact e
 refine ⟨Kp.refl _ _, fun a h => .inr (by rw [hF a h]; simp), fun i j hi hj _ hn => ?_, rfl, List.prefix_refl _, fun k hk => ?_, hf, fun a h => by rw [hF a h]; exact hfar⟩
 · simp at hi hj
   omega
 · obtain rfl : k = 0 := by simpa using hk
   rw [hrow] at hb
   exact hb
/-! ### Facts -/
def ownF (b : Nat) (k : IntKind) (e : TypeId) (p : OA) (c : Nat) (xs : List Nat) : PF :=
 ⟨fun w => Own w b k e p c xs, fun a => p.isSome = true ∧ blk p = a, fun _ _ h hb _ => h.same fun hp => hb _ (h.blk_lt hp).2 ⟨hp, rfl⟩, fun _ _ h hf => hf.2 ▸ (h.blk_lt hf.1).2⟩
def rdF (k : IntKind) (p : OA) (xs : List Nat) : PF :=
 ⟨fun w => Rd w k p xs, fun a => 0 < xs.length ∧ blk p = a, fun _ _ h hb _ => h.same fun hp => hb _ (h.lt hp) ⟨hp, rfl⟩, fun _ _ h hf => hf.2 ▸ h.lt hf.1⟩
def rfF (b : Nat) (p : OA) (c : Nat) (xs : List Nat) : PF :=
 ⟨fun w => Rf w b p c xs, fun a => 0 < xs.length ∧ blk p = a, fun _ _ h hb _ => ⟨h.rd.same fun hp => hb _ (h.rd.lt hp) ⟨hp, rfl⟩, h.cap, h.at_⟩, fun _ _ h hf => hf.2 ▸ h.rd.lt hf.1⟩
def b0z (b : Nat) (e : TypeId) (p : OA) (c : Nat) (vs : List Value) : PF :=
 ⟨fun w => OwnV w b e p c vs, fun a => p.isSome = true ∧ blk p = a, fun _ _ h hb _ => h.same fun hp => hb _ (h.blk_lt hp).2 ⟨hp, rfl⟩, fun _ _ h hf => hf.2 ▸ (h.blk_lt hf.1).2⟩
def rdvF (p : OA) (vs : List Value) : PF :=
 ⟨fun w => RdV w p vs, fun a => 0 < vs.length ∧ blk p = a, fun _ _ h hb _ => h.same fun hp => hb _ (h.lt hp) ⟨hp, rfl⟩, fun _ _ h hf => hf.2 ▸ h.lt hf.1⟩
theorem OwnV.far {w : World} {base : Nat} {e : TypeId} {p : OA} {c : Nat} {xs : List Value} (h : OwnV w base e p c xs) {b : Nat} {t : TypeId} {vs : Array Value} (hX : Bt w b t vs) (hne : Nat.beq t e = false) (hp : p.isSome = true) : blk p ≠ b := by
 rcases h.2 with ⟨h1, h2⟩ | ⟨g, cap, cur, hv, hb, hg, _⟩
 · simp only [Value.slice.injEq] at h1
   rw [h1.1] at hp; cases hp
 · simp only [Value.slice.injEq] at hv
   intro hE
   rw [hv.1] at hE
   have hE2 : g = b := hE
   subst hE2
   have hE3 := hg.symm.trans hX
   simp only [Option.some.injEq, Obj.cells.injEq] at hE3
   rw [hE3.2.1] at hne
   simp at hne
def r0w (e : TypeId) : List Box → Bool
 | [] => true
 | b :: l => match Nat.beq b.t e with | true => false | false => r0w e l
theorem g0m {e : TypeId} : ∀ {l : List Box}, r0w e l = true → ∀ k, k < l.length → Nat.beq (lk bx0 l k).t e = false
 | [], _, _, h => by simp at h
 | b :: l, h, k, hk => by
  unfold r0w at h
  split at h
  · cases h
  · rename_i hb
    cases k with
    | zero => exact hb
    | succ k => exact g0m h k (by simpa using hk)
section
variable {E : List Nat} {w0 : World} {A : List Nat} {bx : List Box} {fs : List PF} {W : World}
def d1z (bx : List Box) (k : Nat) (A : List Nat) : Option (TypeId × Array Value) := match Nat.ble (k + 1) bx.length with | true => some ((lk bx0 bx k).t, (lk bx0 bx k).row A) | false => none
theorem Inv.box (I : Inv E w0 A bx fs W) (k : Nat) (t : TypeId) (vs : Array Value) (h : d1z bx k A = some (t, vs) := by kernel_rfl) : Bt W (lk 0 A k) t vs := by
 unfold d1z at h
 split at h
 · rename_i hk
   simp only [Option.some.injEq, Prod.mk.injEq] at h
   have := I.bt k (h0k hk)
   rw [h.1, h.2] at this
   exact this
 · cases h
theorem Inv.boxE {b : Nat} (I : Inv (b :: E) w0 A bx fs W) (t : TypeId) (vs : Array Value) (h : d1z bx 0 A = some (t, vs) := by kernel_rfl) : Bt W b t vs := by
 have := I.box 0 t vs h
 rw [t0v I.pre (k := 0) (by simp)] at this
 exact this
theorem Inv.geB (I : Inv [] w0 A bx fs W) (k : Nat) (h : Nat.ble (k + 1) bx.length = true := by kernel_rfl) (hr : (lk bx0 bx k).ro = false := by kernel_rfl) : w0.heap.size ≤ lk 0 A k :=
 (I.ge _ ⟨k, h0k h, hr, rfl⟩).resolve_right (by simp)
theorem Inv.adE (I : Inv E w0 A bx fs W) (k : Nat) (h : k < E.length) : lk 0 A k = lk 0 E k := t0v I.pre h
theorem Inv.own (I : Inv E w0 A bx fs W) {b : Nat} {k : IntKind} {e : TypeId} {p : OA} {c : Nat} {xs : List Nat} (o : Own W b k e p c xs) (hb : w0.heap.size ≤ b := by first | exact Nat.le_refl _ | assumption | omega) (hne : r0w e bx = true := by kernel_rfl) :
 Inv E w0 A bx (ownF w0.heap.size k e p c xs :: fs) W :=
 I.add (ownF w0.heap.size k e p c xs) (o.mono hb) fun a ha hf => by
  obtain ⟨j, hj, _, rfl⟩ := ha
  exact o.far (I.bt j hj) (g0m hne j hj) hf.1 hf.2
theorem Inv.ownv (I : Inv E w0 A bx fs W) {b : Nat} {e : TypeId} {p : OA} {c : Nat} {xs : List Value} (o : OwnV W b e p c xs) (hb : w0.heap.size ≤ b := by first | exact Nat.le_refl _ | assumption | omega) (hne : r0w e bx = true := by kernel_rfl) :
 Inv E w0 A bx (b0z w0.heap.size e p c xs :: fs) W :=
 I.add (b0z w0.heap.size e p c xs) (o.mono hb) fun a ha hf => by
  obtain ⟨j, hj, _, rfl⟩ := ha
  exact o.far (I.bt j hj) (g0m hne j hj) hf.1 hf.2
theorem Inv.ownB (I : Inv E w0 A bx fs W) (B : Nat) {b : Nat} {k : IntKind} {e : TypeId} {p : OA} {c : Nat} {xs : List Nat} (o : Own W b k e p c xs) (hb : B ≤ b := by first | exact Nat.le_refl _ | assumption | omega) (hne : r0w e bx = true := by kernel_rfl) :
 Inv E w0 A bx (ownF B k e p c xs :: fs) W :=
 I.add (ownF B k e p c xs) (o.mono hb) fun a ha hf => by
  obtain ⟨j, hj, _, rfl⟩ := ha
  exact o.far (I.bt j hj) (g0m hne j hj) hf.1 hf.2
def e1a (k : IntKind) : SV → Bool
 | .v (.int k' _) => !(decide (k' = k))
 | _ => true
def y0o (k : IntKind) : List Box → Bool
 | [] => true
 | b :: l => match b.cs.all (e1a k) with | true => y0o k l | false => false
theorem q0a {k : IntKind} : ∀ {l : List Box}, y0o k l = true → ∀ j, j < l.length → (lk bx0 l j).cs.all (e1a k) = true
 | [], _, _, h => by simp at h
 | b :: l, h, j, hj => by
  unfold y0o at h
  split at h
  · rename_i hb
    cases j with
    | zero => exact hb
    | succ j => exact q0a h j (by simpa using hj)
  · cases h
theorem e1b {k : IntKind} (A : List Nat) {l : List SV} (h : l.all (e1a k) = true) : d1j k (l.map (SV.r A)).toArray = true := by
 unfold d1j
 rw [List.all_toArray, List.all_map]
 rw [List.all_eq_true] at h ⊢
 intro x hx
 have := h x hx
 cases x with
 | v x => cases x <;> first | exact this | rfl
 | _ => rfl
theorem Inv.rd (I : Inv E w0 A bx fs W) {k : IntKind} {p : OA} {xs : List Nat} (r : Rd W k p xs) (hne : y0o k bx = true := by kernel_rfl) : Inv E w0 A bx (rdF k p xs :: fs) W :=
 I.add (rdF k p xs) r fun a ha hf => by
  obtain ⟨j, hj, _, rfl⟩ := ha
  exact r.far (I.bt j hj) (e1b A (q0a hne j hj)) hf.1 hf.2
theorem Inv.rf (I : Inv E w0 A bx fs W) {p : OA} {c : Nat} {xs : List Nat} {bx' : List Box} {fs' : List PF} {V : World} (o : Rf W V.heap.size p c xs) (hB : ∀ a, Fa A bx a → Fa A bx' a) (J : Inv E w0 A bx' fs' V) (hb : w0.heap.size ≤ V.heap.size := by first | exact Nat.le_refl _ | assumption | omega) : Inv E w0 A bx (rfF w0.heap.size p c xs :: fs) W :=
 I.add (rfF w0.heap.size p c xs) (o.mono hb) fun a ha hf => by
  have h1 := J.lt a (hB a ha)
  have h2 := o.at_ hf.1
  have h3 := hf.2
  omega
end
section
variable {P : Program} {Q : Exit → Act → World → Prop} {E : List Nat} {w0 : World} {A : List Nat} {fs : List PF} {W : World} {c : Cfg}
theorem zqo (I : Inv E w0 A c.bx fs W) {f : FuncId} {args : List Nat → World → Array Value} {v : OA → Nat → Value} {k : IntKind} {t : TypeId} {xs : List Nat} {b : World → Nat}
 (hc : ∀ A W, Inv E w0 A (zr P none c).bx fs W → Calls P f (args A W) W fun e w' => ∃ p c, e = .returned (v p c) ∧ Own w' (b W) k t p c xs ∧ Below W.heap.size W w')
 (h : ∀ A W p d, Inv E w0 A (putc (zr P none c) (.v (v p d))).bx (ownF w0.heap.size k t p d xs :: fs) W → G P Q A (putc (zr P none c) (.v (v p d))) W)
 (ho : ∀ A w, h0n P (zr P none c) A w = some (.ok (.enter f (args A w)) w) := by intro _ _; kernel_rfl)
 (hr : ∀ A w, (zms P none 5000 c A w).map (·.1) = (zms P none 5000 c A w).map (·.2) := by intro _ _; kernel_rfl)
 (hm : ok1 (zr P none c).rg (zr P none c).bx = ok2 (zr P none c).rg := by kernel_rfl)
 (hne : r0w t (zr P none c).bx = true := by kernel_rfl) (hbb : ∀ V, w0.heap.size ≤ V.heap.size → w0.heap.size ≤ b V := by intro _ h; first | exact h | exact Nat.le_refl _ | assumption | omega) : G P Q A c W :=
 zg I hc (fun A V _ hz _ _ hK _ W ⟨p, d, h1, h2, h3⟩ => ⟨v p d, h1, hK _ W h3 fun I => h A W p d (I.own h2 (hbb V hz) hne)⟩) ho hr hm
end
def pick : List Nat → List PF → List PF
 | [], _ => []
 | i :: is, fs => lk ⟨fun _ => True, fun _ => False, fun _ _ h _ _ => h, fun _ _ _ h => h.elim⟩ fs i :: pick is fs
section
variable {E : List Nat} {w0 : World} {A : List Nat} {bx : List Box} {fs : List PF} {W : World}
theorem PF.all_lk {W : World} (d : PF) (hd : d.prop W) : ∀ {fs : List PF} (i : Nat), PF.all W fs → (lk d fs i).prop W
 | [], _, _ => hd
 | _ :: _, 0, h => h.1
 | _ :: _, i + 1, h => PF.all_lk d hd i h.2
theorem PF.far_lk {a : Nat} (d : PF) (hd : ¬ d.foot a) : ∀ {fs : List PF} (i : Nat), PF.far a fs → ¬ (lk d fs i).foot a
 | [], _, _ => hd
 | _ :: _, 0, h => h.1
 | _ :: _, i + 1, h => PF.far_lk d hd i h.2
theorem Inv.pick (I : Inv E w0 A bx fs W) (is : List Nat) : Inv E w0 A bx (pick is fs) W := by
 refine ⟨I.bel, I.ge, I.nd, I.len, I.pre, I.bt, ?_, fun a ha => ?_⟩
 · have := I.fa
   induction is with
   | nil => exact True.intro
   | cons i is ih => exact ⟨PF.all_lk _ True.intro i this, ih⟩
 · have := I.far a ha
   induction is with
   | nil => exact True.intro
   | cons i is ih => exact ⟨PF.far_lk _ id i this, ih⟩
end
/-! ### Values of two -/
section
variable {P : Program} {t : TypeId} {x y : Operand} {W : World}
theorem n0y (k : IntKind) (X : Int) (k2 : IntKind) (Y m : Int) (h0 : 0 ≤ Y) (hm : k.wrap (X * 2 ^ (min Y.toNat k.bits)) = m) : (do eqGuard .shl t x y (.int k X) (.int k2 Y); binOp .shl t (.int k X) (.int k2 Y) : Sem Value).run P W = .ok (.int k m) W := by
 simp [binOp, eqGuard, Op.shift, show ¬ Y < 0 by omega, hm]
theorem l0u (k : IntKind) (X : Int) (k2 : IntKind) (Y m : Int) (h0 : 0 ≤ Y) (hm : X.fdiv (2 ^ (min Y.toNat k.bits)) = m) : (do eqGuard .shr t x y (.int k X) (.int k2 Y); binOp .shr t (.int k X) (.int k2 Y) : Sem Value).run P W = .ok (.int k m) W := by
 simp [binOp, eqGuard, Op.shift, show ¬ Y < 0 by omega, hm]
theorem n0z (k : IntKind) (X Y m : Int) (h0 : Y ≠ 0) (hm : k.wrap (X.tdiv Y) = m) : (do eqGuard .quo t x y (.int k X) (.int k Y); binOp .quo t (.int k X) (.int k Y) : Sem Value).run P W = .ok (.int k m) W := by
 simp [binOp, eqGuard, Op.intDiv, h0, hm]
theorem e1c (k : IntKind) (X Y m : Int) (h0 : Y ≠ 0) (hm : X.tmod Y = m) : (do eqGuard .rem t x y (.int k X) (.int k Y); binOp .rem t (.int k X) (.int k Y) : Sem Value).run P W = .ok (.int k m) W := by
 simp [binOp, eqGuard, Op.intDiv, h0, hm]
theorem h0v (k : IntKind) (X Y m : Int) (hm : bits .and k X Y = m) : (do eqGuard .and t x y (.int k X) (.int k Y); binOp .and t (.int k X) (.int k Y) : Sem Value).run P W = .ok (.int k m) W := by
 subst hm
 simp [binOp, eqGuard, intBits_and]
theorem m0h (k : IntKind) (X Y m : Int) (hm : bits .or k X Y = m) : (do eqGuard .or t x y (.int k X) (.int k Y); binOp .or t (.int k X) (.int k Y) : Sem Value).run P W = .ok (.int k m) W := by
 subst hm
 simp [binOp, eqGuard, intBits_or]
theorem o1u (s : ByteArray) : (do eqGuard .neq t x y (.string s) (.string s); binOp .neq t (.string s) (.string s) : Sem Value).run P W = .ok (.bool false) W := by
 simp [go_sem, eqGuard]
end
/-! ### Rows of others -/
theorem tyV {P : Program} {t e : TypeId} {z : Value} {bytes : Nat} (h1 : P.underlying t = some (.slice e))
 (h2 : (P.info? e).map (fun i => (i.zero, i.size, i.bytes)) = some (some z, 1, bytes)) (h3 : bytes ≤ 16) (h4 : z.cells = #[z]) (h5 : z.oneCell' = true) : k0n P t e z bytes := by
 refine ⟨h1, ?_, h4, h5, h3⟩
 cases h : P.info? e with
 | none => rw [h] at h2; simp at h2
 | some i => rw [h] at h2; simp at h2; exact ⟨i, rfl, h2.1, h2.2.1, h2.2.2⟩
section
variable {P : Program} {w : World}
theorem d0x {t : TypeId} {e : TypeId} {z : Value} {bytes : Nat} (hty : k0n P t e z bytes) {p : OA} {n c m : Nat} (hp : h0m p n) (hm : m < n) : (VO.ix t (.slice p n c) (.int .i64 (m : Int))).sem.run P w = .ok (.pointer (some (at_ p m))) w := by
 show (Instr.indexAt _ _ _).run P w = _
 rw [run_indexAt_solid w t p n c .i64 m (k0o hty) hp, if_pos (show (0 : Int) ≤ (m : Int) ∧ (m : Int) < (n : Int) by omega)]
 simp only [l0t hty, Result.andThen_ok, Int.toNat_natCast, Nat.mul_one]
theorem s1e {t : TypeId} {e : TypeId} {z : Value} {bytes : Nat} (hty : k0n P t e z bytes) {p : OA} {n c m : Nat} (hm : m ≤ n) (hc : m < c) (_hnc : n ≤ c) : (VO.sl t (.slice p n c) (some (.int .i64 (m : Int))) none none).sem.run P w = .ok (.slice (p.map (·.add m)) (n - m) (c - m)) w := by
 show (Instr.sliceAt _ _ _ _ _).run P w = _
 simp only [run_sliceAt_slice (h := k0o hty), run_slice_l (ht := k0o hty) (h0 := Int.natCast_nonneg m) (h1 := Int.ofNat_le.2 hm), l0t hty, Result.andThen_ok, Int.toNat_natCast]
 rw [a1t p m n c hc]
theorem b0i {ty : TypeId} {p : OA} {vs : List Value} (hr : RdV w p vs) (hT : k0k P ty) {m : Nat} {v : Value} (hv : vs[m]? = some v) : (VO.ld ty (.pointer (some (at_ p m)))).sem.run P w = .ok v w := by
 show (Instr.loadAt _ _).run P w = _
 have hm : m < vs.length := (List.getElem?_eq_some_iff.1 hv).1
 have hl : (load (at_ p m)).run P w = .ok v w := by
  have := hr.cells m hm
  rw [hv] at this
  simp [go_sem, this]
 simp only [Instr.loadAt, Instr.sureAddr, Sem.run_bind, Sem.run_pure, Result.andThen_ok, loadVar, g0x hT]
 simpa using hl
end
/-! ### What calls leave -/
section
variable {P : Program} {f : FuncId} {args : Array Value} {w : World}
end
end Go.Slip
namespace Go.Proofs.YtgbbhlginbmghaaGreatDoor
open Go.RowKit Go.Slip
theorem TabW.same {w w' : World} (h : TabW w) (hb : w'.heap[0]? = w.heap[0]?) (hs : w.heap.size ≤ w'.heap.size) : TabW w' :=
 ⟨fun j hj => by
   have := h.1 j hj
   unfold World.cell? at this ⊢
   rw [show w'.heap[(⟨0, j, none⟩ : Addr).block]? = w.heap[(⟨0, j, none⟩ : Addr).block]? from hb]
   exact this, Nat.lt_of_lt_of_le h.2 hs⟩
def tabF : PF := ⟨TabW, fun a => 0 = a, fun _ _ h hb hs => h.same (hb 0 h.2 rfl) hs, fun _ _ h hf => hf ▸ h.2⟩
end Go.Proofs.YtgbbhlginbmghaaGreatDoor
namespace Go.Slip
def l0v (L X : List Nat) (ten d0 i d : Nat) : Prop :=
 (∀ x ∈ L, x < B32) ∧ L.length = X.length ∧ (∀ j, i ≤ j → dg L j = dg X j) ∧ val B32 (L.take i) + d * B32 ^ i = val B32 (X.take i) * ten + d0
theorem l0v.start {X : List Nat} (h : ∀ x ∈ X, x < B32) (ten d0 : Nat) : l0v X X ten d0 0 d0 := ⟨h, rfl, fun _ _ => rfl, by simp⟩
theorem l0v.step {L X : List Nat} {ten d0 i d : Nat} (h : l0v L X ten d0 i d) (hi : i < X.length) (t : Nat) (ht : t = dg X i * ten + d) : l0v (L.set i (t % B32)) X ten d0 (i + 1) (t / B32) := by
 obtain ⟨h1, h2, h3, h4⟩ := h
 refine ⟨j0b L h1 i _ (Nat.mod_lt _ c0j), by simpa using h2, fun j hj => ?_, ?_⟩
 · rw [b0p (by omega)]; exact h3 j (by omega)
 · rw [a0k, d0i, b0k (by omega), a0k, Nat.pow_succ]
   have h5 := Nat.div_add_mod t B32
   generalize t / B32 = q at *
   generalize t % B32 = r at *
   have e : B32 ^ i * (B32 * q + r) = B32 ^ i * (dg X i * ten + d) := by rw [h5, ht]
   grind
theorem l0v.done0 {L : List Nat} {ten d0 a : Nat} (h : l0v L (dig B32 a) ten d0 (dig B32 a).length 0) (h1 : 0 < ten) : L = dig B32 (a * ten + d0) := by
 have h4 := h.2.2.2
 rw [List.take_length, b0o a0b, ← h.2.1, List.take_length] at h4
 obtain ⟨m, rfl⟩ : ∃ m, ten = m + 1 := ⟨ten - 1, by omega⟩
 have e : a * (m + 1) + d0 = a + (a * m + d0) := by grind
 rw [e] at h4 ⊢
 exact y0e a0b L a _ h.1 h.2.1 (by omega)
theorem l0v.done1 {L : List Nat} {ten d0 a d : Nat} (h : l0v L (dig B32 a) ten d0 (dig B32 a).length d) (h1 : 0 < d) (h2 : d < B32) : L ++ [d] = dig B32 (a * ten + d0) := by
 have h4 := h.2.2.2
 rw [List.take_length, b0o a0b, ← h.2.1, List.take_length] at h4
 exact y0f a0b L d _ h.1 h1 h2 h4
def a0n (l : List Nat) : Nat := l.foldl (fun a b => 10 * a + (b - 48)) 0
theorem q0b (l : List Nat) (b : Nat) : a0n (l ++ [b]) = 10 * a0n l + (b - 48) := by simp [a0n]
theorem f0q (l : List Nat) (k : Nat) (h : k < l.length) : a0n (l.take (k + 1)) = 10 * a0n (l.take k) + (dg l k - 48) := by
 rw [List.take_succ_eq_append_getElem h, q0b, a0x h]
theorem g0y (l : List Nat) (h : ∀ j, j < l.length → dg l j ≤ 57) : a0n l < 10 ^ l.length := by
 have key : ∀ n, n ≤ l.length → a0n (l.take n) < 10 ^ n := by
  intro n
  induction n with
  | zero => intro _; simp [a0n]
  | succ n ih =>
   intro hn
   rw [f0q l n (by omega), Nat.pow_succ]
   have h1 := ih (by omega)
   have h2 := h n (by omega)
   omega
 have := key l.length (Nat.le_refl _)
 rwa [List.take_length] at this
theorem e1d (m : List Nat) : ∀ a, m.foldl (fun a b => 10 * a + (b - 48)) a = a * 10 ^ m.length + a0n m := by
 induction m with
 | nil => intro a; simp [a0n]
 | cons x m ih =>
  intro a
  rw [List.foldl_cons, ih]
  unfold a0n
  rw [List.foldl_cons, ih (10 * 0 + (x - 48)), List.length_cons, Nat.pow_succ]
  grind
theorem m0i (l m : List Nat) : a0n (l ++ m) = a0n l * 10 ^ m.length + a0n m := by
 unfold a0n
 rw [List.foldl_append, e1d]
 rfl
theorem o0a (l : List Nat) (k n : Nat) (h : k + n ≤ l.length) : a0n (l.take (k + n)) = a0n (l.take k) * 10 ^ n + a0n ((l.drop k).take n) := by
 have e : l.take (k + n) = l.take k ++ (l.drop k).take n := by rw [List.take_add]
 rw [e, m0i]
 congr 3
 simp; omega
theorem a0y {xs : List Nat} (h : ∀ x ∈ xs, x < 256) : a0a (a0d xs) = xs := by
 unfold a0a a0d
 simp only [List.map_map]
 rw [show (xs.map (UInt8.toNat ∘ UInt8.ofNat)) = xs.map id from List.map_congr_left fun x hx => by
  have := h x hx
  simp only [Function.comp, id]
  rw [UInt8.toNat_ofNat']
  omega]
 simp
theorem e1e (D : List Nat) : a0n (D.reverse.map (· + 48)) = val 10 D := by
 induction D with
 | nil => rfl
 | cons x D ih =>
  rw [List.reverse_cons, List.map_append, List.map_cons, List.map_nil, q0b, ih, val_cons]
  omega
theorem t0z (a : Nat) : a0n (a0z a) = a := by
 unfold a0z
 split
 · rename_i h; subst h; rfl
 · rw [e1e, b0o (by omega)]
theorem g0n (a : Nat) : ∀ x ∈ a0z a, 48 ≤ x ∧ x ≤ 57 := by
 unfold a0z
 split
 · simp
 · intro x hx
   obtain ⟨y, hy, rfl⟩ := List.mem_map.1 hx
   have := c0c (B := 10) (by omega) a y (List.mem_reverse.1 hy)
   omega
theorem w0t (a : Nat) : (a0z a).length ≠ 0 ∧ ¬ (dg (a0z a) 0 = 48 ∧ 1 < (a0z a).length) := by
 unfold a0z
 split
 · simp
 · rename_i h0
   have hp : 0 < a := by omega
   have hl : 0 < (dig 10 a).length := List.length_pos_iff.2 ((e0j (by omega) a).2.2.2 hp)
   refine ⟨by rw [List.length_map, List.length_reverse]; omega, fun h => ?_⟩
   have h1 := h.1
   rw [a0x (by simpa using hl)] at h1
   simp at h1
   have h2 := t0n (B := 10) (by omega) a
   unfold e0q at h2
   rw [List.getLast?_eq_getElem?, List.getElem?_eq_getElem (by omega)] at h2
   exact h2 (by rw [h1])
def b0n : Nat → Nat → Nat × Nat
 | n, 0 => (n, 0)
 | n, p + 1 => if n % 5 = 0 then b0n (n / 5) p else (n, p + 1)
theorem i0l : ∀ (p n : Nat), (b0n n p).1 ≤ n ∧ (b0n n p).2 ≤ p
 | 0, n => ⟨Nat.le_refl _, Nat.le_refl _⟩
 | p + 1, n => by
  rw [b0n]
  split
  · have := i0l p (n / 5)
    exact ⟨Nat.le_trans this.1 (Nat.div_le_self _ _), by omega⟩
  · exact ⟨Nat.le_refl _, Nat.le_refl _⟩
theorem o0b : ∀ (p n : Nat), 0 < n → 0 < (b0n n p).1
 | 0, n, h => h
 | p + 1, n, h => by
  rw [b0n]
  split
  · exact o0b p (n / 5) (by omega)
  · exact h
theorem q0c : ∀ (p n : Nat), (b0n n p).1 * 5 ^ (p - (b0n n p).2) = n
 | 0, n => by rw [b0n, Nat.sub_self, Nat.pow_zero, Nat.mul_one]
 | p + 1, n => by
  rw [b0n]
  by_cases h : n % 5 = 0
  · rw [if_pos h]
    have h1 := q0c p (n / 5)
    have h2 := (i0l p (n / 5)).2
    rw [show p + 1 - (b0n (n / 5) p).2 = p - (b0n (n / 5) p).2 + 1 by omega, Nat.pow_succ, ← Nat.mul_assoc, h1]
    omega
  · rw [if_neg h, Nat.sub_self, Nat.pow_zero, Nat.mul_one]
def isDg (b : Nat) : Bool := decide (48 ≤ b) && decide (b ≤ 57)
def m0q : List Nat → Bool × List Nat
 | 45 :: r => (true, r)
 | l => (false, l)
def r0x : List Nat → Option (List Nat × List Nat)
 | 46 :: r => if r.takeWhile isDg = [] then none else some (r.takeWhile isDg, r.dropWhile isDg)
 | l => some ([], l)
def powT : List Nat → Option (Int × List Nat)
 | 101 :: r =>
  let x := (m0q r).2.takeWhile isDg
  if x = [] ∨ 5 < x.length then none else some (if (m0q r).1 then -(a0n x : Int) else a0n x, (m0q r).2.dropWhile isDg)
 | l => some (0, l)
structure Numl where
 neg : Bool
 ds : List Nat
 pow : Int
def numl (l : List Nat) : Option Numl :=
 match r0x ((m0q l).2.dropWhile isDg) with
 | none => none
 | some (f, r) =>
  if (m0q l).2.takeWhile isDg ++ f = [] then none else
  match powT r with
  | none => none
  | some (e, r) => if r = [] then some ⟨(m0q l).1, (m0q l).2.takeWhile isDg ++ f, e - f.length⟩ else none
def errT (len : Nat) (q : Option Numl) : Int :=
 if 400 < len then 2 else match q with | none => 1 | some q => if q.pow < -6000 ∨ 6000 < q.pow then 3 else 0
def f0r (q : Numl) : Bool × Nat × Nat × Int :=
 if a0n q.ds = 0 then (false, 0, 1, 0)
 else if 0 ≤ q.pow then (q.neg, a0n q.ds / 2 ^ tz (a0n q.ds) * 5 ^ q.pow.toNat, 1, tz (a0n q.ds) + q.pow)
 else (q.neg, (b0n (a0n q.ds / 2 ^ tz (a0n q.ds)) (-q.pow).toNat).1, 5 ^ (b0n (a0n q.ds / 2 ^ tz (a0n q.ds)) (-q.pow).toNat).2, tz (a0n q.ds) + q.pow)
theorem e1f (d : Dv) : (bare d).m ≤ d.m := by
 unfold bare
 by_cases h : d.m = 0
 · rw [if_pos h]; exact Nat.zero_le _
 · rw [if_neg h]; exact Nat.div_le_self _ _
theorem m0w {B : Nat} (hB : 2 ≤ B) (d : Dv) : (dig B (bare d).m).length ≤ (dig B d.m).length := a0l hB (e1f d)
theorem y0p (d : Dv) {n : Nat} (hl : (dig B32 d.m).length ≤ n) {lo hi : Int} (h1 : lo ≤ d.e) (h2 : d.e ≤ hi) (h3 : lo ≤ 0) (h4 : 0 ≤ hi) : lo ≤ (bare d).e ∧ (bare d).e ≤ hi + 32 * n := by
 unfold bare
 by_cases h : d.m = 0
 · rw [if_pos h]; simp only; omega
 · rw [if_neg h]
   have h5 := g0k (m := d.m) (by omega)
   have h6 := c0x d.m
   simp only
   omega
theorem a1v (g h : Bool) (x y : Nat) (e : Int) : (i0w g h x y e).m ≤ x + y ∧ (i0w g h x y e).e = e := by
 unfold i0w
 split
 · simp
 · split
   · simp; omega
   · simp; omega
theorem o0c (a N : Nat) : (dig B32 (a * 2 ^ N)).length ≤ (dig B32 a).length + (N / 32 + 1) := by
 refine Nat.le_trans (b0l a0b _ _) ?_
 have : (dig B32 (2 ^ N)).length = N / 32 + 1 := by rw [← y0h (B := B32) (w := 32) (by decide) (by omega) N]; simp
 omega
theorem a1w (a b : Dv) : (dig B32 (j0d a b).m).length ≤ (dig B32 a.m).length + (dig B32 b.m).length :=
 Nat.le_trans (m0w a0b _) (b0l a0b _ _)
structure Gd where
 rad : Int
 digs : Int
 lo : Int
 hi : Int
 grad : Bool
def wid (g : Gd) : Nat := if g.rad = 16 then 4 else 1
def most (g : Gd) : Int := if g.rad = 16 then 4000 else 17000
def farG (g : Gd) (n : Int) : Prop := n < -most g ∨ most g < n
instance (g : Gd) (n : Int) : Decidable (farG g n) := by unfold farG; exact inferInstance
def errG (g : Gd) : Int :=
 if g.rad ≠ 2 ∧ g.rad ≠ 16 then 6 else if g.digs < 1 ∨ 120 < g.digs ∨ farG g g.lo ∨ farG g g.hi ∨ g.hi < g.lo then 3 else 0
structure f0c (g : Gd) : Prop where
 rad : g.rad = 2 ∨ g.rad = 16
 d1 : 1 ≤ g.digs
 d2 : g.digs ≤ 120
 l1 : -17000 ≤ g.lo
 l2 : g.lo ≤ 17000
 h1 : -17000 ≤ g.hi
 h2 : g.hi ≤ 17000
 le : g.lo ≤ g.hi
theorem c0e {g : Gd} (h : errG g = 0) : f0c g := by
 unfold errG at h
 by_cases h1 : g.rad ≠ 2 ∧ g.rad ≠ 16
 · rw [if_pos h1] at h; simp at h
 · rw [if_neg h1] at h
   by_cases h2 : g.digs < 1 ∨ 120 < g.digs ∨ farG g g.lo ∨ farG g g.hi ∨ g.hi < g.lo
   · rw [if_pos h2] at h; simp at h
   · unfold farG most at h2
     split at h2 <;> constructor <;> omega
theorem b0g (g : Gd) : 1 ≤ wid g ∧ wid g ≤ 4 := by unfold wid; split <;> omega
def numP (num : Nat) (n : Int) : Nat := num * 2 ^ n.toNat
def denP (den : Nat) (n : Int) : Nat := den * 2 ^ (-n).toNat
def qP (num den : Nat) (n : Int) : Nat := numP num n / denP den n
def rP (num den : Nat) (n : Int) : Nat := numP num n % denP den n
theorem e0l {den : Nat} (h : 0 < den) (n : Int) : 0 < denP den n := Nat.mul_pos h (Nat.pow_pos (by omega))
def e0d (num den : Nat) (e : Int) (w D : Nat) (k : Int) : Prop := 2 ^ (w * (D - 1)) ≤ qP num den (e - w * k)
instance (num den : Nat) (e : Int) (w D : Nat) (k : Int) : Decidable (e0d num den e w D k) := by unfold e0d; exact inferInstance
theorem h0x {num den : Nat} (hd : 0 < den) (e : Int) (w D : Nat) (k : Int) (u v : Nat) (huv : (u : Int) - v = w * k + (w * (D - 1) : Nat) - e) :
 e0d num den e w D k ↔ den * 2 ^ u ≤ num * 2 ^ v := by
 unfold e0d qP
 rw [Nat.le_div_iff_mul_le (e0l hd _)]
 unfold numP denP
 have h2 : ∀ n : Nat, 0 < 2 ^ n := fun n => Nat.pow_pos (by omega)
 generalize hj : w * (D - 1) = j at *
 have e1 : ∃ c : Nat, (2 : Nat) ^ j * 2 ^ (-(e - w * k)).toNat * 2 ^ c = 2 ^ u * 2 ^ (c - 0) * 1 ∨ True := ⟨0, .inr trivial⟩
 clear e1
 by_cases hn : 0 ≤ e - w * k
 · obtain ⟨a, ha⟩ : ∃ a : Nat, e - w * k = a := ⟨(e - w * k).toNat, by omega⟩
   rw [ha]
   have t1 : (-(a : Int)).toNat = 0 := by omega
   have t2 : ((a : Int)).toNat = a := by omega
   rw [t1, t2]
   have t3 : u + a = v + j := by omega
   constructor
   · intro h
     have := Nat.mul_le_mul_right (2 ^ v) h
     have e2 : (2 ^ j * (den * 2 ^ 0)) * 2 ^ v = den * 2 ^ u * 2 ^ a := by
      have : 2 ^ j * 2 ^ v = 2 ^ u * 2 ^ a := by rw [← Nat.pow_add, ← Nat.pow_add]; congr 1; omega
      simp only [Nat.pow_zero, Nat.mul_one]
      grind
     rw [e2] at this
     have e3 : num * 2 ^ a * 2 ^ v = num * 2 ^ v * 2 ^ a := by grind
     rw [e3] at this
     exact Nat.le_of_mul_le_mul_right this (h2 a)
   · intro h
     have := Nat.mul_le_mul_right (2 ^ a) h
     have e2 : den * 2 ^ u * 2 ^ a = (2 ^ j * (den * 2 ^ 0)) * 2 ^ v := by
      have : 2 ^ j * 2 ^ v = 2 ^ u * 2 ^ a := by rw [← Nat.pow_add, ← Nat.pow_add]; congr 1; omega
      simp only [Nat.pow_zero, Nat.mul_one]
      grind
     rw [e2] at this
     have e3 : num * 2 ^ v * 2 ^ a = num * 2 ^ a * 2 ^ v := by grind
     rw [e3] at this
     exact Nat.le_of_mul_le_mul_right this (h2 v)
 · obtain ⟨a, ha⟩ : ∃ a : Nat, e - w * k = -(a : Int) := ⟨(-(e - w * k)).toNat, by omega⟩
   rw [ha]
   have t1 : (-(-(a : Int))).toNat = a := by omega
   have t2 : (-(a : Int)).toNat = 0 := by omega
   rw [t1, t2]
   have t3 : u = v + j + a := by omega
   subst t3
   have e2 : den * 2 ^ (v + j + a) = (2 ^ j * (den * 2 ^ a)) * 2 ^ v := by rw [Nat.pow_add, Nat.pow_add]; grind
   rw [e2, Nat.pow_zero, Nat.mul_one]
   constructor
   · intro h; exact Nat.mul_le_mul_right _ h
   · intro h; exact Nat.le_of_mul_le_mul_right h (h2 v)
theorem i0m {num den : Nat} (hd : 0 < den) {e : Int} {w D : Nat} {k k' : Int} (h : e0d num den e w D k) (hk : k' ≤ k) : e0d num den e w D k' := by
 have hw : (w : Int) * k' ≤ w * k := Int.mul_le_mul_of_nonneg_left hk (by omega)
 obtain ⟨v, hv⟩ : ∃ v : Nat, 0 ≤ (w : Int) * k' + (w * (D - 1) : Nat) - e + v := ⟨(-((w : Int) * k' + (w * (D - 1) : Nat) - e)).toNat, by omega⟩
 have h1 := (h0x hd e w D k ((w : Int) * k + (w * (D - 1) : Nat) - e + v).toNat v (by omega)).1 h
 refine (h0x hd e w D k' ((w : Int) * k' + (w * (D - 1) : Nat) - e + v).toNat v (by omega)).2 (Nat.le_trans ?_ h1)
 exact Nat.mul_le_mul_left _ (Nat.pow_le_pow_right (by omega) (by omega))
structure IsK (num den : Nat) (e : Int) (w D : Nat) (K : Int) : Prop where
 yes : e0d num den e w D K
 no : ¬ e0d num den e w D (K + 1)
theorem IsK.le {num den : Nat} (hd : 0 < den) {e : Int} {w D : Nat} {K k : Int} (h : IsK num den e w D K) (hk : e0d num den e w D k) : k ≤ K := by
 rcases Int.lt_or_le K k with h1 | h1
 · exact absurd (i0m hd hk (by omega)) h.no
 · exact h1
theorem IsK.iff {num den : Nat} (hd : 0 < den) {e : Int} {w D : Nat} {K k : Int} (h : IsK num den e w D K) : e0d num den e w D k ↔ k ≤ K :=
 ⟨h.le hd, fun hk => i0m hd h.yes hk⟩
theorem IsK.unique {num den : Nat} (hd : 0 < den) {e : Int} {w D : Nat} {K K' : Int} (h : IsK num den e w D K) (h' : IsK num den e w D K') : K = K' := by
 have h1 := h.le hd h'.yes
 have h2 := h'.le hd h.yes
 omega
theorem g0d (n : Int) (w : Nat) (hw : 0 < w) : (w : Int) * (n / w) ≤ n ∧ n < w * (n / w) + w := by
 have h1 := Int.emod_nonneg n (show (w : Int) ≠ 0 by omega)
 have h2 := Int.emod_lt_of_pos n (show (0 : Int) < w by omega)
 have h3 := Int.mul_ediv_add_emod n w
 omega
theorem y0q {num den : Nat} (hn : 0 < num) (hd : 0 < den) (e : Int) {w D : Nat} (hw : 0 < w) (hD : 1 ≤ D) (x : Int) (hx : x = (blen num : Int) - blen den + e) :
 e0d num den e w D (x / w - D) ∧ ¬ e0d num den e w D (x / w - D + 2) := by
 obtain ⟨b1, b2⟩ := g0d x w hw
 generalize x / (w : Int) = f at *
 have hn1 := g0w num hn
 have hn2 : num < 2 ^ blen num := (a0w num _).1 (Nat.le_refl _)
 have hd1 := g0w den hd
 have hd2 : den < 2 ^ blen den := (a0w den _).1 (Nat.le_refl _)
 have hbn := (e0k num).2 hn
 have hbd := (e0k den).2 hd
 have eD : (w : Int) * (f - D) + (w * (D - 1) : Nat) = w * f - w := by
  obtain ⟨d, rfl⟩ : ∃ d, D = d + 1 := ⟨D - 1, by omega⟩
  simp only [Nat.add_sub_cancel, Int.natCast_mul, Int.natCast_add]
  grind
 have eD2 : (w : Int) * (f - D + 2) + (w * (D - 1) : Nat) = w * f + w := by
  have : (w : Int) * (f - D + 2) = w * (f - D) + w * 2 := by grind
  omega
 constructor
 · obtain ⟨v, hv⟩ : ∃ v : Nat, 0 ≤ (w : Int) * f - w - e + v := ⟨(-((w : Int) * f - w - e)).toNat, by omega⟩
   refine (h0x hd e w D (f - D) ((w : Int) * f - w - e + v).toNat v (by omega)).2 ?_
   refine Nat.le_trans (Nat.mul_le_mul_right _ (Nat.le_of_lt hd2)) (Nat.le_trans ?_ (Nat.mul_le_mul_right _ hn1))
   rw [← Nat.pow_add, ← Nat.pow_add]
   exact Nat.pow_le_pow_right (by omega) (by omega)
 · obtain ⟨v, hv⟩ : ∃ v : Nat, 0 ≤ (w : Int) * f + w - e + v := ⟨(-((w : Int) * f + w - e)).toNat, by omega⟩
   intro h
   have h1 := (h0x hd e w D (f - D + 2) ((w : Int) * f + w - e + v).toNat v (by omega)).1 h
   have h2 : num * 2 ^ v < 2 ^ blen num * 2 ^ v := Nat.mul_lt_mul_of_pos_right hn2 (Nat.pow_pos (by omega))
   have h3 := Nat.mul_le_mul_right (2 ^ ((w : Int) * f + w - e + v).toNat) hd1
   rw [← Nat.pow_add] at h2 h3
   have h4 : 2 ^ (blen num + v) ≤ 2 ^ (blen den - 1 + ((w : Int) * f + w - e + v).toNat) := Nat.pow_le_pow_right (by omega) (by omega)
   omega
structure Pl where
 neg : Bool
 d : Nat
 pow : Int
 exact : Bool
 over : Bool
 under : Bool
def h0o (way : Int) (neg odd : Bool) (half : Int) : Bool :=
 if way = 1 then decide (0 < half) || (decide (half = 0) && odd) else if way = 2 then decide (0 ≤ half) else if way = 4 then !neg else if way = 5 then neg else false
def powK (g : Gd) (K : Int) : Int := if K < g.lo ∧ g.grad = true then g.lo else K
def upP (neg : Bool) (num den : Nat) (e : Int) (w : Nat) (way k : Int) : Bool :=
 decide (rP num den (e - w * k) ≠ 0) && h0o way neg (decide (qP num den (e - w * k) % 2 = 1)) (cmpN (rP num den (e - w * k) * 2) (denP den (e - w * k)))
def dUp (neg : Bool) (num den : Nat) (e : Int) (w : Nat) (way k : Int) : Nat := qP num den (e - w * k) + if upP neg num den e w way k then 1 else 0
def h0p (neg : Bool) (num den : Nat) (e : Int) (w D : Nat) (way k : Int) : Prop := upP neg num den e w way k = true ∧ w * D < blen (dUp neg num den e w way k)
instance (neg : Bool) (num den : Nat) (e : Int) (w D : Nat) (way k : Int) : Decidable (h0p neg num den e w D way k) := by unfold h0p; exact inferInstance
def digP (neg : Bool) (num den : Nat) (e : Int) (w D : Nat) (way k : Int) : Nat := if h0p neg num den e w D way k then 2 ^ (w * (D - 1)) else dUp neg num den e w way k
def powP (neg : Bool) (num den : Nat) (e : Int) (w D : Nat) (way k : Int) : Int := if h0p neg num den e w D way k then k + 1 else k
def fitK (neg : Bool) (num den : Nat) (e : Int) (g : Gd) (way K : Int) : Pl :=
 ⟨neg, digP neg num den e (wid g) g.digs.toNat way (powK g K),
  if digP neg num den e (wid g) g.digs.toNat way (powK g K) = 0 then 0 else powP neg num den e (wid g) g.digs.toNat way (powK g K),
  decide (rP num den (e - wid g * powK g K) = 0), decide (g.hi < powP neg num den e (wid g) g.digs.toNat way (powK g K)), decide (K < g.lo)⟩
theorem l0w {neg : Bool} {num den : Nat} {e : Int} {w D : Nat} {way k : Int} {X N : Nat} {ub : Bool} (h1 : upP neg num den e w way k = ub) (h2 : qP num den (e - w * k) = X) (h3 : N = w * (D - 1)) :
 digP neg num den e w D way k = (if ub = true ∧ w * D < blen (X + if ub then 1 else 0) then 2 ^ N else X + if ub then 1 else 0) ∧ powP neg num den e w D way k = if ub = true ∧ w * D < blen (X + if ub then 1 else 0) then k + 1 else k := by
 subst h1 h2 h3
 unfold digP powP
 by_cases h : h0p neg num den e w D way k
 · have h' : upP neg num den e w way k = true ∧ w * D < blen (qP num den (e - w * k) + if upP neg num den e w way k then 1 else 0) := h
   rw [if_pos h, if_pos h, if_pos h', if_pos h']; exact ⟨rfl, rfl⟩
 · have h' : ¬ (upP neg num den e w way k = true ∧ w * D < blen (qP num den (e - w * k) + if upP neg num den e w way k then 1 else 0)) := h
   rw [if_neg h, if_neg h, if_neg h', if_neg h']; exact ⟨rfl, rfl⟩
theorem w0u {neg : Bool} {num den : Nat} {e : Int} {g : Gd} {way K : Int} {wd D : Nat} {k1 : Int} {dd Y : Nat} {k2 : Int} (h5 : wid g = wd) (hD : g.digs.toNat = D) (h4 : powK g K = k1)
 (h2 : digP neg num den e wd D way k1 = dd) (h3 : powP neg num den e wd D way k1 = k2) (h8 : rP num den (e - wd * k1) = Y) :
 fitK neg num den e g way K = ⟨neg, dd, if dd = 0 then 0 else k2, decide (Y = 0), decide (g.hi < k2), decide (K < g.lo)⟩ := by
 subst h5 hD h4 h2 h3 h8
 rfl
def theK (num den : Nat) (e : Int) (w D : Nat) : Int :=
 if e0d num den e w D (((blen num : Int) - blen den + e) / w - D + 1) then ((blen num : Int) - blen den + e) / w - D + 1 else ((blen num : Int) - blen den + e) / w - D
theorem j0s {num den : Nat} (hn : 0 < num) (hd : 0 < den) (e : Int) {w D : Nat} (hw : 0 < w) (hD : 1 ≤ D) : IsK num den e w D (theK num den e w D) := by
 obtain ⟨h1, h2⟩ := y0q hn hd e hw hD _ rfl
 unfold theK
 by_cases h3 : e0d num den e w D (((blen num : Int) - blen den + e) / w - D + 1)
 · rw [if_pos h3]
   exact ⟨h3, by rw [show ∀ z : Int, z + 1 + 1 = z + 2 by omega]; exact h2⟩
 · rw [if_neg h3]
   exact ⟨h1, h3⟩
theorem e1g {num den : Nat} (hn : 0 < num) (hd : 0 < den) {e : Int} {w D : Nat} (hw : 0 < w) (hD : 1 ≤ D) {K : Int} (h : IsK num den e w D K) : theK num den e w D = K :=
 (j0s hn hd e hw hD).unique hd h
def a0m (neg : Bool) (num den : Nat) (e : Int) (g : Gd) (way : Int) : Pl :=
 if num = 0 then ⟨false, 0, 0, true, false, false⟩ else fitK neg num den e g way (theK num den e (wid g) g.digs.toNat)
theorem g0z {n : Nat} (h : n ≤ 480) : (dig B32 (2 ^ n)).length ≤ 16 := by
 have h1 := congrArg List.length (y0h (B := B32) (w := 32) (by decide) (by omega) n)
 rw [List.length_set, List.length_replicate] at h1
 omega
def norm (z e : Int) : Dv := bare (ofZ z e)
theorem j0t (g : Bool) (m : Nat) (e : Int) : norm (sg g m) e = bare ⟨g, m, e⟩ := by
 unfold norm ofZ
 by_cases h : m = 0
 · subst h
   have : sg g 0 = 0 := by unfold sg; cases g <;> rfl
   rw [this]; rfl
 · have h1 : (sg g m).natAbs = m := by unfold sg; cases g <;> simp
   have h2 : decide (sg g m < 0) = g := by unfold sg; cases g <;> simp <;> omega
   rw [h1, h2]
theorem w0v (z : Int) : sg (decide (z < 0)) z.natAbs = z := by
 unfold sg
 by_cases h : z < 0
 · simp [h]; omega
 · simp [h]; omega
theorem a1x (z : Int) (k : Nat) (e : Int) : norm (z * 2 ^ k) e = norm z (e + k) := by
 have h : z * 2 ^ k = sg (decide (z < 0)) (z.natAbs * 2 ^ k) := by
  rw [y0j, w0v]; simp
 rw [h, j0t, d0r]
 conv => rhs; rw [← w0v z]
 rw [j0t]
theorem e1h (e : Int) : norm 0 e = ⟨false, 0, 0⟩ := rfl
theorem y0r (z : Int) {e f : Int} (h : f ≤ e) : zOf (norm z e) f = z * 2 ^ (e - f).toNat := by
 by_cases h0 : z = 0
 · subst h0; rw [e1h]; simp [zOf, sg]
 · have hp : 0 < z.natAbs := by omega
   obtain ⟨s1, _⟩ := b0v z.natAbs hp
   unfold norm bare ofZ zOf
   rw [if_neg (by simp only; omega)]
   simp only
   have e1 : (e + (tz z.natAbs : Int) - f).toNat = tz z.natAbs + (e - f).toNat := by omega
   rw [e1, Nat.pow_add, ← Nat.mul_assoc, Nat.mul_comm (z.natAbs / _), s1, y0j, w0v]
   simp
theorem y0s (g : Bool) (m : Nat) {x E e : Int} (h : m = 0 ∨ E ≤ x) (he : e ≤ E) : sg g (m * 2 ^ (x - E).toNat) * 2 ^ (E - e).toNat = sg g (m * 2 ^ (x - e).toNat) := by
 rcases h with h | h
 · subst h; simp [sg]
 · have : (x - e).toNat = (x - E).toNat + (E - e).toNat := by omega
   rw [this, Nat.pow_add, ← Nat.mul_assoc, y0j g (m * 2 ^ (x - E).toNat)]
   simp
theorem q0d (a b : Dv) {e : Int} (h1 : e ≤ a.e) (h2 : e ≤ b.e) : k0g a b = norm (zOf a e + zOf b e) e := by
 unfold k0g
 rw [n0l]
 have hE : e ≤ n0m a b := by unfold n0m; split; exact h1; split; exact h2; omega
 have ha : a.m = 0 ∨ n0m a b ≤ a.e := by
  unfold n0m
  by_cases hb0 : b.m = 0
  · rw [if_pos hb0]; exact .inr (by omega)
  · rw [if_neg hb0]
    by_cases ha0 : a.m = 0
    · exact .inl ha0
    · rw [if_neg ha0]; exact .inr (by omega)
 have hb : b.m = 0 ∨ n0m a b ≤ b.e := by
  unfold n0m
  by_cases hb0 : b.m = 0
  · exact .inl hb0
  · rw [if_neg hb0]
    by_cases ha0 : a.m = 0
    · rw [if_pos ha0]; exact .inr (by omega)
    · rw [if_neg ha0]; exact .inr (by omega)
 show norm _ _ = _
 generalize n0m a b = E at *
 have e1 : E = e + ((E - e).toNat : Int) := by omega
 have := a1x (sg a.neg (a.m * 2 ^ (a.e - E).toNat) + sg b.neg (b.m * 2 ^ (b.e - E).toNat)) (E - e).toNat e
 rw [← e1] at this
 rw [← this, Int.add_mul, y0s _ _ ha hE, y0s _ _ hb hE]
 rfl
theorem a1y (a : Dv) (e : Int) : zOf (f0z a) e = - zOf a e := by
 unfold zOf f0z sg
 by_cases h : a.m = 0
 · simp [h]
 · have : 0 < a.m := by omega
   cases hn : a.neg <;> simp [this]
theorem i1y (a b : Dv) {e : Int} (h1 : e ≤ a.e) (h2 : e ≤ b.e) : rCmp a b = Int.sign (zOf a e - zOf b e) := by
 unfold rCmp
 rw [q0d a (f0z b) h1 (show e ≤ (f0z b).e from h2), a1y]
 unfold norm
 rw [a1k, ← Int.sub_eq_add_neg]
theorem o1v (z : Int) {e : Int} (hz : z ≠ 0) : e ≤ (norm z e).e := by
 unfold norm bare ofZ
 simp only
 rw [if_neg (by omega)]
 simp only
 omega
def upK (a : Dv) (w D : Nat) : Int := (topD a - 1) / w - D + 1
theorem o0d {m : Nat} (hm : 0 < m) (e : Int) {w D : Nat} (hw : 1 ≤ w) (hD : 1 ≤ D) : IsK m 1 e w D ((e + blen m - 1) / w - D + 1) := by
 have key : ∀ k : Int, e0d m 1 e w D k ↔ k ≤ (e + blen m - 1) / w - D + 1 := by
  intro k
  have hb := g0d (e + blen m - 1) w hw
  have hbm := (e0k m).2 hm
  obtain ⟨v, hv⟩ : ∃ v : Nat, 0 ≤ (w : Int) * k + (w * (D - 1) : Nat) - e + v := ⟨(-((w : Int) * k + (w * (D - 1) : Nat) - e)).toNat, by omega⟩
  rw [h0x (by omega) e w D k ((w : Int) * k + (w * (D - 1) : Nat) - e + v).toNat v (by omega), Nat.one_mul]
  have h1 : 2 ^ ((w : Int) * k + (w * (D - 1) : Nat) - e + v).toNat ≤ m * 2 ^ v ↔ ((w : Int) * k + (w * (D - 1) : Nat) - e + v).toNat < blen m + v := by
   have h2 := g0j hm v
   have h3 := a0w (m * 2 ^ v) ((w : Int) * k + (w * (D - 1) : Nat) - e + v).toNat
   omega
  rw [h1]
  have e1 : ((w * (D - 1) : Nat) : Int) = w * D - w := by
   obtain ⟨d, rfl⟩ : ∃ d, D = d + 1 := ⟨D - 1, by omega⟩
   simp only [Nat.add_sub_cancel, Int.natCast_mul, Int.natCast_add]; grind
  generalize (e + blen m - 1) / (w : Int) = f at *
  have e2 : (w : Int) * (f - D + 1) = w * f - w * D + w := by grind
  have e3 : (w : Int) * (k - 1) = w * k - w := by grind
  constructor
  · intro h
    rcases Int.lt_or_le (f - D + 1) k with h4 | h4
    · have h5 : (w : Int) * (f - D + 1 + 1) ≤ w * k := Int.mul_le_mul_of_nonneg_left (by omega) (by omega)
      have e4 : (w : Int) * (f - D + 1 + 1) = w * f - w * D + w + w := by grind
      omega
    · exact h4
  · intro h
    have h5 : (w : Int) * k ≤ w * (f - D + 1) := Int.mul_le_mul_of_nonneg_left h (by omega)
    omega
 exact ⟨(key _).2 (Int.le_refl _), fun h => by have := (key _).1 h; omega⟩
def a0s (a : Dv) (g : Gd) : Bool :=
 if a.m = 0 then true else
 if a.e < wid g * g.lo ∨ wid g * (g.hi + g.digs) < topD a then false else
 if upK a (wid g) g.digs.toNat < g.lo then (if g.grad then decide (wid g * g.lo ≤ a.e) else false) else decide (wid g * upK a (wid g) g.digs.toNat ≤ a.e)
def h0y (a : Dv) (g : Gd) : Bool :=
 if a.m = 0 then true else
 (fitK a.neg a.m 1 a.e g 3 (upK a (wid g) g.digs.toNat)).exact && !(fitK a.neg a.m 1 a.e g 3 (upK a (wid g) g.digs.toNat)).over && (!(fitK a.neg a.m 1 a.e g 3 (upK a (wid g) g.digs.toNat)).under || g.grad)
theorem r0y (neg : Bool) (num den : Nat) (e : Int) (w : Nat) (k : Int) : upP neg num den e w 3 k = false := by
 unfold upP h0o
 simp
theorem k0p (neg : Bool) (num den : Nat) (e : Int) (w D : Nat) (k : Int) : powP neg num den e w D 3 k = k := by
 unfold powP
 rw [if_neg]
 unfold h0p
 rw [r0y]
 simp
theorem e1i (neg : Bool) (num den : Nat) (e : Int) (w D : Nat) (k : Int) : digP neg num den e w D 3 k = qP num den (e - w * k) := by
 unfold digP
 rw [if_neg]
 · unfold dUp; rw [r0y]; simp
 · unfold h0p; rw [r0y]; simp
theorem o0e {m : Nat} (hm : m % 2 = 1) (n : Int) : rP m 1 n = 0 ↔ 0 ≤ n := by
 unfold rP numP denP
 by_cases h : 0 ≤ n
 · have e1 : (-n).toNat = 0 := by omega
   rw [e1]
   simp [h, Nat.mod_one]
 · have e1 : n.toNat = 0 := by omega
   rw [e1, Nat.pow_zero, Nat.mul_one, Nat.one_mul]
   have := o1e (n := (-n).toNat) hm (by omega)
   constructor
   · intro h2; exact absurd h2 this
   · intro h2; exact absurd h2 h
theorem r0z {a : Dv} (ha : Bare a) {g : Gd} (G : f0c g) : h0y a g = a0s a g := by
 unfold h0y a0s
 by_cases h0 : a.m = 0
 · rw [if_pos h0, if_pos h0]
 · rw [if_neg h0, if_neg h0]
   have hodd : a.m % 2 = 1 := by
    rcases ha with h | h
    · exact h
    · rw [h] at h0; simp at h0
   have wp := b0g g
   have hd := G.d1
   have hle := G.le
   have hb := g0d (topD a - 1) (wid g) (by omega)
   obtain ⟨D, hD⟩ : ∃ D : Nat, g.digs = D := ⟨g.digs.toNat, by omega⟩
   have hDt : g.digs.toNat = D := by omega
   rw [hDt, hD]
   have eU : upK a (wid g) D = (topD a - 1) / (wid g : Int) - D + 1 := rfl
   obtain ⟨K, hK⟩ : ∃ K, upK a (wid g) D = K := ⟨_, rfl⟩
   rw [hK] at eU ⊢
   generalize (topD a - 1) / (wid g : Int) = f at *
   show (decide (rP a.m 1 (a.e - wid g * powK g K) = 0) && !decide (g.hi < powP a.neg a.m 1 a.e (wid g) g.digs.toNat 3 (powK g K)) && (!decide (K < g.lo) || g.grad)) = _
   rw [k0p]
   have hx : decide (rP a.m 1 (a.e - wid g * powK g K) = 0) = decide (wid g * powK g K ≤ a.e) := by
    have := o0e hodd (a.e - wid g * powK g K)
    by_cases h : (wid g : Int) * powK g K ≤ a.e
    · rw [decide_eq_true h, decide_eq_true (this.2 (by omega))]
    · rw [decide_eq_false h, decide_eq_false (fun h2 => h (by have := this.1 h2; omega))]
   rw [hx]
   have w0 : 0 ≤ (wid g : Int) := by omega
   have eh : (wid g : Int) * (g.hi + D) = wid g * g.hi + wid g * D := Int.mul_add _ _ _
   have eK : (wid g : Int) * K = wid g * f - wid g * D + wid g := by rw [eU]; grind
   have hll : (wid g : Int) * g.lo ≤ wid g * g.hi := Int.mul_le_mul_of_nonneg_left hle w0
   rw [eh]
   have hKh : K ≤ g.hi ↔ topD a ≤ wid g * g.hi + wid g * D := by
    constructor
    · intro h
      have := Int.mul_le_mul_of_nonneg_left h w0
      omega
    · intro h
      rcases Int.lt_or_le g.hi K with h1 | h1
      · have h2 : (wid g : Int) * (g.hi + 1) ≤ wid g * K := Int.mul_le_mul_of_nonneg_left (by omega) w0
        rw [Int.mul_add] at h2
        omega
      · exact h1
   unfold powK
   by_cases hu : K < g.lo
   · have hh := hKh.1 (by omega)
     cases hg : g.grad
     · simp [hu]
     · simp only [hu, true_and, if_true, decide_true, Bool.not_true, Bool.false_or, Bool.and_true]
       rw [decide_eq_false (by omega : ¬ g.hi < g.lo)]
       by_cases h1 : (wid g : Int) * g.lo ≤ a.e
       · rw [if_neg (by omega)]; simp [h1]
       · rw [if_pos (by omega)]; simp [h1]
   · rw [if_neg (by omega), if_neg hu, decide_eq_false hu]
     simp only [Bool.not_false, Bool.true_or, Bool.and_true]
     have h3 : (wid g : Int) * g.lo ≤ wid g * K := Int.mul_le_mul_of_nonneg_left (by omega) w0
     by_cases h1 : (wid g : Int) * K ≤ a.e
     · by_cases h2 : g.hi < K
       · rw [if_pos (.inr (by have := hKh.2; omega)), decide_eq_true h2]; simp
       · rw [if_neg (by have := hKh.1 (by omega); omega), decide_eq_false h2]; simp
     · rw [decide_eq_false h1]
       split <;> simp
theorem a1z {z : Int} (hz : z ≠ 0) (e : Int) : (norm z e).m ≠ 0 := by
 unfold norm ofZ bare
 simp only
 rw [if_neg (by omega)]
 have := (b0v z.natAbs (by omega)).2
 simp only
 omega
theorem i1z {z : Int} (hz : z ≠ 0) (e : Int) : topD (norm z e) = e + blen z.natAbs := by
 unfold norm ofZ bare topD
 simp only
 rw [if_neg (by omega)]
 have h := (b0v z.natAbs (by omega)).1
 have h2 := (b0v z.natAbs (by omega)).2
 have h4 : 0 < z.natAbs / 2 ^ tz z.natAbs := by
  generalize z.natAbs / 2 ^ tz z.natAbs = q at *
  omega
 have h3 := g0j h4 (tz z.natAbs)
 rw [Nat.mul_comm, h] at h3
 simp only
 omega
def b0w (a : Dv) (g : Gd) : Int := max g.lo (upK a (wid g) g.digs.toNat)
theorem j0u {g : Gd} (G : f0c g) {D : Nat} (hD : g.digs = D) {z : Int} {k : Int} (h1 : z.natAbs < 2 ^ (wid g * D)) (h2 : z = 0 ∨ 2 ^ (wid g * (D - 1)) ≤ z.natAbs ∨ (g.grad = true ∧ k = g.lo)) (hk : g.lo ≤ k) (hk2 : k ≤ g.hi) : a0s (norm z (wid g * k)) g = true := by
 by_cases hz : z = 0
 · subst hz; rfl
 · have wp := b0g g
   have hd := G.d1
   have w0 : 0 ≤ (wid g : Int) := by omega
   have ht := i1z hz (wid g * k)
   have he := o1v z (e := wid g * k) hz
   have hm := a1z hz (wid g * k)
   generalize norm z (wid g * k) = a at *
   have hDt : g.digs.toNat = D := by omega
   have hb1 : blen z.natAbs ≤ wid g * D := (a0w _ _).2 h1
   have hb0 := (e0k z.natAbs).2 (by omega)
   unfold a0s
   rw [if_neg hm, hDt, hD]
   have e1 : ((wid g * D : Nat) : Int) = wid g * D := Int.natCast_mul _ _
   have a1 : (wid g : Int) * g.lo ≤ wid g * k := Int.mul_le_mul_of_nonneg_left hk w0
   have a2 : (wid g : Int) * k ≤ wid g * g.hi := Int.mul_le_mul_of_nonneg_left hk2 w0
   have e2 : (wid g : Int) * (g.hi + D) = wid g * g.hi + wid g * D := Int.mul_add _ _ _
   rw [if_neg (by omega)]
   have hb := g0d (topD a - 1) (wid g) (by omega)
   have eU : upK a (wid g) D = (topD a - 1) / (wid g : Int) - D + 1 := rfl
   generalize upK a (wid g) D = K at *
   generalize (topD a - 1) / (wid g : Int) = f at *
   have eK : (wid g : Int) * K = wid g * f - wid g * D + wid g := by rw [eU]; grind
   have hKk : K ≤ k := by
    rcases Int.lt_or_le k K with h | h
    · have h3 : (wid g : Int) * (k + 1) ≤ wid g * K := Int.mul_le_mul_of_nonneg_left (by omega) w0
      rw [Int.mul_add] at h3
      omega
    · exact h
   have a3 : (wid g : Int) * K ≤ wid g * k := Int.mul_le_mul_of_nonneg_left hKk w0
   by_cases hu : K < g.lo
   · rw [if_pos hu]
     rcases h2 with h2 | h2 | ⟨h2, _⟩
     · exact absurd h2 hz
     · exfalso
       have h3 : wid g * (D - 1) < blen z.natAbs := by
        rcases Nat.lt_or_ge (wid g * (D - 1)) (blen z.natAbs) with h | h
        · exact h
        · have := (a0w _ _).1 h; omega
       have e3 : ((wid g * (D - 1) : Nat) : Int) = wid g * D - wid g := by
        obtain ⟨d, rfl⟩ : ∃ d, D = d + 1 := ⟨D - 1, by omega⟩
        simp only [Nat.add_sub_cancel, Int.natCast_mul, Int.natCast_add]; grind
       have h4 : (wid g : Int) * (K + 1) ≤ wid g * k := Int.mul_le_mul_of_nonneg_left (by omega) w0
       rw [Int.mul_add] at h4
       omega
     · rw [if_pos h2]; exact dTr (by omega)
   · rw [if_neg hu]; exact dTr (by omega)
theorem j1a {a : Dv} (ha : Bare a) {g : Gd} (G : f0c g) (hin : a0s a g = true) (h0 : a.m ≠ 0) {D : Nat} (hD : g.digs = D) {k : Int} (hk : b0w a g = k) :
 ∃ n d : Nat, a.e - wid g * k = n ∧ a.m * 2 ^ n = d ∧ 0 < d ∧ d < 2 ^ (wid g * D) ∧ (g.lo < k ∨ g.grad = false → 2 ^ (wid g * (D - 1)) ≤ d) ∧ g.lo ≤ k ∧ k ≤ g.hi := by
 have wp := b0g g
 have hd := G.d1
 have hDt : g.digs.toNat = D := by omega
 -- what being in the grid says
 have hodd : a.m % 2 = 1 := by
  rcases ha with h | h
  · exact h
  · rw [h] at h0; simp at h0
 have hm0 : 0 < a.m := by omega
 have hKis := o0d hm0 a.e (w := wid g) (D := D) wp.1 (by omega)
 have eU : upK a (wid g) D = (topD a - 1) / (wid g : Int) - D + 1 := rfl
 have hKis : IsK a.m 1 a.e (wid g) D (upK a (wid g) D) := by rw [eU]; exact hKis
 have hks : k = max g.lo (upK a (wid g) D) := by rw [← hk]; unfold b0w; rw [hDt]
 obtain ⟨K, hK⟩ : ∃ K, upK a (wid g) D = K := ⟨_, rfl⟩
 rw [hK] at hKis hks eU
 have hkin := hin
 rw [← r0z ha G] at hkin
 unfold h0y at hkin
 rw [if_neg h0, hDt, hK] at hkin
 have hkin2 : (decide (rP a.m 1 (a.e - wid g * powK g K) = 0) && !decide (g.hi < powP a.neg a.m 1 a.e (wid g) g.digs.toNat 3 (powK g K)) && (!decide (K < g.lo) || g.grad)) = true := hkin
 rw [k0p] at hkin2
 simp only [Bool.and_eq_true, decide_eq_true_eq, Bool.not_eq_true', decide_eq_false_iff_not, Bool.or_eq_true] at hkin2
 obtain ⟨⟨x1, x2⟩, x3⟩ := hkin2
 have hpk : powK g K = k := by
  unfold powK
  rw [hks]
  by_cases hu : K < g.lo
  · rcases x3 with x3 | x3
    · exact absurd hu x3
    · rw [if_pos ⟨hu, x3⟩]; omega
  · rw [if_neg (by omega)]; omega
 rw [hpk] at x1 x2
 have hke : (wid g : Int) * k ≤ a.e := by have := (o0e hodd (a.e - wid g * k)).1 x1; omega
 have hkl : g.lo ≤ k := by omega
 have hkh : k ≤ g.hi := by omega
 -- its digits
 obtain ⟨n, hn2⟩ : ∃ n : Nat, a.e - wid g * k = n := ⟨(a.e - wid g * k).toNat, by omega⟩
 obtain ⟨d, hdd⟩ : ∃ d, a.m * 2 ^ n = d := ⟨_, rfl⟩
 have hq : qP a.m 1 (a.e - wid g * k) = d := by
  rw [hn2]; unfold qP numP denP
  rw [show (-(n : Int)).toNat = 0 by omega]
  simp [hdd]
 have hd0 : 0 < d := by rw [← hdd]; exact Nat.mul_pos hm0 (Nat.pow_pos (by omega))
 have hdlt : d < 2 ^ (wid g * D) := by
  have h1 := hKis.no
  have h2 : ¬ e0d a.m 1 a.e (wid g) D (k + 1) := fun h => h1 (i0m (by omega) h (by omega))
  unfold e0d at h2
  have e1 : wid g * D = wid g * (D - 1) + wid g := by
   obtain ⟨c, rfl⟩ : ∃ c, D = c + 1 := ⟨D - 1, by omega⟩
   simp only [Nat.add_sub_cancel]; grind
  rw [e1, Nat.pow_add]
  by_cases hw : wid g ≤ n
  · have e2 : a.e - wid g * (k + 1) = ((n - wid g : Nat) : Int) := by rw [Int.mul_add]; omega
    have e3 : qP a.m 1 (a.e - wid g * (k + 1)) = a.m * 2 ^ (n - wid g) := by
     rw [e2]; unfold qP numP denP
     rw [show (-((n - wid g : Nat) : Int)).toNat = 0 by omega]
     simp
    rw [e3] at h2
    have e4 : d = a.m * 2 ^ (n - wid g) * 2 ^ wid g := by rw [← hdd, Nat.mul_assoc, ← Nat.pow_add]; congr 2; omega
    rw [e4]
    exact Nat.mul_lt_mul_of_pos_right (by omega) (Nat.pow_pos (by omega))
  · have e2 : a.e - wid g * (k + 1) = -((wid g - n : Nat) : Int) := by rw [Int.mul_add]; omega
    have e3 : qP a.m 1 (a.e - wid g * (k + 1)) = a.m / 2 ^ (wid g - n) := by
     rw [e2]; unfold qP numP denP
     rw [show (-((wid g - n : Nat) : Int)).toNat = 0 by omega, show (-(-((wid g - n : Nat) : Int))).toNat = wid g - n by omega]
     simp
    rw [e3] at h2
    have h3 : a.m / 2 ^ (wid g - n) < 2 ^ (wid g * (D - 1)) := by omega
    rw [Nat.div_lt_iff_lt_mul (Nat.pow_pos (by omega))] at h3
    have e4 : 2 ^ (wid g * (D - 1)) * 2 ^ (wid g - n) * 2 ^ n = 2 ^ (wid g * (D - 1)) * 2 ^ wid g := by rw [Nat.mul_assoc, ← Nat.pow_add]; congr 2; omega
    rw [← hdd, ← e4]
    exact Nat.mul_lt_mul_of_pos_right h3 (Nat.pow_pos (by omega))
 have hdge : g.lo < k ∨ g.grad = false → 2 ^ (wid g * (D - 1)) ≤ d := by
  intro h
  have h1 : k = K := by
   rcases h with h | h
   · omega
   · rcases x3 with x3 | x3
     · omega
     · rw [h] at x3; simp at x3
  have h2 := hKis.yes
  unfold e0d at h2
  rw [← h1, hq] at h2
  exact h2
 exact ⟨n, d, hn2, hdd, hd0, hdlt, hdge, hkl, hkh⟩
def le2 (a : Nat) (x : Int) (b : Nat) (y : Int) : Prop := a * 2 ^ (x - min x y).toNat ≤ b * 2 ^ (y - min x y).toNat
theorem d0p {a b : Nat} {x y : Int} (s : Int) (h1 : s ≤ x) (h2 : s ≤ y) : le2 a x b y ↔ a * 2 ^ (x - s).toNat ≤ b * 2 ^ (y - s).toNat := by
 unfold le2
 rw [show (x - s).toNat = (x - min x y).toNat + (min x y - s).toNat by omega, show (y - s).toNat = (y - min x y).toNat + (min x y - s).toNat by omega, Nat.pow_add, Nat.pow_add, ← Nat.mul_assoc, ← Nat.mul_assoc]
 have hp : 0 < 2 ^ (min x y - s).toNat := Nat.pow_pos (by omega)
 exact ⟨fun h => Nat.mul_le_mul_right _ h, fun h => Nat.le_of_mul_le_mul_right h hp⟩
theorem k0q {a b c : Nat} {x y z : Int} (h : le2 a x b y) (k : le2 b y c z) : le2 a x c z := by
 obtain ⟨s, h1, h2, h3⟩ : ∃ s : Int, s ≤ x ∧ s ≤ y ∧ s ≤ z := ⟨min x (min y z), by omega, by omega, by omega⟩
 rw [d0p s h1 h2] at h
 rw [d0p s h2 h3] at k
 rw [d0p s h1 h3]
 exact Nat.le_trans h k
theorem s0a {a b : Nat} {x : Int} : le2 a x b x ↔ a ≤ b := by
 unfold le2
 rw [show (x - min x x).toNat = 0 by omega]
 omega
theorem o0f {a : Nat} {x : Int} (n : Nat) : le2 (a * 2 ^ n) x a (x + n) ∧ le2 a (x + n) (a * 2 ^ n) x := by
 rw [d0p x (Int.le_refl _) (by omega), d0p x (by omega) (Int.le_refl _)]
 rw [show (x - x).toNat = 0 by omega, show (x + (n : Int) - x).toNat = n by omega]
 simp
theorem q0e {num den : Nat} (hd : 0 < den) (e k : Int) (m : Nat) : m ≤ qP num den (e - k) ↔ le2 (m * den) k num e := by
 unfold qP
 rw [Nat.le_div_iff_mul_le (e0l hd _)]
 unfold numP denP le2
 rcases Int.le_total k e with h | h
 · rw [show (-(e - k)).toNat = 0 by omega, show (k - min k e).toNat = 0 by omega, show (e - min k e).toNat = (e - k).toNat by omega]
   simp only [Nat.pow_zero, Nat.mul_one]
 · rw [show (e - k).toNat = 0 by omega, show (k - min k e).toNat = (-(e - k)).toNat by omega, show (e - min k e).toNat = 0 by omega]
   simp only [Nat.pow_zero, Nat.mul_one, Nat.mul_assoc]
theorem s1f {num den : Nat} (_hd : 0 < den) (e k : Int) : rP num den (e - k) = 0 ↔ le2 num e (qP num den (e - k) * den) k := by
 have h1 := Nat.div_add_mod (numP num (e - k)) (denP den (e - k))
 have e0 : le2 num e (qP num den (e - k) * den) k ↔ numP num (e - k) ≤ denP den (e - k) * qP num den (e - k) := by
  unfold le2 numP denP
  rcases Int.le_total k e with h | h
  · rw [show (-(e - k)).toNat = 0 by omega, show (k - min e k).toNat = 0 by omega, show (e - min e k).toNat = (e - k).toNat by omega]
    simp only [Nat.pow_zero, Nat.mul_one]
    rw [Nat.mul_comm (qP num den (e - k)) den]
  · rw [show (e - k).toNat = 0 by omega, show (k - min e k).toNat = (-(e - k)).toNat by omega, show (e - min e k).toNat = 0 by omega]
    simp only [Nat.pow_zero, Nat.mul_one]
    rw [show qP num den (e - k) * den * 2 ^ (-(e - k)).toNat = den * 2 ^ (-(e - k)).toNat * qP num den (e - k) by grind]
 rw [e0]
 unfold rP qP
 omega
theorem j1b {num den : Nat} (_hd : 0 < den) (e k : Int) :
 (denP den (e - k) ≤ 2 * rP num den (e - k) ↔ le2 ((2 * qP num den (e - k) + 1) * den) (k - 1) num e) ∧ (2 * rP num den (e - k) ≤ denP den (e - k) ↔ le2 num e ((2 * qP num den (e - k) + 1) * den) (k - 1)) := by
 have h1 := Nat.div_add_mod (numP num (e - k)) (denP den (e - k))
 have hq : qP num den (e - k) = numP num (e - k) / denP den (e - k) := rfl
 have hr : rP num den (e - k) = numP num (e - k) % denP den (e - k) := rfl
 rw [← hq, ← hr] at h1
 generalize qP num den (e - k) = Q at *
 generalize rP num den (e - k) = R at *
 clear hq hr
 have key : (2 * Q + 1) * denP den (e - k) = 2 * (denP den (e - k) * Q) + denP den (e - k) := by grind
 have e0 : (le2 ((2 * Q + 1) * den) (k - 1) num e ↔ (2 * Q + 1) * denP den (e - k) ≤ 2 * numP num (e - k)) ∧ (le2 num e ((2 * Q + 1) * den) (k - 1) ↔ 2 * numP num (e - k) ≤ (2 * Q + 1) * denP den (e - k)) := by
  unfold numP denP
  rcases Int.le_total k e with h | h
  · rw [d0p (k - 1) (Int.le_refl _) (by omega), d0p (k - 1) (by omega) (Int.le_refl _)]
    rw [show (-(e - k)).toNat = 0 by omega, show (k - 1 - (k - 1)).toNat = 0 by omega, show (e - (k - 1)).toNat = (e - k).toNat + 1 by omega, Nat.pow_succ]
    simp only [Nat.pow_zero, Nat.mul_one]
    rw [show num * (2 ^ (e - k).toNat * 2) = 2 * (num * 2 ^ (e - k).toNat) by grind]
    exact ⟨Iff.rfl, Iff.rfl⟩
  · rw [d0p (e - 1) (by omega) (by omega), d0p (e - 1) (by omega) (by omega)]
    rw [show (e - k).toNat = 0 by omega, show (k - 1 - (e - 1)).toNat = (-(e - k)).toNat by omega, show (e - (e - 1)).toNat = 1 by omega]
    simp only [Nat.pow_zero, Nat.mul_one, Nat.pow_one]
    rw [show (2 * Q + 1) * den * 2 ^ (-(e - k)).toNat = (2 * Q + 1) * (den * 2 ^ (-(e - k)).toNat) by grind, Nat.mul_comm num 2]
    exact ⟨Iff.rfl, Iff.rfl⟩
 rw [e0.1, e0.2, key]
 omega
theorem e1j {num den : Nat} (hd : 0 < den) (e : Int) (w D : Nat) (k : Int) : e0d num den e w D k ↔ le2 (2 ^ (w * (D - 1)) * den) (w * k) num e := by
 unfold e0d; exact q0e hd e _ _
theorem s0b {r D : Nat} : (0 < cmpN (r * 2) D ↔ ¬ 2 * r ≤ D) ∧ (0 ≤ cmpN (r * 2) D ↔ D ≤ 2 * r) ∧ (cmpN (r * 2) D = 0 ↔ 2 * r ≤ D ∧ D ≤ 2 * r) := by
 unfold cmpN
 refine ⟨?_, ?_, ?_⟩ <;> split <;> (try split) <;> omega
def ge10 (num den : Nat) (j : Int) : Prop := den * 10 ^ j.toNat ≤ num * 10 ^ (-j).toNat
instance (num den : Nat) (j : Int) : Decidable (ge10 num den j) := by unfold ge10; exact inferInstance
theorem c0v (n : Nat) : 0 < 10 ^ n := Nat.pow_pos (by omega)
theorem h0a {num den : Nat} {j : Int} {u v : Nat} (h : (u : Int) - v = j) : ge10 num den j ↔ den * 10 ^ u ≤ num * 10 ^ v := by
 unfold ge10
 rcases Int.le_total 0 j with hj | hj
 · rw [show (-j).toNat = 0 by omega, Nat.pow_zero, Nat.mul_one, show u = j.toNat + v by omega, Nat.pow_add, ← Nat.mul_assoc]
   exact ⟨fun h => Nat.mul_le_mul_right _ h, fun h => Nat.le_of_mul_le_mul_right h (c0v v)⟩
 · rw [show j.toNat = 0 by omega, Nat.pow_zero, Nat.mul_one, show v = (-j).toNat + u by omega, Nat.pow_add, ← Nat.mul_assoc]
   exact ⟨fun h => Nat.mul_le_mul_right _ h, fun h => Nat.le_of_mul_le_mul_right h (c0v u)⟩
theorem u0a {num den : Nat} {i j : Int} (h : ge10 num den j) (hij : i ≤ j) : ge10 num den i := by
 obtain ⟨v, hv⟩ : ∃ v : Nat, 0 ≤ i + v := ⟨(-i).toNat, by omega⟩
 refine (h0a (u := (i + v).toNat) (v := v) (by omega)).2 (Nat.le_trans ?_ ((h0a (u := (j + v).toNat) (v := v) (by omega)).1 h))
 exact Nat.mul_le_mul_left _ (Nat.pow_le_pow_right (by omega) (by omega))
def n10 (num : Nat) (u : Int) : Nat := num * 10 ^ u.toNat
def d10 (den : Nat) (u : Int) : Nat := den * 10 ^ (-u).toNat
def q10 (num den : Nat) (u : Int) : Nat := n10 num u / d10 den u
def r10 (num den : Nat) (u : Int) : Nat := n10 num u % d10 den u
theorem s0c {den : Nat} (h : 0 < den) (u : Int) : 0 < d10 den u := Nat.mul_pos h (c0v _)
theorem j0v {num den : Nat} (hd : 0 < den) (a : Nat) (u : Int) : 10 ^ a ≤ q10 num den u ↔ ge10 num den (a - u) := by
 unfold q10
 rw [Nat.le_div_iff_mul_le (s0c hd u), h0a (u := a + (-u).toNat) (v := u.toNat) (by omega)]
 unfold n10 d10
 rw [Nat.pow_add, show 10 ^ a * (den * 10 ^ (-u).toNat) = den * (10 ^ a * 10 ^ (-u).toNat) by grind]
structure IsP (num den : Nat) (P : Int) : Prop where
 yes : ge10 num den P
 no : ¬ ge10 num den (P + 1)
theorem IsP.iff {num den : Nat} {P : Int} (h : IsP num den P) (j : Int) : ge10 num den j ↔ j ≤ P :=
 ⟨fun k => by
   rcases Int.lt_or_le P j with h1 | h1
   · exact absurd (u0a k (by omega)) h.no
   · exact h1, fun k => u0a h.yes k⟩
theorem IsP.unique {num den : Nat} {P Q : Int} (h : IsP num den P) (k : IsP num den Q) : P = Q := by
 have h1 := (h.iff Q).1 k.yes
 have h2 := (k.iff P).1 h.yes
 omega
theorem b0f (n k : Nat) (hk : 1 ≤ k) : (a0z n).length ≤ k ↔ n < 10 ^ k := by
 unfold a0z
 split
 · rename_i h; subst h
   exact ⟨fun _ => c0v k, fun _ => by simpa using hk⟩
 · rw [List.length_map, List.length_reverse, a0g (by omega)]
theorem c0q (n : Nat) : 1 ≤ (a0z n).length := by have := (w0t n).1; omega
theorem s0d {n : Nat} (h : 0 < n) : 10 ^ ((a0z n).length - 1) ≤ n := by
 have h1 := c0q n
 by_cases h2 : (a0z n).length = 1
 · rw [h2]; exact h
 · have h3 := b0f n ((a0z n).length - 1) (by omega)
   omega
def theP (num den : Nat) : Int := (a0z (q10 num den (a0z den).length)).length - 1 - (a0z den).length
theorem l0x {num den : Nat} (hn : 0 < num) (hd : 0 < den) : IsP num den (theP num den) := by
 unfold theP
 obtain ⟨b, hb⟩ : ∃ b, b = (a0z den).length := ⟨_, rfl⟩
 rw [← hb]
 have h1 : den < 10 ^ b := (b0f den b (by rw [hb]; exact c0q den)).1 (by omega)
 have hq : 0 < q10 num den b := by
  have h2 := (j0v (num := num) hd 0 b).2 ((h0a (u := 0) (v := b) (by omega)).2 (by
    rw [Nat.pow_zero, Nat.mul_one]
    exact Nat.le_trans (Nat.le_of_lt h1) (Nat.le_mul_of_pos_left _ hn)))
  rw [Nat.pow_zero] at h2; exact h2
 have hl := c0q (q10 num den b)
 have h3 := s0d hq
 have h4 := (b0f (q10 num den b) _ hl).1 (Nat.le_refl _)
 rw [j0v hd] at h3
 have h5 : ¬ 10 ^ (a0z (q10 num den b)).length ≤ q10 num den b := by omega
 rw [j0v hd] at h5
 generalize (a0z (q10 num den b)).length = L at *
 exact ⟨by rw [show (L : Int) - 1 - b = ((L - 1 : Nat) : Int) - b by omega]; exact h3, by rw [show (L : Int) - 1 - b + 1 = (L : Int) - b by omega]; exact h5⟩
theorem IsP.bd {num den : Nat} {P : Int} (h : IsP num den P) (hd : 0 < den) : 3 * P < blen num + 1 ∧ -(blen den : Int) < 3 * (P + 1) := by
 have h8 : ∀ n : Nat, 2 ^ (3 * n) ≤ 10 ^ n := fun n => by rw [Nat.pow_mul]; exact Nat.pow_le_pow_left (by omega) n
 have hN := (a0w num _).1 (Nat.le_refl _)
 have hD := (a0w den _).1 (Nat.le_refl _)
 constructor
 · rcases Int.lt_or_le P 0 with h0 | h0
   · omega
   · have h1 := (h0a (u := P.toNat) (v := 0) (by omega)).1 h.yes
     rw [Nat.pow_zero, Nat.mul_one] at h1
     have h2 : 10 ^ P.toNat ≤ num := Nat.le_trans (Nat.le_mul_of_pos_left _ hd) h1
     have h3 : 2 ^ (3 * P.toNat) < 2 ^ blen num := Nat.lt_of_le_of_lt (Nat.le_trans (h8 _) h2) hN
     have h4 := (Nat.pow_lt_pow_iff_right (by omega)).1 h3
     omega
 · rcases Int.lt_or_le 0 (P + 1) with h0 | h0
   · omega
   · have h1 : ¬ den * 10 ^ 0 ≤ num * 10 ^ (-(P + 1)).toNat := fun k => h.no ((h0a (by omega)).2 k)
     rw [Nat.pow_zero, Nat.mul_one] at h1
     by_cases hn : num = 0
     · have := h.yes
       rw [hn] at this
       unfold ge10 at this
       have k1 := Nat.mul_pos hd (c0v P.toNat)
       omega
     · have h2 : 10 ^ (-(P + 1)).toNat < den := by
        have := Nat.le_mul_of_pos_left (10 ^ (-(P + 1)).toNat) (Nat.pos_of_ne_zero hn)
        omega
       have h3 : 2 ^ (3 * (-(P + 1)).toNat) < 2 ^ blen den := Nat.lt_of_le_of_lt (h8 _) (Nat.lt_trans h2 hD)
       have h4 := (Nat.pow_lt_pow_iff_right (by omega)).1 h3
       omega
theorem IsP.long {num den : Nat} {P : Int} (h : IsP num den P) (hd : 0 < den) {k : Nat} (hk : 1 ≤ k) (p : Int) : k < (a0z (q10 num den (k - 1 - p))).length ↔ p < P := by
 have h1 := b0f (q10 num den (k - 1 - p)) k hk
 have h2 := (j0v (num := num) hd k (k - 1 - p)).trans ((h.iff _).trans (show (k : Int) - (k - 1 - p) ≤ P ↔ p < P by omega))
 omega
theorem IsP.short {num den : Nat} {P : Int} (h : IsP num den P) (hd : 0 < den) {k : Nat} (hk : 1 ≤ k) (p : Int) : ((a0z (q10 num den (k - 1 - p))).length < k ∨ q10 num den (k - 1 - p) = 0) ↔ P < p := by
 have h2 := (j0v (num := num) hd (k - 1) (k - 1 - p)).trans ((h.iff _).trans (show ((k - 1 : Nat) : Int) - (k - 1 - p) ≤ P ↔ p ≤ P by omega))
 generalize q10 num den (k - 1 - p) = q at *
 have hz : q = 0 → q < 10 ^ (k - 1) := fun e => by rw [e]; exact c0v _
 by_cases h3 : k = 1
 · subst h3
   have := c0q q
   rw [Nat.sub_self, Nat.pow_zero] at h2
   omega
 · have h1 := b0f q (k - 1) (by omega)
   omega
def upT (num den : Nat) (u : Int) : Bool := decide (0 < cmpN (r10 num den u * 2) (d10 den u)) || (decide (cmpN (r10 num den u * 2) (d10 den u) = 0) && decide (q10 num den u % 2 = 1))
def dT (num den : Nat) (u : Int) : Nat := q10 num den u + if upT num den u then 1 else 0
def decM (num den k : Nat) : List Nat × Int :=
 if k < (a0z (dT num den (k - 1 - theP num den))).length then ((a0z (dT num den (k - 1 - theP num den))).take k, theP num den + 1) else (a0z (dT num den (k - 1 - theP num den)), theP num den)
theorem o1w {num den : Nat} (hd : 0 < den) (u : Int) : 2 * (dT num den u * d10 den u) ≤ 2 * n10 num u + d10 den u ∧ 2 * n10 num u ≤ 2 * (dT num den u * d10 den u) + d10 den u := by
 have h1 := Nat.div_add_mod (n10 num u) (d10 den u)
 have h2 := Nat.mod_lt (n10 num u) (s0c hd u)
 have hr : r10 num den u = n10 num u % d10 den u := rfl
 have hq : q10 num den u = n10 num u / d10 den u := rfl
 have hc := @s0b (r10 num den u) (d10 den u)
 unfold dT upT
 rw [← hr, ← hq] at h1
 rw [← hr] at h2
 generalize r10 num den u = r at *
 generalize q10 num den u = q at *
 generalize d10 den u = D at *
 generalize cmpN (r * 2) D = c at *
 rw [Nat.mul_comm] at h1
 by_cases c1 : 0 < c
 · have := hc.1.1 c1
   rw [decide_eq_true c1, Bool.true_or, if_pos rfl, Nat.add_mul, Nat.one_mul]
   omega
 · rw [decide_eq_false c1, Bool.false_or]
   have c2 : 2 * r ≤ D := by
    rcases Nat.lt_or_ge D (2 * r) with k | k
    · exact absurd (hc.1.2 (by omega)) c1
    · exact k
   by_cases c3 : c = 0
   · have := hc.2.2.1 c3
     split
     · rw [Nat.add_mul, Nat.one_mul]; omega
     · rw [Nat.add_zero]; omega
   · rw [decide_eq_false c3, Bool.false_and, if_neg (by simp), Nat.add_zero]; omega
theorem o0g {num den : Nat} (hn : 0 < num) (hd : 0 < den) {k : Nat} (hk : 1 ≤ k) {s : List Nat} {p : Int} (h : decM num den k = (s, p)) :
 s.length = k ∧ (∀ x ∈ s, 48 ≤ x ∧ x ≤ 57) ∧ 10 ^ (k - 1) ≤ a0n s ∧ theP num den ≤ p ∧ p ≤ theP num den + 1 ∧
 (dT num den (k - 1 - theP num den) = a0n s ∧ p = theP num den ∨ dT num den (k - 1 - theP num den) = a0n s * 10 ∧ p = theP num den + 1) := by
 have hP := l0x hn hd
 have hlo : 10 ^ (k - 1) ≤ q10 num den (k - 1 - theP num den) := (j0v hd _ _).2 ((hP.iff _).2 (by omega))
 have hhi : q10 num den (k - 1 - theP num den) < 10 ^ k := by
  have h1 := hP.long hd hk (theP num den)
  have h2 := b0f (q10 num den (k - 1 - theP num den)) k hk
  omega
 unfold decM at h
 have hd1 : q10 num den (k - 1 - theP num den) ≤ dT num den (k - 1 - theP num den) ∧ dT num den (k - 1 - theP num den) ≤ q10 num den (k - 1 - theP num den) + 1 := by unfold dT; split <;> omega
 generalize dT num den (k - 1 - theP num den) = d at *
 generalize q10 num den (k - 1 - theP num den) = q at *
 generalize theP num den = P at *
 have hl := b0f d k hk
 have hn := t0z d
 have hg := g0n d
 by_cases h1 : k < (a0z d).length
 · rw [if_pos h1] at h
   injection h with h3 h4
   have e1 : d = 10 ^ k := by omega
   have hl2 : (a0z d).length ≤ k + 1 := (b0f d (k + 1) (by omega)).2 (by rw [e1]; exact Nat.pow_lt_pow_right (by omega) (by omega))
   have e4 : a0n (a0z d) = a0n ((a0z d).take k) * 10 ^ ((a0z d).drop k).length + a0n ((a0z d).drop k) := by rw [← m0i, List.take_append_drop]
   have e5 : ((a0z d).drop k).length = 1 := by rw [List.length_drop]; omega
   have e6 : a0n ((a0z d).drop k) < 10 ^ ((a0z d).drop k).length := g0y _ fun j hj => by rw [a0x hj]; exact (hg _ (List.mem_of_mem_drop (List.getElem_mem hj))).2
   rw [hn, e5, Nat.pow_one, e1] at e4
   rw [e5, Nat.pow_one] at e6
   rw [← e1] at e4
   rw [h3] at e4
   obtain ⟨j, rfl⟩ : ∃ j, k = j + 1 := ⟨k - 1, by omega⟩
   rw [Nat.pow_succ] at e1
   rw [Nat.add_sub_cancel]
   refine ⟨by rw [← h3, List.length_take]; omega, fun x hx => hg x (List.mem_of_mem_take (h3 ▸ hx)), by omega, by omega, by omega, .inr ⟨by omega, by omega⟩⟩
 · rw [if_neg h1] at h
   injection h with h3 h4
   have hk1 : ¬ (a0z d).length ≤ k - 1 := by
    by_cases h5 : k = 1
    · have := c0q d; omega
    · rw [b0f d (k - 1) (by omega)]; omega
   subst h3 h4
   rw [hn]
   exact ⟨by omega, hg, by omega, by omega, by omega, .inl ⟨rfl, rfl⟩⟩
theorem e1k {num den : Nat} (hn : 0 < num) (hd : 0 < den) {k : Nat} (hk : 1 ≤ k) {s : List Nat} {p : Int} (h : decM num den k = (s, p)) {M : Nat} (hM : M < 10 ^ (k - 1)) {a b : Nat} (hab : (a : Int) - b = p - (k - 1)) :
 2 * M * (a0n s * den * 10 ^ a) < (2 * M + 1) * (num * 10 ^ b) ∧ 2 * M * (num * 10 ^ b) < 2 * M * (a0n s * den * 10 ^ a) + num * 10 ^ b := by
 obtain ⟨_, _, hS, _, _, hd2⟩ := o0g hn hd hk h
 have hP := l0x hn hd
 have hlo : ge10 num den (theP num den) := hP.yes
 have hne := o1w (num := num) hd (k - 1 - theP num den)
 unfold n10 d10 at hne
 generalize dT num den (k - 1 - theP num den) = d at *
 generalize theP num den = P at *
 -- above and below, as they stand
 have key : ∀ a b : Nat, (a : Int) - b = P - (k - 1) → 2 * (d * (den * 10 ^ a)) ≤ 2 * (num * 10 ^ b) + den * 10 ^ a ∧ 2 * (num * 10 ^ b) ≤ 2 * (d * (den * 10 ^ a)) + den * 10 ^ a ∧ 10 ^ (k - 1) * (den * 10 ^ a) ≤ num * 10 ^ b := by
  intro a b hab
  have h1 := (h0a (u := k - 1 + a) (v := b) (by omega)).1 hlo
  rw [Nat.pow_add] at h1
  obtain ⟨c, hc1, hc2⟩ : ∃ c : Nat, a = (-((k : Int) - 1 - P)).toNat + c ∧ b = ((k : Int) - 1 - P).toNat + c := ⟨a - (-((k : Int) - 1 - P)).toNat, by omega, by omega⟩
  refine ⟨?_, ?_, by rw [show 10 ^ (k - 1) * (den * 10 ^ a) = den * (10 ^ (k - 1) * 10 ^ a) by grind]; exact h1⟩
  · have := Nat.mul_le_mul_right (10 ^ c) hne.1
    rw [hc1, hc2, Nat.pow_add, Nat.pow_add]
    grind
  · have := Nat.mul_le_mul_right (10 ^ c) hne.2
    rw [hc1, hc2, Nat.pow_add, Nat.pow_add]
    grind
 have fin : ∀ X D N : Nat, 0 < D → 2 * (d * D) ≤ 2 * N + D → 2 * N ≤ 2 * (d * D) + D → 10 ^ (k - 1) * D ≤ N → X = d * D → 2 * M * X < (2 * M + 1) * N ∧ 2 * M * N < 2 * M * X + N := by
  intro X D N hD a1 a2 a3 e
  subst e
  have a4 : M * D < N := Nat.lt_of_lt_of_le (Nat.mul_lt_mul_of_pos_right hM hD) a3
  have a5 := Nat.mul_le_mul_left M a1
  have a6 := Nat.mul_le_mul_left M a2
  have e1 : M * (2 * (d * D)) = 2 * M * (d * D) := by grind
  have e2 : M * (2 * N + D) = 2 * M * N + M * D := by grind
  have e3 : M * (2 * N) = 2 * M * N := by grind
  have e4 : M * (2 * (d * D) + D) = 2 * M * (d * D) + M * D := by grind
  have e5 : (2 * M + 1) * N = 2 * M * N + N := by grind
  omega
 rcases hd2 with ⟨e1, e2⟩ | ⟨e1, e2⟩
 · obtain ⟨k1, k2, k3⟩ := key a b (by omega)
   exact fin _ _ _ (Nat.mul_pos hd (c0v a)) k1 k2 k3 (by rw [e1]; grind)
 · obtain ⟨k1, k2, k3⟩ := key a (b + 1) (by omega)
   have hf := fin (a0n s * 10 * (den * 10 ^ a)) _ _ (Nat.mul_pos hd (c0v a)) k1 k2 k3 (by rw [e1])
   have g1 : a0n s * 10 * (den * 10 ^ a) = a0n s * den * 10 ^ a * 10 := by grind
   have g2 : num * 10 ^ (b + 1) = num * 10 ^ b * 10 := by rw [Nat.pow_succ]; grind
   rw [g1, g2] at hf
   have g3 : ∀ x y : Nat, x * (y * 10) = x * y * 10 := fun x y => by grind
   rw [g3, g3, g3] at hf
   omega
theorem q0f {num den c : Nat} (hn : 0 < num) (hd : 0 < den) (hc : 0 < c) (k : Nat) : decM (num * c) (den * c) k = decM num den k := by
 have hg : ∀ j, ge10 (num * c) (den * c) j ↔ ge10 num den j := fun j => by
  unfold ge10
  rw [show den * c * 10 ^ j.toNat = den * 10 ^ j.toNat * c by grind, show num * c * 10 ^ (-j).toNat = num * 10 ^ (-j).toNat * c by grind]
  exact ⟨fun h => Nat.le_of_mul_le_mul_right h hc, fun h => Nat.mul_le_mul_right _ h⟩
 have hP : theP (num * c) (den * c) = theP num den := by
  have h1 := l0x hn hd
  exact (l0x (Nat.mul_pos hn hc) (Nat.mul_pos hd hc)).unique ⟨(hg _).2 h1.yes, fun h => h1.no ((hg _).1 h)⟩
 have hq : ∀ u, q10 (num * c) (den * c) u = q10 num den u ∧ r10 (num * c) (den * c) u = c * r10 num den u ∧ d10 (den * c) u = c * d10 den u := fun u => by
  unfold q10 r10 n10 d10
  rw [show num * c * 10 ^ u.toNat = c * (num * 10 ^ u.toNat) by grind, show den * c * 10 ^ (-u).toNat = c * (den * 10 ^ (-u).toNat) by grind]
  exact ⟨Nat.mul_div_mul_left _ _ hc, Nat.mul_mod_mul_left _ _ _, rfl⟩
 have hcm : ∀ a b : Nat, cmpN (c * a) (c * b) = cmpN a b := fun a b => by
  unfold cmpN
  have h1 : c * a < c * b ↔ a < b := Nat.mul_lt_mul_left hc
  have h2 : c * b < c * a ↔ b < a := Nat.mul_lt_mul_left hc
  simp only [h1, h2]
 have hdT : ∀ u, dT (num * c) (den * c) u = dT num den u := fun u => by
  obtain ⟨a1, a2, a3⟩ := hq u
  unfold dT upT
  rw [a1, a2, a3, show c * r10 num den u * 2 = c * (r10 num den u * 2) by grind, hcm]
 unfold decM
 rw [hP, hdT]
theorem e1l {n1 d1 n2 d2 : Nat} (h1 : 0 < n1) (h2 : 0 < d1) (h3 : 0 < n2) (h4 : 0 < d2) (h : n1 * d2 = n2 * d1) (k : Nat) : decM n1 d1 k = decM n2 d2 k := by
 rw [← q0f h1 h2 h4, ← q0f h3 h4 h2, h, Nat.mul_comm d1 d2]
theorem e1m {a : Dv} {g : Gd} (G : f0c g) (hin : a0s a g = true) (h0 : a.m ≠ 0) :
 wid g * b0w a g ≤ a.e ∧ a.e ≤ wid g * b0w a g + 484 ∧ g.lo ≤ b0w a g ∧ b0w a g ≤ g.hi := by
 have wp := b0g g
 have hd := G.d1
 have hd2 := G.d2
 have hle := G.le
 have w0 : (0 : Int) ≤ wid g := by omega
 obtain ⟨D, hD⟩ : ∃ D : Nat, g.digs = D := ⟨g.digs.toNat, by omega⟩
 have hDt : g.digs.toNat = D := by omega
 have hwD : wid g * D ≤ 4 * 120 := Nat.mul_le_mul wp.2 (by omega)
 have ewD : ((wid g * D : Nat) : Int) = wid g * D := Int.natCast_mul _ _
 unfold b0w
 unfold a0s at hin
 rw [if_neg h0, hDt, hD] at hin
 rw [hDt]
 have hb := g0d (topD a - 1) (wid g) (by omega)
 have eU : upK a (wid g) D = (topD a - 1) / (wid g : Int) - D + 1 := rfl
 have etop : topD a = a.e + blen a.m := rfl
 have hbm := (e0k a.m).2 (by omega)
 generalize topD a = T at *
 generalize upK a (wid g) D = K at *
 generalize (T - 1) / (wid g : Int) = f at *
 have eK : (wid g : Int) * K = wid g * f - wid g * D + wid g := by rw [eU]; grind
 have ehi : (wid g : Int) * (g.hi + D) = wid g * g.hi + wid g * D := Int.mul_add _ _ _
 by_cases h1 : a.e < wid g * g.lo ∨ wid g * (g.hi + D) < T
 · rw [if_pos h1] at hin; simp at hin
 · rw [if_neg h1] at hin
   by_cases hu : K < g.lo
   · rw [if_pos hu] at hin
     have hm : max g.lo K = g.lo := by omega
     rw [hm]
     have h2 : (wid g : Int) * (K + 1) ≤ wid g * g.lo := Int.mul_le_mul_of_nonneg_left (by omega) w0
     rw [Int.mul_add] at h2
     exact ⟨by omega, by omega, by omega, by omega⟩
   · rw [if_neg hu] at hin
     have hm : max g.lo K = K := by omega
     have h2 := oTr hin
     rw [hm]
     have h3 : K ≤ g.hi := by
      rcases Int.lt_or_le g.hi K with h | h
      · have h4 : (wid g : Int) * (g.hi + 1) ≤ wid g * K := Int.mul_le_mul_of_nonneg_left (by omega) w0
        rw [Int.mul_add] at h4
        omega
      · exact h
     exact ⟨by omega, by omega, by omega, h3⟩
theorem q_lt {num den : Nat} (hd : 0 < den) {e : Int} {w D : Nat} (hD : 1 ≤ D) {k : Int} (h : ¬ e0d num den e w D (k + 1)) : qP num den (e - w * k) < 2 ^ (w * D) := by
 rcases Nat.lt_or_ge (qP num den (e - w * k)) (2 ^ (w * D)) with h1 | h1
 · exact h1
 · exfalso
   refine h ((e1j hd e w D (k + 1)).2 ?_)
   have h2 := (q0e hd e ((w : Int) * k) _).1 h1
   have e1 : w * D = w * (D - 1) + w := by
    obtain ⟨c, rfl⟩ : ∃ c, D = c + 1 := ⟨D - 1, by omega⟩
    simp only [Nat.add_sub_cancel]; grind
   have e2 : 2 ^ (w * D) * den = 2 ^ (w * (D - 1)) * den * 2 ^ w := by rw [e1, Nat.pow_add]; grind
   rw [e2] at h2
   have h3 := (o0f (a := 2 ^ (w * (D - 1)) * den) (x := (w : Int) * k) w).2
   rw [show (w : Int) * (k + 1) = w * k + w by rw [Int.mul_add]; simp]
   exact k0q h3 h2
theorem w0w (g : Gd) (K : Int) : K ≤ powK g K := by unfold powK; split <;> omega
theorem w0x {num den : Nat} (hd : 0 < den) {e : Int} {w D : Nat} {K : Int} (hK : IsK num den e w D K) {k : Int} (hk : K ≤ k) : ¬ e0d num den e w D (k + 1) := fun h => by
 have := hK.le hd h
 omega
theorem l0y {g : Gd} (h : errG g = 0) : -17000 ≤ wid g * g.lo ∧ wid g * g.hi ≤ 17000 ∧ (wid g : Int) * g.digs ≤ 480 := by
 have G := c0e h
 have d1 := G.d1
 have d2 := G.d2
 unfold errG at h
 by_cases h1 : g.rad ≠ 2 ∧ g.rad ≠ 16
 · rw [if_pos h1] at h; simp at h
 · rw [if_neg h1] at h
   by_cases h2 : g.digs < 1 ∨ 120 < g.digs ∨ farG g g.lo ∨ farG g g.hi ∨ g.hi < g.lo
   · rw [if_pos h2] at h; simp at h
   · unfold farG most at h2
     unfold wid
     by_cases h3 : g.rad = 16
     · simp only [if_pos h3] at *; omega
     · simp only [if_neg h3] at *; omega
theorem j1c {neg : Bool} {num den : Nat} {e : Int} {g : Gd} {way K : Int} (hd : 0 < den) (G : f0c g) (hK : IsK num den e (wid g) g.digs.toNat K) : (fitK neg num den e g way K).d < 2 ^ (wid g * g.digs.toNat) := by
 have hD : 1 ≤ g.digs.toNat := by have := G.d1; omega
 have hq := q_lt hd hD (w0x hd hK (w0w g K))
 have hww : wid g * (g.digs.toNat - 1) < wid g * g.digs.toNat := Nat.mul_lt_mul_of_pos_left (by omega) (b0g g).1
 show digP neg num den e (wid g) g.digs.toNat way (powK g K) < _
 unfold digP
 by_cases hl : h0p neg num den e (wid g) g.digs.toNat way (powK g K)
 · rw [if_pos hl]; exact Nat.pow_lt_pow_right (by omega) hww
 · rw [if_neg hl]
   unfold h0p at hl
   by_cases hu : upP neg num den e (wid g) way (powK g K) = true
   · exact (a0w _ _).1 (by have : ¬ wid g * g.digs.toNat < blen (dUp neg num den e (wid g) way (powK g K)) := fun h => hl ⟨hu, h⟩; omega)
   · have : upP neg num den e (wid g) way (powK g K) = false := by simpa using hu
     unfold dUp; rw [this]; simpa using hq
theorem j1d {a : Dv} {g : Gd} (hg : errG g = 0) (hB : Bare a) (hin : a0s a g = true) : -17000 ≤ a.e ∧ a.e ≤ 17480 := by
 have G := c0e hg
 obtain ⟨w1, w2, w3⟩ := l0y hg
 by_cases h0 : a.m = 0
 · rw [hB.zero h0]; simp
 · unfold a0s at hin
   rw [if_neg h0] at hin
   by_cases h1 : a.e < wid g * g.lo ∨ wid g * (g.hi + g.digs) < topD a
   · rw [if_pos h1] at hin; simp at hin
   · have ht : topD a = a.e + blen a.m := rfl
     rw [Int.mul_add] at h1
     omega
/-! ### roots -/
def k0r (m R : Nat) : Prop := R * R ≤ m ∧ m < (R + 1) * (R + 1)
theorem k0r.unique {m R S : Nat} (h : k0r m R) (k : k0r m S) : R = S := by
 rcases Nat.lt_trichotomy R S with c | c | c
 · have := Nat.mul_le_mul c c
   have h1 := h.2; have h2 := k.1
   simp only [Nat.succ_eq_add_one] at this
   omega
 · exact c
 · have := Nat.mul_le_mul c c
   have h1 := k.2; have h2 := h.1
   simp only [Nat.succ_eq_add_one] at this
   omega
theorem k0r.half {m R : Nat} (h : k0r (m * 4) R) : k0r m (R / 2) := by
 obtain ⟨h1, h2⟩ := h
 have h3 : R = 2 * (R / 2) + R % 2 := by omega
 have h4 : R % 2 < 2 := Nat.mod_lt _ (by omega)
 generalize R / 2 = u at *
 generalize R % 2 = v at *
 subst h3
 constructor
 · have : (2 * u) * (2 * u) ≤ (2 * u + v) * (2 * u + v) := Nat.mul_le_mul (by omega) (by omega)
   have e : (2 * u) * (2 * u) = 4 * (u * u) := by grind
   omega
 · have : (2 * u + v + 1) * (2 * u + v + 1) ≤ (2 * (u + 1)) * (2 * (u + 1)) := Nat.mul_le_mul (by omega) (by omega)
   have e : (2 * (u + 1)) * (2 * (u + 1)) = 4 * ((u + 1) * (u + 1)) := by grind
   omega
theorem k0r.mono {m m' R R' : Nat} (h : k0r m R) (k : k0r m' R') (hm : m ≤ m') : R ≤ R' := by
 rcases Nat.lt_or_ge R' R with c | c
 · have := Nat.mul_le_mul c c
   have h1 := h.1; have h2 := k.2
   simp only [Nat.succ_eq_add_one] at this
   omega
 · exact c
theorem y0t (m n : Nat) (h : blen m ≤ n) : (dig B32 m).length ≤ n / 32 + 1 := by
 rw [a0g a0b]
 have h1 := (a0w m n).1 h
 refine Nat.lt_of_lt_of_le h1 ?_
 rw [show B32 = 2 ^ 32 from rfl, ← Nat.pow_mul]
 exact Nat.pow_le_pow_right (by omega) (by omega)
def leD (a b : Dv) : Prop := rCmp a b ≤ 0
theorem e1n {a b : Dv} {e : Int} (h1 : e ≤ a.e) (h2 : e ≤ b.e) : leD a b ↔ zOf a e ≤ zOf b e := by
 unfold leD
 rw [i1y a b h1 h2, Int.sign_nonpos_iff]
 omega
theorem y0u (a : Dv) : leD a a := (e1n (Int.le_refl _) (Int.le_refl _)).2 (Int.le_refl _)
theorem j1e {z u e f : Int} (g : Int) (h1 : g ≤ e) (h2 : g ≤ f) : leD (norm z e) (norm u f) ↔ z * 2 ^ (e - g).toNat ≤ u * 2 ^ (f - g).toNat := by
 obtain ⟨k, hk, k1, k2⟩ : ∃ k : Int, k ≤ g ∧ k ≤ (norm z e).e ∧ k ≤ (norm u f).e := ⟨min g (min (norm z e).e (norm u f).e), by omega, by omega, by omega⟩
 rw [e1n k1 k2, y0r z (by omega), y0r u (by omega)]
 rw [show (e - k).toNat = (e - g).toNat + (g - k).toNat by omega, show (f - k).toNat = (f - g).toNat + (g - k).toNat by omega, Int.pow_add, Int.pow_add, ← Int.mul_assoc, ← Int.mul_assoc]
 have hp : (0 : Int) < 2 ^ (g - k).toNat := Int.pow_pos (by omega)
 exact ⟨fun h => Int.le_of_mul_le_mul_right h hp, fun h => Int.mul_le_mul_of_nonneg_right h (by omega)⟩
theorem u1g {g : Bool} {m n : Nat} : sg g m ≤ sg g n ↔ if g then n ≤ m else m ≤ n := by
 unfold sg; cases g <;> simp <;> omega
theorem n1d (g : Bool) (m t : Nat) : sg g m * 2 ^ t = sg g (m * 2 ^ t) := by
 rw [y0j]; simp
theorem o1x {m n : Nat} {x y : Int} (g : Bool) : leD (bare ⟨g, m, x⟩) (bare ⟨g, n, y⟩) ↔ if g then le2 n y m x else le2 m x n y := by
 rw [← j0t, ← j0t, j1e (min x y) (by omega) (by omega), n1d, n1d, u1g, d0p (min x y) (by omega) (by omega), d0p (min x y) (by omega) (by omega)]
theorem k0s (g : Bool) (x : Int) : bare ⟨g, 0, x⟩ = ⟨false, 0, 0⟩ := by unfold bare; simp
theorem e1o {neg : Bool} {num den : Nat} {e : Int} {g : Gd} {way K : Int} (hd : 0 < den) (G : f0c g) (hK : IsK num den e (wid g) g.digs.toNat K) :
 bare ⟨neg, (fitK neg num den e g way K).d, wid g * (fitK neg num den e g way K).pow⟩ = bare ⟨neg, dUp neg num den e (wid g) way (powK g K), wid g * powK g K⟩ ∧ dUp neg num den e (wid g) way (powK g K) ≤ 2 ^ (wid g * g.digs.toNat) := by
 have hD : 1 ≤ g.digs.toNat := by have := G.d1; omega
 have hq := q_lt hd hD (w0x hd hK (w0w g K))
 show bare ⟨neg, digP neg num den e (wid g) g.digs.toNat way (powK g K), wid g * (if digP neg num den e (wid g) g.digs.toNat way (powK g K) = 0 then 0 else powP neg num den e (wid g) g.digs.toNat way (powK g K))⟩ = _ ∧ _
 generalize powK g K = k at *
 generalize g.digs.toNat = D at *
 generalize wid g = w at *
 have hdu : dUp neg num den e w way k ≤ 2 ^ (w * D) := by unfold dUp; split <;> omega
 refine ⟨?_, hdu⟩
 unfold digP powP
 by_cases hl : h0p neg num den e w D way k
 · simp only [if_pos hl]
   have hp : 0 < 2 ^ (w * (D - 1)) := Nat.pow_pos (by omega)
   rw [if_neg (by omega)]
   have h1 : 2 ^ (w * D) ≤ dUp neg num den e w way k := by
    rcases Nat.lt_or_ge (dUp neg num den e w way k) (2 ^ (w * D)) with h | h
    · have := (a0w _ _).2 h; have := hl.2; omega
    · exact h
   have h2 : dUp neg num den e w way k = 2 ^ (w * (D - 1)) * 2 ^ w := by
    rw [← Nat.pow_add, ← show w * D = w * (D - 1) + w by
     obtain ⟨c, rfl⟩ : ∃ c, D = c + 1 := ⟨D - 1, by omega⟩
     simp only [Nat.add_sub_cancel]; grind]
    omega
   rw [h2, d0r]
   congr 2
   rw [Int.mul_add]; simp
 · simp only [if_neg hl]
   by_cases h0 : dUp neg num den e w way k = 0
   · rw [h0, k0s, k0s]
   · rw [if_neg h0]
def rv (neg : Bool) (num den : Nat) (e : Int) (g : Gd) (way : Int) : Dv := bare ⟨(a0m neg num den e g way).neg, (a0m neg num den e g way).d, wid g * (a0m neg num den e g way).pow⟩
theorem w0y (neg : Bool) (den : Nat) (e : Int) (g : Gd) (way : Int) : rv neg 0 den e g way = ⟨false, 0, 0⟩ := by
 unfold rv a0m
 rw [if_pos rfl]
 exact k0s _ _
theorem e1p {neg : Bool} {num den : Nat} {e : Int} {g : Gd} {way : Int} (hn : 0 < num) (hd : 0 < den) (G : f0c g) :
 rv neg num den e g way = bare ⟨neg, dUp neg num den e (wid g) way (powK g (theK num den e (wid g) g.digs.toNat)), wid g * powK g (theK num den e (wid g) g.digs.toNat)⟩ := by
 have hK := j0s hn hd e (w := wid g) (D := g.digs.toNat) (b0g g).1 (by have := G.d1; omega)
 unfold rv a0m
 rw [if_neg (by omega)]
 exact (e1o hd G hK).1
def okP (p : Pl) (g : Gd) : Bool := !p.over && (!p.under || g.grad)
theorem s1g {neg : Bool} {num den : Nat} {e : Int} {g : Gd} {way : Int} (hd : 0 < den) (G : f0c g) (hok : okP (a0m neg num den e g way) g = true) : a0s (rv neg num den e g way) g = true := by
 by_cases h0 : num = 0
 · subst h0; rw [w0y]; rfl
 · have hK := j0s (num := num) (by omega) hd e (w := wid g) (D := g.digs.toNat) (b0g g).1 (by have := G.d1; omega)
   have hD : 1 ≤ g.digs.toNat := by have := G.d1; omega
   unfold rv a0m at *
   rw [if_neg h0] at *
   generalize theK num den e (wid g) g.digs.toNat = K at *
   have hq := q_lt hd hD (w0x hd hK (w0w g K))
   have hover : powP neg num den e (wid g) g.digs.toNat way (powK g K) ≤ g.hi := by
    unfold okP at hok
    have : (fitK neg num den e g way K).over = decide (g.hi < powP neg num den e (wid g) g.digs.toNat way (powK g K)) := rfl
    rw [this] at hok
    simp only [Bool.and_eq_true, Bool.not_eq_true', decide_eq_false_iff_not] at hok
    omega
   have hunder : g.lo ≤ K ∨ g.grad = true := by
    unfold okP at hok
    have : (fitK neg num den e g way K).under = decide (K < g.lo) := rfl
    rw [this] at hok
    simp only [Bool.and_eq_true, Bool.or_eq_true, Bool.not_eq_true', decide_eq_false_iff_not] at hok
    rcases hok.2 with h | h
    · left; omega
    · right; exact h
   show a0s (bare ⟨neg, digP neg num den e (wid g) g.digs.toNat way (powK g K), wid g * (if digP neg num den e (wid g) g.digs.toNat way (powK g K) = 0 then 0 else powP neg num den e (wid g) g.digs.toNat way (powK g K))⟩) g = true
   by_cases hd0 : digP neg num den e (wid g) g.digs.toNat way (powK g K) = 0
   · rw [hd0, k0s]; rfl
   · rw [if_neg hd0, ← j0t]
     have hDD : g.digs = (g.digs.toNat : Int) := by have := G.d1; omega
     have habs : (sg neg (digP neg num den e (wid g) g.digs.toNat way (powK g K))).natAbs = digP neg num den e (wid g) g.digs.toNat way (powK g K) := by unfold sg; cases neg <;> simp
     have hlow : g.lo ≤ powK g K ∧ (2 ^ (wid g * (g.digs.toNat - 1)) ≤ qP num den (e - wid g * powK g K) ∨ (g.grad = true ∧ powK g K = g.lo)) := by
      by_cases hu : K < g.lo
      · have hg : g.grad = true := by rcases hunder with h | h; omega; exact h
        have : powK g K = g.lo := by unfold powK; rw [if_pos ⟨hu, hg⟩]
        exact ⟨by omega, .inr ⟨hg, this⟩⟩
      · have : powK g K = K := by unfold powK; rw [if_neg (fun h => hu h.1)]
        rw [this]
        exact ⟨by omega, .inl hK.yes⟩
     have hww : wid g * (g.digs.toNat - 1) < wid g * g.digs.toNat := Nat.mul_lt_mul_of_pos_left (by omega) (b0g g).1
     refine j0u G hDD ?_ ?_ ?_ hover
     · rw [habs]
       unfold digP
       by_cases hl : h0p neg num den e (wid g) g.digs.toNat way (powK g K)
       · rw [if_pos hl]; exact Nat.pow_lt_pow_right (by omega) hww
       · rw [if_neg hl]
         unfold h0p at hl
         by_cases hu : upP neg num den e (wid g) way (powK g K) = true
         · exact (a0w _ _).1 (by have : ¬ wid g * g.digs.toNat < blen (dUp neg num den e (wid g) way (powK g K)) := fun h => hl ⟨hu, h⟩; omega)
         · have : upP neg num den e (wid g) way (powK g K) = false := by simpa using hu
           unfold dUp; rw [this]; simpa using hq
     · rw [habs]
       unfold digP powP
       by_cases hl : h0p neg num den e (wid g) g.digs.toNat way (powK g K)
       · rw [if_pos hl, if_pos hl]; exact .inr (.inl (Nat.le_refl _))
       · rw [if_neg hl, if_neg hl]
         rcases hlow.2 with h | h
         · exact .inr (.inl (by unfold dUp; omega))
         · exact .inr (.inr h)
     · unfold powP; split <;> omega
theorem j1f {w D : Nat} (hD : 1 ≤ D) : w * D = w * (D - 1) + w := by
 obtain ⟨c, rfl⟩ : ∃ c, D = c + 1 := ⟨D - 1, by omega⟩
 simp only [Nat.add_sub_cancel]; grind
theorem s0e {s : Bool} {m : Nat} {e : Int} {g : Gd} {way : Int} (G : f0c g) (hin : a0s (bare ⟨s, m, e⟩) g = true) : rv s m 1 e g way = bare ⟨s, m, e⟩ ∧ okP (a0m s m 1 e g way) g = true := by
 by_cases h0 : m = 0
 · subst h0
   rw [w0y, k0s]
   refine ⟨rfl, ?_⟩
   unfold a0m okP
   rw [if_pos rfl]
   rfl
 · have hm : 0 < m := by omega
   have hD : 1 ≤ g.digs.toNat := by have := G.d1; omega
   obtain ⟨s1, s2⟩ := b0v m hm
   have hb : bare ⟨s, m, e⟩ = ⟨s, m / 2 ^ tz m, e + tz m⟩ := r0i hm
   generalize tz m = t at *
   generalize m / 2 ^ t = m' at *
   have hm' : 0 < m' := by omega
   have em : m = m' * 2 ^ t := by rw [← s1, Nat.mul_comm]
   have hbl : blen m = blen m' + t := by rw [em]; exact g0j hm' t
   have hK := o0d hm e (w := wid g) (D := g.digs.toNat) (b0g g).1 hD
   have hthe := e1g hm (show 0 < 1 by omega) (b0g g).1 hD hK
   have hup : upK (⟨s, m', e + t⟩ : Dv) (wid g) g.digs.toNat = (e + blen m - 1) / wid g - g.digs.toNat + 1 := by
    unfold upK topD
    simp only
    rw [hbl]
    congr 3
    push_cast
    omega
   rw [hb] at hin ⊢
   have hbare : Bare (⟨s, m', e + t⟩ : Dv) := .inl s2
   rw [← r0z hbare G] at hin
   unfold h0y at hin
   rw [if_neg (by simp only; omega), hup] at hin
   unfold rv a0m okP
   rw [if_neg h0, hthe]
   generalize (e + (blen m : Int) - 1) / (wid g : Int) - g.digs.toNat + 1 = K at *
   have hf1 : (fitK s m' 1 (e + t) g 3 K).exact = decide (rP m' 1 (e + t - wid g * powK g K) = 0) := rfl
   have hf2 : (fitK s m' 1 (e + t) g 3 K).over = decide (g.hi < powK g K) := by
    show decide (g.hi < powP s m' 1 (e + t) (wid g) g.digs.toNat 3 (powK g K)) = _
    rw [k0p]
   have hf3 : (fitK s m' 1 (e + t) g 3 K).under = decide (K < g.lo) := rfl
   simp only at hin
   rw [hf1, hf2, hf3] at hin
   simp only [Bool.and_eq_true, decide_eq_true_eq, Bool.not_eq_true', decide_eq_false_iff_not] at hin
   obtain ⟨⟨i1, i2⟩, i3⟩ := hin
   rw [o0e s2] at i1
   generalize hk : powK g K = k at *
   obtain ⟨n, hn⟩ : ∃ n : Nat, (n : Int) = e + t - wid g * k := ⟨(e + t - wid g * k).toNat, by omega⟩
   have c1 : le2 (m' * 2 ^ n) (wid g * k) m e := by
    have a := (o0f (a := m') (x := (wid g : Int) * k) n).1
    rw [show (wid g : Int) * k + n = e + t by omega] at a
    have b := (o0f (a := m') (x := e) t).2
    rw [← em] at b
    exact k0q a b
   have c2 : le2 m e (m' * 2 ^ n) (wid g * k) := by
    have a := (o0f (a := m') (x := (wid g : Int) * k) n).2
    rw [show (wid g : Int) * k + n = e + t by omega] at a
    have b := (o0f (a := m') (x := e) t).1
    rw [← em] at b
    exact k0q b a
   have hq : qP m 1 (e - wid g * k) = m' * 2 ^ n := by
    have q1 := (q0e (show 0 < 1 by omega) e ((wid g : Int) * k) (m' * 2 ^ n) (num := m)).2 (by rw [Nat.mul_one]; exact c1)
    have q2 := (q0e (show 0 < 1 by omega) e ((wid g : Int) * k) (qP m 1 (e - wid g * k)) (num := m)).1 (Nat.le_refl _)
    rw [Nat.mul_one] at q2
    have q3 := s0a.1 (k0q q2 c2)
    omega
   have hr : rP m 1 (e - wid g * k) = 0 := (s1f (show 0 < 1 by omega) e ((wid g : Int) * k)).2 (by rw [hq, Nat.mul_one]; exact c2)
   have hu : upP s m 1 e (wid g) way k = false := by unfold upP; rw [hr]; simp
   have hnl : ¬ h0p s m 1 e (wid g) g.digs.toNat way k := fun h => by have := h.1; rw [hu] at this; simp at this
   have hdp : digP s m 1 e (wid g) g.digs.toNat way k = m' * 2 ^ n := by unfold digP dUp; rw [if_neg hnl, hu, hq]; simp
   have hpp : powP s m 1 e (wid g) g.digs.toNat way k = k := by unfold powP; rw [if_neg hnl]
   have hpos : 0 < m' * 2 ^ n := Nat.mul_pos hm' (Nat.pow_pos (by omega))
   constructor
   · show bare ⟨s, digP s m 1 e (wid g) g.digs.toNat way (powK g K), wid g * (if digP s m 1 e (wid g) g.digs.toNat way (powK g K) = 0 then 0 else powP s m 1 e (wid g) g.digs.toNat way (powK g K))⟩ = _
     rw [hk, hdp, hpp, if_neg (by omega), d0r, show (wid g : Int) * k + n = e + t by omega, n0k hbare]
   · show (!decide (g.hi < powP s m 1 e (wid g) g.digs.toNat way (powK g K)) && (!decide (K < g.lo) || g.grad)) = true
     rw [hk, hpp, decide_eq_false i2]
     simpa using i3
theorem up5 (neg : Bool) (num den : Nat) (e : Int) (w : Nat) (k : Int) : upP neg num den e w 5 k = (decide (rP num den (e - w * k) ≠ 0) && neg) := by unfold upP h0o; simp
theorem up4 (neg : Bool) (num den : Nat) (e : Int) (w : Nat) (k : Int) : upP neg num den e w 4 k = (decide (rP num den (e - w * k) ≠ 0) && !neg) := by unfold upP h0o; simp
theorem j1g {g : Bool} {m n : Nat} {x : Int} (h : (bare ⟨g, m, x⟩ : Dv) = bare ⟨g, n, x⟩) : m = n := by
 have h1 : leD (bare ⟨g, m, x⟩) (bare ⟨g, n, x⟩) := by rw [h]; exact y0u _
 have h2 : leD (bare ⟨g, n, x⟩) (bare ⟨g, m, x⟩) := by rw [h]; exact y0u _
 rw [o1x] at h1 h2
 cases g
 · simp only [Bool.false_eq_true, if_false, s0a] at h1 h2; omega
 · simp only [if_true, s0a] at h1 h2; omega
theorem u0b {neg : Bool} {num den : Nat} {e : Int} {g : Gd} (hd : 0 < den) (G : f0c g) (h : rv neg num den e g 5 = rv neg num den e g 4) (way : Int) : (a0m neg num den e g way).exact = true := by
 unfold a0m
 by_cases h0 : num = 0
 · rw [if_pos h0]
 · rw [if_neg h0]
   rw [e1p (by omega) hd G, e1p (by omega) hd G] at h
   generalize theK num den e (wid g) g.digs.toNat = K at *
   have h1 := j1g h
   unfold dUp at h1
   rw [up5, up4] at h1
   show decide (rP num den (e - wid g * powK g K) = 0) = true
   by_cases hr : rP num den (e - wid g * powK g K) = 0
   · exact dTr hr
   · exfalso
     rw [decide_eq_true hr] at h1
     cases neg <;> simp at h1
theorem b1a {neg : Bool} {num den : Nat} {e : Int} {g : Gd} (hd : 0 < den) (G : f0c g) {z : Nat} {k : Int} (hz0 : 0 < z) (hz : z < 2 ^ (wid g * g.digs.toNat))
 (hfull : g.lo < k ∨ g.grad = false → 2 ^ (wid g * (g.digs.toNat - 1)) ≤ z) (hlo : g.lo ≤ k) (hhi : k ≤ g.hi) {t : Nat} (ht1 : 0 ≤ e + t) (ht2 : 0 ≤ wid g * k + t) (ht3 : 0 ≤ wid g * (k - 1) + t)
 (h1 : 2 * 2 ^ (wid g * g.digs.toNat) * (num * 2 ^ (e + t).toNat) < (2 * 2 ^ (wid g * g.digs.toNat) + 1) * (z * (den * 2 ^ (wid g * k + t).toNat)))
 (h2 : 2 * 2 ^ (wid g * g.digs.toNat) * (z * (den * 2 ^ (wid g * k + t).toNat)) < 2 * 2 ^ (wid g * g.digs.toNat) * (num * 2 ^ (e + t).toNat) + z * (den * 2 ^ (wid g * k + t).toNat)) :
 (a0m neg num den e g 1).neg = neg ∧ (a0m neg num den e g 1).d = z ∧ (a0m neg num den e g 1).pow = k ∧ (a0m neg num den e g 1).over = false := by
 have wp := b0g g
 have hd1 := G.d1
 have hD1 : 1 ≤ g.digs.toNat := by omega
 generalize hw : wid g = w at *
 generalize hD : g.digs.toNat = D at *
 obtain ⟨M, hM⟩ : ∃ M, M = 2 ^ (w * D) := ⟨_, rfl⟩
 obtain ⟨H, hH⟩ : ∃ H, H = 2 ^ (w * (D - 1)) := ⟨_, rfl⟩
 have hMH : M = H * 2 ^ w := by rw [hM, hH, ← Nat.pow_add, j1f (by omega)]
 have hH0 : 0 < H := by rw [hH]; exact Nat.pow_pos (by omega)
 have hw2 : 2 ≤ 2 ^ w := Nat.le_trans (by decide : 2 ≤ 2 ^ 1) (Nat.pow_le_pow_right (by omega) wp.1)
 have hM2 : 2 * H ≤ M := by rw [hMH, Nat.mul_comm 2 H]; exact Nat.mul_le_mul_left H hw2
 obtain ⟨A, hA⟩ : ∃ A, A = num * 2 ^ (e + t).toNat := ⟨_, rfl⟩
 obtain ⟨B, hB⟩ : ∃ B, B = den * 2 ^ (w * k + t).toNat := ⟨_, rfl⟩
 rw [← hM, ← hA, ← hB] at h1 h2
 rw [← hM] at hz
 rw [← hH] at hfull
 have hB0 : 0 < B := by rw [hB]; exact Nat.mul_pos hd (Nat.pow_pos (by omega))
 have hzB : z * B < M * B := Nat.mul_lt_mul_of_pos_right hz hB0
 -- twice what came lies between 2 z - 1 and 2 z + 1
 have up : 2 * A < 2 * (z * B) + B := by
  have e1 : 2 * M * A = M * (2 * A) := by grind
  have e2 : (2 * M + 1) * (z * B) = M * (2 * (z * B)) + z * B := by grind
  have e3 : M * (2 * (z * B) + B) = M * (2 * (z * B)) + M * B := by grind
  refine Nat.lt_of_mul_lt_mul_left (a := M) ?_
  omega
 have dn : 2 * (z * B) < 2 * A + B := by
  have e1 : 2 * M * (z * B) = M * (2 * (z * B)) := by grind
  have e2 : 2 * M * A = M * (2 * A) := by grind
  have e3 : M * (2 * A + B) = M * (2 * A) + M * B := by grind
  refine Nat.lt_of_mul_lt_mul_left (a := M) ?_
  omega
 have hn : 0 < num := by
  rcases Nat.eq_zero_or_pos num with h | h
  · rw [h, Nat.zero_mul] at hA
    have : B ≤ z * B := Nat.le_mul_of_pos_left _ hz0
    omega
  · exact h
 -- whole part and half, at power k
 have cell : ∀ (j : Int) (c : Nat), 0 ≤ w * j + t → 2 ^ (w * k + t).toNat = 2 ^ (w * j + t).toNat * c → 0 < c → ∀ m : Nat, m ≤ qP num den (e - w * j) ↔ m * B ≤ A * c := by
  intro j c hj hc hc0 m
  rw [q0e hd, d0p (-(t : Int)) (by omega) (by omega), show (w : Int) * j - -(t : Int) = w * j + t by omega, show e - -(t : Int) = e + t by omega, ← hA, hB, hc]
  rw [show m * (den * (2 ^ (w * j + t).toNat * c)) = m * den * 2 ^ (w * j + t).toNat * c by grind]
  exact ⟨fun h => Nat.mul_le_mul_right _ h, fun h => Nat.le_of_mul_le_mul_right h hc0⟩
 have half : ∀ (j : Int) (c : Nat), 0 ≤ w * j + t → 2 ^ (w * k + t).toNat = 2 ^ (w * j + t).toNat * c → 0 < c → (2 * rP num den (e - w * j) ≤ denP den (e - w * j) ↔ 2 * (A * c) ≤ (2 * qP num den (e - w * j) + 1) * B) ∧ (denP den (e - w * j) ≤ 2 * rP num den (e - w * j) ↔ (2 * qP num den (e - w * j) + 1) * B ≤ 2 * (A * c)) := by
  intro j c hj hc hc0
  obtain ⟨f1, f2⟩ := j1b (num := num) hd e (w * j)
  generalize qP num den (e - w * j) = Q at *
  rw [f1, f2, d0p (-(t : Int) - 1) (by omega) (by omega), d0p (-(t : Int) - 1) (by omega) (by omega)]
  rw [show (w : Int) * j - 1 - (-(t : Int) - 1) = w * j + t by omega, show (e - (-(t : Int) - 1)).toNat = (e + t).toNat + 1 by omega, Nat.pow_succ, hB, hc]
  rw [show num * (2 ^ (e + t).toNat * 2) = 2 * (num * 2 ^ (e + t).toNat) by grind, ← hA]
  rw [show (2 * Q + 1) * (den * (2 ^ (w * j + t).toNat * c)) = (2 * Q + 1) * den * 2 ^ (w * j + t).toNat * c by grind, show 2 * (A * c) = 2 * A * c by grind]
  exact ⟨⟨fun h => Nat.mul_le_mul_right _ h, fun h => Nat.le_of_mul_le_mul_right h hc0⟩, ⟨fun h => Nat.mul_le_mul_right _ h, fun h => Nat.le_of_mul_le_mul_right h hc0⟩⟩
 have full : ∀ (j : Int) (c : Nat), 0 ≤ w * j + t → 2 ^ (w * k + t).toNat = 2 ^ (w * j + t).toNat * c → 0 < c → (e0d num den e w D j ↔ H * B ≤ A * c) := by
  intro j c hj hc hc0
  rw [hH]; exact cell j c hj hc hc0 _
 have c1 := cell k 1 ht2 (by rw [Nat.mul_one]) (by omega)
 have c2 := half k 1 ht2 (by rw [Nat.mul_one]) (by omega)
 have c3 := full k 1 ht2 (by rw [Nat.mul_one]) (by omega)
 rw [Nat.mul_one] at c2 c3
 simp only [Nat.mul_one] at c1
 -- one power more: never full
 have c4 : ¬ e0d num den e w D (k + 1) := by
  intro h
  unfold e0d at h
  rw [q0e hd, d0p (-(t : Int)) (by rw [Int.mul_add]; omega) (by omega), show e - -(t : Int) = e + t by omega, ← hA, show ((w : Int) * (k + 1) - -(t : Int)).toNat = w + (w * k + t).toNat by rw [Int.mul_add]; omega, Nat.pow_add, ← hH] at h
  rw [show H * den * (2 ^ w * 2 ^ (w * k + t).toNat) = H * 2 ^ w * (den * 2 ^ (w * k + t).toNat) by grind, ← hB, ← hMH] at h
  have : (z + 1) * B ≤ M * B := Nat.mul_le_mul_right B hz
  rw [Nat.add_mul, Nat.one_mul] at this
  omega
 have bz : blen z ≤ w * D := (a0w z _).2 (by rw [← hM]; exact hz)
 have bM : w * D < blen M := by
  rcases Nat.lt_or_ge (w * D) (blen M) with h | h
  · exact h
  · have := (a0w M _).1 h; omega
 have hK := j0s hn hd e (w := w) (D := D) (by omega) (by omega)
 obtain ⟨K, hKe⟩ : ∃ K, theK num den e w D = K := ⟨_, rfl⟩
 rw [hKe] at hK
 have hRP : a0m neg num den e g 1 = fitK neg num den e g 1 K := by
  unfold a0m
  rw [if_neg (by omega), hw, hD, hKe]
 -- what comes where the power is k and the digits come to z
 have done : powK g K = k → dUp neg num den e w 1 k = z → (a0m neg num den e g 1).neg = neg ∧ (a0m neg num den e g 1).d = z ∧ (a0m neg num den e g 1).pow = k ∧ (a0m neg num den e g 1).over = false := by
  intro h3 h4
  have hl : ¬ h0p neg num den e w D 1 k := fun h => by
   have := h.2
   rw [h4] at this
   omega
  have hg : digP neg num den e w D 1 k = z := by unfold digP; rw [if_neg hl, h4]
  have hp : powP neg num den e w D 1 k = k := by unfold powP; rw [if_neg hl]
  rw [hRP, w0u hw hD h3 hg hp rfl]
  exact ⟨rfl, rfl, by show (if z = 0 then 0 else k) = k; rw [if_neg (by omega)], decide_eq_false (by omega)⟩
 have rr : ∀ j, upP neg num den e w 1 j = (decide (rP num den (e - w * j) ≠ 0) && (decide (0 < cmpN (rP num den (e - w * j) * 2) (denP den (e - w * j))) || (decide (cmpN (rP num den (e - w * j) * 2) (denP den (e - w * j)) = 0) && decide (qP num den (e - w * j) % 2 = 1)))) := fun j => by
  unfold upP h0o
  rw [if_pos rfl]
 have no_up : ∀ j, ¬ denP den (e - w * j) ≤ 2 * rP num den (e - w * j) → upP neg num den e w 1 j = false := fun j h => by
  have := @s0b (rP num den (e - w * j)) (denP den (e - w * j))
  rw [rr, decide_eq_false (p := 0 < _) (fun k => (this.1.1 k) (by omega)), decide_eq_false (p := _ = (0 : Int)) (fun k => h (this.2.2.1 k).2)]
  simp
 have yes_up : ∀ j, ¬ 2 * rP num den (e - w * j) ≤ denP den (e - w * j) → upP neg num den e w 1 j = true := fun j h => by
  have := @s0b (rP num den (e - w * j)) (denP den (e - w * j))
  rw [rr, decide_eq_true (p := 0 < _) (this.1.2 h), decide_eq_true (p := _ ≠ 0) (by omega)]
  rfl
 have pk : (H ≤ z ∧ H * B ≤ A) ∨ (A < H * B ∧ k = g.lo ∧ g.grad = true) → powK g K = k := by
  intro h
  unfold powK
  rcases h with ⟨_, h⟩ | ⟨h, h5, h6⟩
  · have : K = k := (hK.unique hd ⟨c3.2 h, c4⟩)
    subst this
    split
    · omega
    · rfl
  · have h7 : ¬ k ≤ K := fun h8 => by have := c3.1 ((hK.iff hd).2 h8); omega
    rw [if_pos ⟨by omega, h6⟩, h5]
 by_cases hAz : z * B ≤ A
 · -- at or above
   have q1 : qP num den (e - w * k) = z := by
    have a1 := (c1 z).2 hAz
    have a2 : ¬ z + 1 ≤ qP num den (e - w * k) := fun h => by have := (c1 _).1 h; rw [Nat.add_mul, Nat.one_mul] at this; omega
    omega
   refine done (pk ?_) ?_
   · by_cases h : H ≤ z
     · exact .inl ⟨h, Nat.le_trans (Nat.mul_le_mul_right B h) hAz⟩
     · refine .inr ⟨?_, ?_⟩
       · have : (z + 1) * B ≤ H * B := Nat.mul_le_mul_right B (by omega)
         rw [Nat.add_mul, Nat.one_mul] at this
         omega
       · have h6 : ¬ (g.lo < k ∨ g.grad = false) := fun h7 => h (hfull h7)
         exact ⟨by omega, by cases hg : g.grad with | true => rfl | false => exact absurd (.inr hg) h6⟩
   · unfold dUp
     rw [no_up k, q1]
     · simp
     · rw [c2.2, q1, Nat.add_mul, Nat.mul_assoc, Nat.one_mul]; omega
 · -- below
   obtain ⟨y, rfl⟩ : ∃ y, z = y + 1 := ⟨z - 1, by omega⟩
   rw [Nat.add_mul, Nat.one_mul] at dn hAz
   have q1 : qP num den (e - w * k) = y := by
    have a1 := (c1 y).2 (by omega)
    have a2 : ¬ y + 1 ≤ qP num den (e - w * k) := fun h => by have := (c1 _).1 h; rw [Nat.add_mul, Nat.one_mul] at this; omega
    omega
   have hup : upP neg num den e w 1 k = true := yes_up k (by rw [c2.1, q1, Nat.add_mul, Nat.mul_assoc, Nat.one_mul]; omega)
   have hdU : dUp neg num den e w 1 k = y + 1 := by unfold dUp; rw [hup, q1, if_pos rfl]
   by_cases h : H ≤ y
   · exact done (pk (.inl ⟨by omega, Nat.le_trans (Nat.mul_le_mul_right B h) (by omega)⟩)) hdU
   · have hAH : A < H * B := by
      have : (y + 1) * B ≤ H * B := Nat.mul_le_mul_right B (by omega)
      rw [Nat.add_mul, Nat.one_mul] at this
      omega
     by_cases h5 : k = g.lo ∧ g.grad = true
     · exact done (pk (.inr ⟨hAH, h5.1, h5.2⟩)) hdU
     · -- the least of its power: rounded up to it out of the power below
       have hyH : y + 1 = H := by
        have h6 : g.lo < k ∨ g.grad = false := by
         cases hg : g.grad with
         | true => exact .inl (by rcases Int.lt_or_le g.lo k with h7 | h7; exact h7; exact absurd ⟨by omega, hg⟩ h5)
         | false => exact .inr rfl
        have := hfull h6
        omega
       have ew : (w * k + t : Int).toNat = (w * (k - 1) + t : Int).toNat + w := by
        have : (w : Int) * k = w * (k - 1) + w := by rw [Int.mul_sub]; omega
        omega
       have eB : 2 ^ (w * k + t : Int).toNat = 2 ^ (w * (k - 1) + t : Int).toNat * 2 ^ w := by rw [ew, Nat.pow_add]
       have p0 : 0 < 2 ^ w := Nat.pow_pos (by omega)
       have d1 := cell (k - 1) (2 ^ w) ht3 eB p0
       have d2 := half (k - 1) (2 ^ w) ht3 eB p0
       have d3 := full (k - 1) (2 ^ w) ht3 eB p0
       obtain ⟨C, hC⟩ : ∃ C, C = A * 2 ^ w := ⟨_, rfl⟩
       rw [← hC] at d2 d3
       rw [hyH] at h2
       have lowB : 2 * (M * B) < 2 * C + B := by
        have k1 := Nat.mul_lt_mul_of_pos_right h2 p0
        have e1 : 2 * M * (H * B) * 2 ^ w = M * (2 * (H * 2 ^ w * B)) := by grind
        have e2 : (2 * M * A + H * B) * 2 ^ w = M * (2 * (A * 2 ^ w)) + H * 2 ^ w * B := by grind
        rw [e1, e2, ← hMH, ← hC] at k1
        have e3 : M * (2 * C + B) = M * (2 * C) + M * B := by grind
        refine Nat.lt_of_mul_lt_mul_left (a := M) ?_
        omega
       have highB : C < M * B := by
        rw [hC, hMH, show H * 2 ^ w * B = H * B * 2 ^ w by grind]
        exact Nat.mul_lt_mul_of_pos_right hAH p0
       obtain ⟨x, hx⟩ : ∃ x, M = x + 1 := ⟨M - 1, by omega⟩
       have hxB : M * B = x * B + B := by rw [hx, Nat.add_mul, Nat.one_mul]
       have q2 : qP num den (e - w * (k - 1)) = x := by
        have a1 := (d1 x).2 (by rw [← hC]; omega)
        have a2 : ¬ x + 1 ≤ qP num den (e - w * (k - 1)) := fun h => by have := (d1 _).1 h; rw [← hC, ← hx] at this; omega
        omega
       have hup2 : upP neg num den e w 1 (k - 1) = true := yes_up (k - 1) (by rw [d2.1, q2, Nat.add_mul, Nat.mul_assoc, Nat.one_mul]; omega)
       have hdU2 : dUp neg num den e w 1 (k - 1) = M := by unfold dUp; rw [hup2, q2, if_pos rfl, hx]
       have hK1 : K = k - 1 := hK.unique hd ⟨d3.2 (by
         have : H * B ≤ x * B := Nat.mul_le_mul_right B (by omega)
         omega), by rw [show k - 1 + 1 = k by omega, c3]; omega⟩
       have hpk : powK g K = k - 1 := by
        unfold powK
        rw [if_neg (fun h => h5 ⟨by omega, h.2⟩), hK1]
       have hl : h0p neg num den e w D 1 (k - 1) := ⟨hup2, by rw [hdU2]; exact bM⟩
       have hg : digP neg num den e w D 1 (k - 1) = y + 1 := by unfold digP; rw [if_pos hl, ← hH, hyH]
       have hp : powP neg num den e w D 1 (k - 1) = k := by unfold powP; rw [if_pos hl]; omega
       rw [hRP, w0u hw hD hpk hg hp rfl]
       exact ⟨rfl, rfl, by show (if y + 1 = 0 then 0 else k) = k; rw [if_neg (by omega)], decide_eq_false (by omega)⟩
def be (l : List Nat) : Nat := l.foldl (fun a c => a * 256 + c) 0
def vb (l : List Bool) : Nat := l.foldl (fun a b => 2 * a + b.toNat) 0
def k0t (c : Nat) : List Bool := [c / 128 % 2 == 1, c / 64 % 2 == 1, c / 32 % 2 == 1, c / 16 % 2 == 1, c / 8 % 2 == 1, c / 4 % 2 == 1, c / 2 % 2 == 1, c / 1 % 2 == 1]
def e1q : List Nat → List Bool
 | [] => []
 | c :: r => k0t c ++ e1q r
theorem e1r (l : List Bool) : ∀ a : Nat, l.foldl (fun a b => 2 * a + b.toNat) a = a * 2 ^ l.length + vb l := by
 induction l with
 | nil => intro a; simp [vb]
 | cons x r ih =>
  intro a
  unfold vb
  simp only [List.foldl_cons, List.length_cons]
  rw [ih, ih (2 * 0 + x.toNat), Nat.pow_succ, Nat.mul_zero, Nat.zero_add, Nat.add_mul]
  have h1 : 2 * a * 2 ^ r.length = a * (2 ^ r.length * 2) := by rw [Nat.mul_comm 2 a, Nat.mul_assoc, Nat.mul_comm 2]
  omega
theorem s1h : vb [] = 0 := rfl
theorem o0h (x : Bool) (r : List Bool) : vb (x :: r) = x.toNat * 2 ^ r.length + vb r := by
 show List.foldl _ _ r = _
 rw [e1r]
 simp
theorem h0z (x y : List Bool) : vb (x ++ y) = vb x * 2 ^ y.length + vb y := by
 show List.foldl _ _ (x ++ y) = _
 rw [List.foldl_append, e1r]
 rfl
theorem o1y (x : List Bool) (b : Bool) : vb (x ++ [b]) = 2 * vb x + b.toNat := by
 rw [h0z, o0h, s1h]
 simp
 omega
theorem w0z : ∀ l : List Bool, vb l < 2 ^ l.length
 | [] => by simp [vb]
 | x :: r => by
  have h := w0z r
  rw [o0h, List.length_cons, Nat.pow_succ]
  have h2 : x.toNat ≤ 1 := by cases x <;> decide
  have h3 : x.toNat * 2 ^ r.length ≤ 1 * 2 ^ r.length := Nat.mul_le_mul_right _ h2
  omega
theorem o1z : ∀ c, c < 256 → vb (k0t c) = c := by decide +kernel
theorem u0c (c : Nat) : (k0t c).length = 8 := rfl
theorem o0i : ∀ l : List Nat, (e1q l).length = 8 * l.length
 | [] => rfl
 | c :: r => by
  show (k0t c ++ e1q r).length = _
  rw [List.length_append, u0c, o0i r, List.length_cons]
  omega
theorem p1a (l : List Nat) : ∀ a : Nat, l.foldl (fun a c => a * 256 + c) a = a * 256 ^ l.length + be l := by
 induction l with
 | nil => intro a; simp [be]
 | cons x r ih =>
  intro a
  unfold be
  simp only [List.foldl_cons, List.length_cons]
  rw [ih, ih (0 * 256 + x), Nat.pow_succ, Nat.zero_mul, Nat.zero_add, Nat.add_mul, Nat.mul_assoc, Nat.mul_comm 256]
  omega
theorem p1b (x : Nat) (r : List Nat) : be (x :: r) = x * 256 ^ r.length + be r := by
 show List.foldl _ _ r = _
 rw [p1a]
 simp
theorem e1s (l : List Nat) (c : Nat) : be (l ++ [c]) = be l * 256 + c := by
 show List.foldl _ _ (l ++ [c]) = _
 rw [List.foldl_append]
 rfl
theorem e1t : ∀ l : List Nat, (∀ c ∈ l, c < 256) → vb (e1q l) = be l
 | [], _ => rfl
 | c :: r, h => by
  show vb (k0t c ++ e1q r) = _
  rw [h0z, o1z c (h c (List.mem_cons_self ..)), e1t r (fun d hd => h d (List.mem_cons_of_mem _ hd)), p1b, o0i, Nat.pow_mul]
theorem s1i (l : List Nat) (h : ∀ c ∈ l, c < 256) : be l < 2 ^ (8 * l.length) := by
 rw [← e1t l h, ← o0i]
 exact w0z _
theorem p1c (b : List Bool) (k : Nat) : vb (b.take k) = vb b / 2 ^ (b.length - k) := by
 have h := h0z (b.take k) (b.drop k)
 rw [List.take_append_drop, List.length_drop] at h
 have h2 := w0z (b.drop k)
 rw [List.length_drop] at h2
 rw [h, Nat.mul_comm, Nat.mul_add_div (Nat.pow_pos (by omega)), Nat.div_eq_of_lt h2]
 omega
theorem p1d (b : List Bool) (k : Nat) : vb (b.drop k) = vb b % 2 ^ (b.length - k) := by
 have h := h0z (b.take k) (b.drop k)
 rw [List.take_append_drop, List.length_drop] at h
 have h2 := w0z (b.drop k)
 rw [List.length_drop] at h2
 rw [h, Nat.mul_comm, Nat.mul_add_mod, Nat.mod_eq_of_lt h2]
theorem s1j (x : Bool) (r : List Bool) : (vb (x :: r) / 2 ^ r.length == 1) = x := by
 have h := w0z r
 rw [o0h, Nat.mul_comm, Nat.mul_add_div (Nat.pow_pos (by omega)), Nat.div_eq_of_lt h]
 cases x <;> simp
theorem p1e (x : Bool) (r : List Bool) : vb (x :: r) % 2 ^ r.length = vb r := by
 have h := w0z r
 rw [o0h, Nat.mul_comm, Nat.mul_add_mod, Nat.mod_eq_of_lt h]
theorem x0a {m z w : Nat} (h : 2 ^ z ∣ m) : m / 2 ^ z * 2 ^ (z % w) = m / 2 ^ (z / w * w) := by
 obtain ⟨q, rfl⟩ := h
 have e : 2 ^ z = 2 ^ (z / w * w) * 2 ^ (z % w) := by
  rw [← Nat.pow_add]
  congr 1
  have := Nat.div_add_mod z w
  rw [Nat.mul_comm] at this
  omega
 rw [Nat.mul_div_cancel_left _ (Nat.pow_pos (by omega))]
 rw [e, Nat.mul_assoc, Nat.mul_div_cancel_left _ (Nat.pow_pos (by omega)), Nat.mul_comm]
theorem b1b (p : Int) (z w : Nat) (hw : w = 1 ∨ w = 4) (h1 : -19999 ≤ p) (h2 : p ≤ 19999) : ((w : Int) * p + z + 80000).tdiv w - (80000 : Int).tdiv w = p + ((z / w : Nat) : Int) := by
 rcases hw with rfl | rfl
 · rw [Int.tdiv_eq_ediv_of_nonneg (by omega), Int.tdiv_eq_ediv_of_nonneg (by omega)]
   omega
 · rw [Int.tdiv_eq_ediv_of_nonneg (by omega), Int.tdiv_eq_ediv_of_nonneg (by omega)]
   omega
structure Fm where
 size : Nat
 E : Nat
 F : Nat
 g : Gd
 fam : Nat
 ext : Bool
def fmt (n : Int) : Fm :=
 if n = 1 then ⟨4, 8, 23, ⟨2, 24, -149, 104, true⟩, 1, false⟩
 else if n = 2 then ⟨8, 11, 52, ⟨2, 53, -1074, 971, true⟩, 1, false⟩
 else if n = 3 then ⟨10, 15, 64, ⟨2, 64, -16445, 16320, true⟩, 1, true⟩
 else if n = 4 then ⟨4, 7, 24, ⟨16, 6, -70, 57, false⟩, 2, false⟩
 else if n = 5 then ⟨8, 7, 56, ⟨16, 14, -78, 49, false⟩, 2, false⟩
 else if n = 6 then ⟨4, 8, 23, ⟨2, 24, -151, 103, false⟩, 3, false⟩
 else if n = 7 then ⟨8, 8, 55, ⟨2, 56, -183, 71, false⟩, 3, false⟩
 else if n = 8 then ⟨8, 11, 52, ⟨2, 53, -1076, 970, false⟩, 3, false⟩
 else ⟨0, 0, 0, ⟨0, 0, 0, 0, false⟩, 0, false⟩
def IsFm (n : Int) : Prop := 1 ≤ n ∧ n ≤ 8
instance (n : Int) : Decidable (IsFm n) := by unfold IsFm; exact inferInstance
def Fm.hid (f : Fm) : Bool := !(f.fam == 2) && !f.ext
def Fm.inf (f : Fm) : Bool := f.fam == 1
def Fm.res (f : Fm) : Bool := f.fam == 3
def Fm.ord (f : Fm) : Nat := if f.ext then 2 else if f.fam = 3 then 1 else 0
structure c0g (f : Fm) : Prop where
 bits : 1 + f.E + f.F = 8 * f.size
 sz : f.size = 4 ∨ f.size = 8 ∨ f.size = 10
 e1 : 7 ≤ f.E
 e2 : f.E ≤ 15
 f1 : 23 ≤ f.F
 f2 : f.F ≤ 64
 g : errG f.g = 0
 fam : f.fam = 1 ∨ f.fam = 2 ∨ f.fam = 3
 ext : f.ext = true → f.fam = 1 ∧ f.F = 64 ∧ f.g.digs = 64
 w : wid f.g = if f.fam = 2 then 4 else 1
 rad : f.g.rad = if f.fam = 2 then 16 else 2
 grad : f.g.grad = decide (f.fam = 1)
 lo : -16445 ≤ f.g.lo ∧ f.g.lo ≤ -70
 hi : f.g.hi ≤ 16320
 hi1 : f.fam = 1 → f.g.hi = f.g.lo + (2 ^ f.E : Nat) - 3
 hi2 : f.fam = 2 → f.g.hi = f.g.lo + (2 ^ f.E : Nat) - 1
 hi3 : f.fam = 3 → f.g.hi = f.g.lo + (2 ^ f.E : Nat) - 2
 d2 : f.fam = 2 → 4 * f.g.digs = f.F
 d1 : f.fam ≠ 2 → f.ext = false → f.g.digs = f.F + 1
theorem s0f {n : Int} (h : IsFm n) : n = 1 ∨ n = 2 ∨ n = 3 ∨ n = 4 ∨ n = 5 ∨ n = 6 ∨ n = 7 ∨ n = 8 := by unfold IsFm at h; omega
theorem b0r {n : Int} (h : IsFm n) : c0g (fmt n) := by
 rcases s0f h with rfl | rfl | rfl | rfl | rfl | rfl | rfl | rfl <;> exact ⟨by decide, by decide, by decide, by decide, by decide, by decide, by decide, by decide, by decide, by decide, by decide, by decide, by decide, by decide, by decide, by decide, by decide, by decide, by decide⟩
def plc (o n i : Nat) : Nat := if o = 2 then n - 1 - i else if o = 1 then i + 1 - 2 * (i % 2) else i
def ordL (o : Nat) (xs : List Nat) : List Nat := (List.range xs.length).map fun i => dg xs (plc o xs.length i)
theorem c0i (o : Nat) (xs : List Nat) : (ordL o xs).length = xs.length := by simp [ordL]
theorem o0j {o : Nat} {xs : List Nat} {i : Nat} (h : i < xs.length) : dg (ordL o xs) i = dg xs (plc o xs.length i) := by
 unfold ordL
 rw [dg, List.getElem?_map, List.getElem?_range h]
 rfl
theorem q0g {xs ys : List Nat} (hl : xs.length = ys.length) (h : ∀ i, i < xs.length → dg xs i = dg ys i) : xs = ys := by
 apply List.ext_getElem hl
 intro i h1 h2
 have := h i h1
 unfold dg at this
 rw [List.getElem?_eq_getElem h1, List.getElem?_eq_getElem h2] at this
 simpa using this
theorem n1e {o n i : Nat} (ho : o = 1 → n % 2 = 0) (h : i < n) : plc o n i < n := by
 unfold plc
 split
 · omega
 · split
   · rename_i k
     have := ho k
     omega
   · exact h
theorem p1f {o n i : Nat} (h : i < n) : plc o n (plc o n i) = i := by
 unfold plc
 split
 · omega
 · split
   · omega
   · rfl
theorem q0h {o : Nat} {xs : List Nat} (ho : o = 1 → xs.length % 2 = 0) (h : ∀ x ∈ xs, x < 256) : ∀ x ∈ ordL o xs, x < 256 := by
 intro x hx
 unfold ordL at hx
 rw [List.mem_map] at hx
 obtain ⟨i, hi, rfl⟩ := hx
 rw [List.mem_range] at hi
 have k := n1e ho hi
 unfold dg
 rw [List.getElem?_eq_getElem k]
 exact h _ (List.getElem_mem k)
theorem e1u {o : Nat} {xs : List Nat} (ho : o = 1 → xs.length % 2 = 0) : ordL o (ordL o xs) = xs := by
 apply q0g (by rw [c0i, c0i])
 intro i hi
 rw [c0i, c0i] at hi
 rw [o0j (by rw [c0i]; exact hi), o0j (by rw [c0i]; exact n1e ho hi), c0i, p1f hi]
theorem e1v (xs : List Nat) : ordL 0 xs = xs := q0g (c0i _ _) fun i hi => by rw [c0i] at hi; rw [o0j hi]; rfl
theorem j1h (xs : List Nat) : ordL 2 xs = xs.reverse := q0g (by rw [c0i, List.length_reverse]) fun i hi => by rw [c0i] at hi; rw [o0j hi, p0s hi]; rfl
/-! ### What a pattern's number is -/
def Fm.neg (f : Fm) (N : Nat) : Bool := N / 2 ^ f.F / 2 ^ f.E == 1
def Fm.exp (f : Fm) (N : Nat) : Nat := N / 2 ^ f.F % 2 ^ f.E
def Fm.frac (f : Fm) (N : Nat) : Nat := N % 2 ^ f.F
structure Dc where
 cls : Nat
 m : Nat
 p : Int
def Fm.dec (f : Fm) (neg : Bool) (e frac : Nat) : Dc :=
 if f.fam = 2 then ⟨2, frac, f.g.lo + e⟩
 else if f.fam = 1 ∧ e = 2 ^ f.E - 1 then (if (f.ext = false ∧ frac = 0) ∨ (f.ext = true ∧ frac = 2 ^ 63) then ⟨3, 0, 0⟩ else ⟨4, 0, 0⟩)
 else if f.fam = 3 ∧ e = 0 then (if neg then ⟨5, 0, 0⟩ else ⟨1, 0, 0⟩)
 else if e = 0 then ⟨2, frac, f.g.lo⟩
 else if f.ext = false then ⟨2, frac + 2 ^ f.F, f.g.lo + e - 1⟩
 else if frac < 2 ^ 63 then ⟨4, 0, 0⟩
 else ⟨2, frac, f.g.lo + e - 1⟩
def Dc.c (d : Dc) : Nat := if d.cls = 2 ∧ d.m = 0 then 1 else d.cls
theorem e1w (f : Fm) (neg : Bool) (e frac : Nat) : (f.dec neg e frac).cls = 1 ∨ (f.dec neg e frac).cls = 2 ∨ (f.dec neg e frac).cls = 3 ∨ (f.dec neg e frac).cls = 4 ∨ (f.dec neg e frac).cls = 5 := by
 unfold Fm.dec
 repeat' split
 all_goals simp
theorem j1i {f : Fm} (neg : Bool) {e frac : Nat} (h : frac < 2 ^ f.F) : (f.dec neg e frac).m < 2 ^ (f.F + 1) := by
 have h1 : 2 ^ (f.F + 1) = 2 * 2 ^ f.F := by rw [Nat.pow_succ]; omega
 have h2 : 0 < 2 ^ f.F := Nat.pow_pos (by omega)
 unfold Fm.dec
 repeat' split
 all_goals simp only
 all_goals omega
theorem p1g {f : Fm} (G : c0g f) (neg : Bool) {e frac : Nat} (h : e < 2 ^ f.E) : -16445 ≤ (f.dec neg e frac).p ∧ (f.dec neg e frac).p ≤ 16323 := by
 have h1 := G.lo
 have h2 := G.hi
 have h3 := G.hi1
 have h4 := G.hi2
 have h5 := G.hi3
 have h6 := G.fam
 unfold Fm.dec
 generalize 2 ^ f.E = T at *
 repeat' split
 all_goals simp only
 all_goals omega
structure Vl where
 cls : Nat
 neg : Bool
 d : Nat
 pow : Int
structure Vr where
 cls : Nat
 neg : Bool
 x : Dv
def Fm.vl (f : Fm) (neg : Bool) (d : Dc) : Vl := ⟨d.c, if d.c ≤ 3 then neg else false, if d.c = 2 then d.m / 2 ^ (tz d.m / wid f.g * wid f.g) else 0, if d.c = 2 then d.p + (tz d.m / wid f.g : Nat) else 0⟩
def Fm.vr (f : Fm) (neg : Bool) (d : Dc) : Vr := ⟨d.c, if d.c ≤ 3 then neg else false, if d.c = 2 then bare ⟨neg, d.m, wid f.g * d.p⟩ else ⟨false, 0, 0⟩⟩
def Fm.decN (f : Fm) (N : Nat) : Dc := f.dec (f.neg N) (f.exp N) (f.frac N)
def Fm.valN (f : Fm) (N : Nat) : Vl := f.vl (f.neg N) (f.decN N)
def Fm.refN (f : Fm) (N : Nat) : Vr := f.vr (f.neg N) (f.decN N)
def Fm.powR (f : Fm) (x : Dv) : Int := (x.e + 80000).tdiv (wid f.g) - (80000 : Int).tdiv (wid f.g)
def Fm.toV (f : Fm) (v : Vr) : Vl := ⟨v.cls, v.neg, if v.cls = 2 then m1l ⟨false, v.x.m, v.x.e - wid f.g * f.powR v.x⟩ else 0, if v.cls = 2 then f.powR v.x else 0⟩
theorem j1j (f : Fm) (neg : Bool) (d : Dc) (h1 : -19999 ≤ d.p) (h2 : d.p ≤ 19999) : f.toV (f.vr neg d) = f.vl neg d := by
 by_cases h : d.c = 2
 · have hm : d.m ≠ 0 := by
    intro h0
    unfold Dc.c at h
    split at h
    · omega
    · rename_i k
      exact k ⟨h, h0⟩
   have hw : wid f.g = 1 ∨ wid f.g = 4 := by unfold wid; split <;> simp
   have hx : bare ⟨neg, d.m, wid f.g * d.p⟩ = ⟨neg, d.m / 2 ^ tz d.m, wid f.g * d.p + tz d.m⟩ := by unfold bare; rw [if_neg hm]
   have hk : f.powR (bare ⟨neg, d.m, wid f.g * d.p⟩) = d.p + (tz d.m / wid f.g : Nat) := by
    unfold Fm.powR
    rw [hx]
    exact b1b d.p (tz d.m) (wid f.g) hw h1 h2
   unfold Fm.toV Fm.vr Fm.vl
   simp only [if_pos h, hk]
   rw [hx]
   simp only [Vl.mk.injEq, true_and, and_true]
   have e : (wid f.g : Int) * d.p + tz d.m - wid f.g * (d.p + (tz d.m / wid f.g : Nat)) = ((tz d.m % wid f.g : Nat) : Int) := by
    rw [Int.mul_add]
    have := Nat.div_add_mod (tz d.m) (wid f.g)
    have k : (wid f.g : Int) * ((tz d.m / wid f.g : Nat) : Int) = ((wid f.g * (tz d.m / wid f.g) : Nat) : Int) := by rw [Int.natCast_mul]
    rw [k]
    omega
   unfold m1l
   simp only
   rw [e, if_pos (by omega), Int.toNat_natCast]
   exact x0a (w := wid f.g) ⟨d.m / 2 ^ tz d.m, ((b0v d.m (by omega)).1).symm⟩
 · unfold Fm.toV Fm.vr Fm.vl
   simp only [if_neg h]
theorem j1k {f : Fm} {x : Bool} {r : List Bool} (h : r.length = f.E + f.F) : f.neg (vb (x :: r)) = x := by
 unfold Fm.neg
 rw [Nat.div_div_eq_div_mul, ← Nat.pow_add, Nat.add_comm f.F, ← h]
 exact s1j x r
theorem j1l {f : Fm} {x : Bool} {r : List Bool} (h : r.length = f.E + f.F) : vb (x :: r) / 2 ^ f.F = vb (x :: r.take f.E) := by
 have := p1c (x :: r) (1 + f.E)
 rw [List.length_cons, h, show f.E + f.F + 1 - (1 + f.E) = f.F by omega, Nat.add_comm 1, List.take_succ_cons] at this
 exact this.symm
theorem j1m {f : Fm} {x : Bool} {r : List Bool} (h : r.length = f.E + f.F) : f.exp (vb (x :: r)) = vb (r.take f.E) := by
 unfold Fm.exp
 rw [j1l h]
 have h2 : (r.take f.E).length = f.E := by rw [List.length_take]; omega
 have := p1e x (r.take f.E)
 rw [h2] at this
 exact this
theorem e1x {f : Fm} {x : Bool} {r : List Bool} (h : r.length = f.E + f.F) : f.frac (vb (x :: r)) = vb (r.drop f.E) := by
 unfold Fm.frac
 have := p1d (x :: r) (f.E + 1)
 rw [List.length_cons, h, show f.E + f.F + 1 - (f.E + 1) = f.F by omega, List.drop_succ_cons] at this
 exact this.symm
def p0l : Nat → Nat → List Bool
 | _, 0 => []
 | a, n + 1 => p0l (a / 2) n ++ [a % 2 == 1]
theorem d0n : ∀ (n a : Nat), (p0l a n).length = n
 | 0, _ => rfl
 | n + 1, a => by rw [p0l, List.length_append, d0n n]; rfl
theorem k0u : ∀ (n a : Nat), vb (p0l a n) = a % 2 ^ n
 | 0, a => by simp [p0l, vb, Nat.mod_one]
 | n + 1, a => by
  rw [p0l, o1y, k0u n]
  have h1 : a % 2 ^ (n + 1) = a % 2 + 2 * (a / 2 % 2 ^ n) := by
   rw [Nat.pow_succ, Nat.mul_comm (2 ^ n) 2, Nat.mod_mul]
  have h2 : (a % 2 == 1).toNat = a % 2 := by
   rcases Nat.mod_two_eq_zero_or_one a with h | h <;> rw [h] <;> rfl
  omega
def Fm.pat (f : Fm) (neg : Bool) (e frac : Nat) : Nat := (neg.toNat * 2 ^ f.E + e) * 2 ^ f.F + frac
def d0y : Nat → Nat → List Nat
 | _, 0 => []
 | a, n + 1 => d0y (a / 256) n ++ [a % 256]
theorem d0v : ∀ (n a : Nat), (d0y a n).length = n
 | 0, _ => rfl
 | n + 1, a => by rw [d0y, List.length_append, d0v n]; rfl
theorem u0d : ∀ (n a : Nat), ∀ x ∈ d0y a n, x < 256
 | 0, _, x, h => by simp [d0y] at h
 | n + 1, a, x, h => by
  rw [d0y, List.mem_append] at h
  rcases h with h | h
  · exact u0d n _ x h
  · rw [List.mem_singleton] at h
    omega
theorem u0e : ∀ (n a : Nat), be (d0y a n) = a % 2 ^ (8 * n)
 | 0, a => by simp [d0y, be, Nat.mod_one]
 | n + 1, a => by
  rw [d0y, e1s, u0e n]
  rw [show 8 * (n + 1) = 8 * n + 8 by omega, Nat.pow_add, Nat.mul_comm (2 ^ (8 * n)), Nat.mod_mul]
  rw [show (2 : Nat) ^ 8 = 256 from rfl]
  omega
theorem b1c (l : List Nat) (x i : Nat) (h : i < l.length) : dg (l ++ [x]) i = dg l i := by
 unfold dg
 rw [List.getElem?_append_left h]
theorem u0f : ∀ (n a i : Nat), i < n → dg (d0y a n) i = a / 2 ^ (8 * (n - 1 - i)) % 256
 | 0, _, _, h => by omega
 | n + 1, a, i, h => by
  rw [d0y]
  by_cases h2 : i < n
  · rw [b1c _ _ _ (by rw [d0v]; exact h2), u0f n _ i h2, Nat.div_div_eq_div_mul]
    congr 2
    rw [show (256 : Nat) = 2 ^ 8 from rfl, ← Nat.pow_add]
    congr 1
    omega
  · obtain rfl : i = n := by omega
    unfold dg
    rw [List.getElem?_append_right (by rw [d0v]; exact Nat.le_refl _), d0v]
    simp
def Fm.str (f : Fm) (neg : Bool) (e frac : Nat) : List Nat := ordL f.ord (d0y (f.pat neg e frac) f.size)
def Fm.bits (f : Fm) (neg : Bool) (e frac : Nat) : List Bool := neg :: (p0l e f.E ++ p0l frac f.F)
theorem j1n (f : Fm) (neg : Bool) (e frac : Nat) : (f.bits neg e frac).length = 1 + f.E + f.F := by
 unfold Fm.bits
 rw [List.length_cons, List.length_append, d0n, d0n]
 omega
theorem y0v {f : Fm} {neg : Bool} {e frac : Nat} (he : e < 2 ^ f.E) (hf : frac < 2 ^ f.F) : vb (f.bits neg e frac) = f.pat neg e frac := by
 unfold Fm.bits Fm.pat
 rw [o0h, h0z, k0u, k0u, d0n, List.length_append, d0n, d0n, Nat.mod_eq_of_lt he, Nat.mod_eq_of_lt hf, Nat.pow_add, Nat.add_mul, Nat.mul_assoc]
 omega
theorem p1h (f : Fm) (neg : Bool) (e frac : Nat) : (f.str neg e frac).length = f.size := by unfold Fm.str; rw [c0i, d0v]
theorem n1f {f : Fm} (G : c0g f) {neg : Bool} {e frac : Nat} (he : e < 2 ^ f.E) (hf : frac < 2 ^ f.F) : f.pat neg e frac < 2 ^ (8 * f.size) := by
 rw [← G.bits, ← y0v he hf, ← j1n f neg e frac]
 exact w0z _
theorem s1k {f : Fm} (G : c0g f) {neg : Bool} {e frac : Nat} (he : e < 2 ^ f.E) (hf : frac < 2 ^ f.F) : be (ordL f.ord (f.str neg e frac)) = f.pat neg e frac := by
 have ho : f.ord = 1 → f.size % 2 = 0 := fun _ => by have := G.sz; omega
 unfold Fm.str
 rw [e1u (by rw [d0v]; exact ho), u0e, Nat.mod_eq_of_lt (n1f G he hf)]
theorem e1y {f : Fm} {neg : Bool} {e frac : Nat} (he : e < 2 ^ f.E) (hf : frac < 2 ^ f.F) : f.neg (f.pat neg e frac) = neg ∧ f.exp (f.pat neg e frac) = e ∧ f.frac (f.pat neg e frac) = frac := by
 rw [← y0v he hf]
 unfold Fm.bits
 have hl : (p0l e f.E ++ p0l frac f.F).length = f.E + f.F := by rw [List.length_append, d0n, d0n]
 refine ⟨j1k hl, ?_, ?_⟩
 · rw [j1m hl, List.take_left' (d0n _ _), k0u, Nat.mod_eq_of_lt he]
 · rw [e1x hl, List.drop_left' (d0n _ _), k0u, Nat.mod_eq_of_lt hf]
structure Pt where
 neg : Bool
 e : Nat
 x : Nat
def Fm.fr (f : Fm) (d : Dv) : Nat := d.m * 2 ^ (d.e - wid f.g * b0w d f.g).toNat
def Fm.numP (f : Fm) (d : Dv) : Pt :=
 if f.fam = 2 then ⟨d.neg, (b0w d f.g - f.g.lo).toNat, f.fr d⟩
 else if (blen (f.fr d) : Int) = f.g.digs then ⟨d.neg, (b0w d f.g - f.g.lo).toNat + 1, if f.ext then f.fr d else f.fr d - 2 ^ f.F⟩
 else ⟨d.neg, (b0w d f.g - f.g.lo).toNat, f.fr d⟩
def Fm.encP (f : Fm) (cls : Nat) (g : Bool) (d : Dv) : Pt :=
 if cls = 2 then f.numP d
 else if cls = 3 then ⟨g, 2 ^ f.E - 1, if f.ext then 2 ^ 63 else 0⟩
 else if cls = 4 then ⟨g, 2 ^ f.E - 1, if f.ext then 2 ^ 63 + 2 ^ 62 else 2 ^ (f.F - 1)⟩
 else if cls = 5 then ⟨true, 0, 0⟩
 else ⟨g, 0, 0⟩
def Fm.strP (f : Fm) (p : Pt) : List Nat := f.str p.neg p.e p.x
structure NumF (f : Fm) (d : Dv) : Prop where
 k1 : f.g.lo ≤ b0w d f.g
 k2 : b0w d f.g ≤ f.g.hi
 e0 : 0 ≤ d.e - wid f.g * b0w d f.g
 e1 : d.e - wid f.g * b0w d f.g ≤ 484
 lt : f.fr d < 2 ^ (wid f.g * f.g.digs.toNat)
 ne : f.fr d ≠ 0
 bl : (blen (f.fr d) : Int) ≤ wid f.g * f.g.digs
 low : f.fam ≠ 2 → (blen (f.fr d) : Int) ≠ f.g.digs → b0w d f.g = f.g.lo ∧ f.fam = 1
theorem e1z {f : Fm} (G : c0g f) {d : Dv} (hin : a0s d f.g = true) (h0 : d.m ≠ 0) : NumF f d := by
 have hg := c0e G.g
 obtain ⟨a1, a2, a3, a4⟩ := e1m hg hin h0
 have hd1 := hg.d1
 have wp := b0g f.g
 obtain ⟨D, hD⟩ : ∃ D : Nat, f.g.digs = D := ⟨f.g.digs.toNat, by omega⟩
 have hDt : f.g.digs.toNat = D := by omega
 have hbl : (blen (f.fr d) : Int) = topD d - wid f.g * b0w d f.g := by
  unfold Fm.fr
  rw [g0j (by omega)]
  unfold topD
  omega
 have hpos : f.fr d ≠ 0 := by
  unfold Fm.fr
  have := Nat.mul_pos (show 0 < d.m by omega) (Nat.pow_pos (n := (d.e - wid f.g * b0w d f.g).toNat) (show 0 < 2 by omega))
  omega
 have hb := g0d (topD d - 1) (wid f.g) (by omega)
 have eU : upK d (wid f.g) D = (topD d - 1) / (wid f.g : Int) - D + 1 := rfl
 have eS : b0w d f.g = max f.g.lo (upK d (wid f.g) f.g.digs.toNat) := rfl
 rw [hDt] at eS
 have hle : upK d (wid f.g) D ≤ b0w d f.g := by omega
 have hmul : (wid f.g : Int) * upK d (wid f.g) D ≤ wid f.g * b0w d f.g := Int.mul_le_mul_of_nonneg_left hle (by omega)
 have eK : (wid f.g : Int) * upK d (wid f.g) D = wid f.g * ((topD d - 1) / (wid f.g : Int)) - wid f.g * D + wid f.g := by rw [eU]; grind
 have hbD : (blen (f.fr d) : Int) ≤ wid f.g * f.g.digs := by rw [hD]; omega
 have ewD : ((wid f.g * D : Nat) : Int) = wid f.g * D := Int.natCast_mul _ _
 refine ⟨a3, a4, by omega, by omega, ?_, hpos, hbD, fun hf hn => ?_⟩
 · rw [hDt]
   refine (a0w _ _).1 ?_
   rw [hD] at hbD
   omega
 · have hw : wid f.g = 1 := by rw [G.w, if_neg hf]
   rw [hw] at hbl eU
   have hu : ¬ b0w d f.g = upK d 1 D := by
    intro h
    apply hn
    rw [hbl, h, eU, hD]
    have : (topD d - 1) / ((1 : Nat) : Int) = topD d - 1 := by simp
    omega
   rw [hw] at eS
   have hlo : b0w d f.g = f.g.lo := by omega
   refine ⟨hlo, ?_⟩
   have hlt : upK d 1 D < f.g.lo := by omega
   unfold a0s at hin
   rw [if_neg h0, hDt, hw] at hin
   split at hin
   · simp at hin
   · have hgr := G.grad
     by_cases hf1 : f.fam = 1
     · exact hf1
     · rw [decide_eq_false hf1] at hgr
       rw [hgr] at hin
       simp at hin
theorem s0g {f : Fm} (G : c0g f) (hf : f.fam ≠ 2) : (f.ext = false ∧ f.g.digs = f.F + 1) ∨ (f.ext = true ∧ f.g.digs = f.F ∧ f.F = 64) := by
 cases h : f.ext with
 | false => exact .inl ⟨rfl, G.d1 hf h⟩
 | true => have := G.ext h; exact .inr ⟨rfl, by omega, this.2.1⟩
theorem f1a {f : Fm} (G : c0g f) {d : Dv} (N : NumF f d) : (f.numP d).e < 2 ^ f.E ∧ (f.numP d).x < 2 ^ f.F := by
 have hE1 : (2 : Nat) ^ 7 ≤ 2 ^ f.E := Nat.pow_le_pow_right (by omega) G.e1
 have h1 := N.k1
 have h2 := N.k2
 have hF2 := N.lt
 have hdd := G.d2
 have hw := G.w
 unfold Fm.numP
 by_cases hf : f.fam = 2
 · rw [if_pos hf]
   have := G.hi2 hf
   rw [hw, if_pos hf, show 4 * f.g.digs.toNat = f.F by have := hdd hf; omega] at hF2
   exact ⟨by simp only; omega, hF2⟩
 · rw [if_neg hf]
   rw [hw, if_neg hf, Nat.one_mul] at hF2
   have hhi : f.g.hi + 2 ≤ f.g.lo + (2 ^ f.E : Nat) := by
    have h3 := G.hi1
    have h4 := G.hi3
    have h5 := G.fam
    omega
   rcases s0g G hf with ⟨he, hd⟩ | ⟨he, hd, h64⟩
   · rw [show f.g.digs.toNat = f.F + 1 by omega, Nat.pow_succ] at hF2
     by_cases hb : (blen (f.fr d) : Int) = f.g.digs
     · rw [if_pos hb, if_neg (by simp [he])]
       exact ⟨by simp only; omega, by simp only; omega⟩
     · rw [if_neg hb]
       refine ⟨by simp only; omega, ?_⟩
       have hbl := N.bl
       rw [hw, if_neg hf] at hbl
       show f.fr d < 2 ^ f.F
       exact (a0w _ _).1 (by omega)
   · rw [show f.g.digs.toNat = f.F by omega] at hF2
     by_cases hb : (blen (f.fr d) : Int) = f.g.digs
     · rw [if_pos hb, if_pos he]
       exact ⟨by simp only; omega, hF2⟩
     · rw [if_neg hb]
       exact ⟨by simp only; omega, hF2⟩
theorem p1i {f : Fm} (G : c0g f) {cls : Nat} {g : Bool} {d : Dv} (N : cls = 2 → NumF f d) : (f.encP cls g d).e < 2 ^ f.E ∧ (f.encP cls g d).x < 2 ^ f.F := by
 have h0 : 0 < 2 ^ f.E := Nat.pow_pos (by omega)
 have h1 : 0 < 2 ^ f.F := Nat.pow_pos (by omega)
 have hF := G.f1
 have h2 : 2 ^ (f.F - 1) < 2 ^ f.F := Nat.pow_lt_pow_right (by omega) (by omega)
 have h3 : f.ext = true → 2 ^ f.F = 2 ^ 64 := fun h => by rw [(G.ext h).2.1]
 unfold Fm.encP
 by_cases c2 : cls = 2
 · rw [if_pos c2]; exact f1a G (N c2)
 · rw [if_neg c2]
   by_cases c3 : cls = 3
   · rw [if_pos c3]
     refine ⟨by simp only; omega, ?_⟩
     simp only
     split
     · rename_i h; rw [h3 h]; omega
     · exact h1
   · rw [if_neg c3]
     by_cases c4 : cls = 4
     · rw [if_pos c4]
       refine ⟨by simp only; omega, ?_⟩
       simp only
       split
       · rename_i h; rw [h3 h]; omega
       · exact h2
     · rw [if_neg c4]
       split
       · exact ⟨h0, h1⟩
       · exact ⟨h0, h1⟩
theorem u0g (g : Bool) (m : Nat) (e : Int) : (if g then f0z (bare ⟨false, m, e⟩) else bare ⟨false, m, e⟩) = bare ⟨g, m, e⟩ := by
 cases g with
 | false => rfl
 | true =>
  rw [if_pos rfl]
  by_cases h : m = 0
  · subst h; rfl
  · unfold bare f0z
    rw [if_neg h, if_neg h]
    have h1 := b0v m (by omega)
    have h2 : 0 < m / 2 ^ tz m := by
     rcases Nat.eq_zero_or_pos (m / 2 ^ tz m) with k | k
     · rw [k] at h1; simp at h1
     · exact k
    simp [h2]
theorem s0h {x k n : Nat} (h : x < 2 ^ k) (hk : k ≤ 32 * n) : (dig B32 x).length ≤ n := by
 rw [a0g a0b]
 unfold B32
 rw [show (4294967296 : Nat) = 2 ^ 32 from rfl, ← Nat.pow_mul]
 exact Nat.lt_of_lt_of_le h (Nat.pow_le_pow_right (by omega) hk)
theorem y0w (f : Fm) (g : Bool) (d : Dc) : bare ⟨(f.vl g d).neg, (f.vl g d).d, wid f.g * (f.vl g d).pow⟩ = (f.vr g d).x := by
 by_cases h : d.c = 2
 · unfold Fm.vl Fm.vr
   simp only [h, if_true]
   have hw := b0g f.g
   rw [if_pos (by omega)]
   have e : (wid f.g : Int) * (d.p + (tz d.m / wid f.g : Nat)) = wid f.g * d.p + ((tz d.m / wid f.g * wid f.g : Nat) : Int) := by
    rw [Int.mul_add, Int.natCast_mul, Int.mul_comm (wid f.g : Int) ((tz d.m / wid f.g : Nat) : Int)]
   rw [e, ← d0r]
   have hm : d.m ≠ 0 := by
    intro h0
    unfold Dc.c at h
    split at h
    · omega
    · rename_i k
      exact k ⟨h, h0⟩
   have hdv : 2 ^ (tz d.m / wid f.g * wid f.g) ∣ d.m := Nat.dvd_trans (Nat.pow_dvd_pow 2 (Nat.div_mul_le_self _ _)) ⟨d.m / 2 ^ tz d.m, ((b0v d.m (by omega)).1).symm⟩
   rw [Nat.div_mul_cancel hdv]
 · unfold Fm.vl Fm.vr
   simp only [if_neg h]
   exact t0t _ _
theorem o0k (d : Dv) : f0a d = 0 ↔ d.m = 0 := by unfold f0a; by_cases h : d.m = 0 <;> cases d.neg <;> simp [h]
structure CanF (f : Fm) (cls : Nat) (g : Bool) (d : Dv) : Prop where
 c : 1 ≤ cls ∧ cls ≤ 5
 c1 : cls = 1 → g = true → f.fam ≠ 3
 c2 : cls = 2 → NumF f d ∧ Bare d ∧ d.m ≠ 0 ∧ d.neg = g
 c3 : cls = 3 → f.fam = 1
 c4 : cls = 4 → f.fam = 1 ∧ g = false
 c5 : cls = 5 → f.fam = 3 ∧ g = false
theorem p1j {f : Fm} {d : Dv} (N : NumF f d) (hB : Bare d) : bare ⟨d.neg, f.fr d, wid f.g * b0w d f.g⟩ = d := by
 have h0 := N.e0
 unfold Fm.fr
 rw [d0r, show wid f.g * b0w d f.g + (((d.e - wid f.g * b0w d f.g).toNat : Nat) : Int) = d.e by omega]
 exact n0k hB
theorem j1o {f : Fm} (G : c0g f) {d : Dv} (N : NumF f d) : (f.numP d).neg = d.neg ∧ f.dec (f.numP d).neg (f.numP d).e (f.numP d).x = ⟨2, f.fr d, b0w d f.g⟩ := by
 have hE1 : (2 : Nat) ^ 7 ≤ 2 ^ f.E := Nat.pow_le_pow_right (by omega) G.e1
 have h1 := N.k1
 have h2 := N.k2
 have hw := G.w
 by_cases hf : f.fam = 2
 · have e : f.numP d = ⟨d.neg, (b0w d f.g - f.g.lo).toNat, f.fr d⟩ := by unfold Fm.numP; rw [if_pos hf]
   rw [e]
   refine ⟨rfl, ?_⟩
   unfold Fm.dec
   rw [if_pos hf]
   simp only [Dc.mk.injEq, true_and]
   omega
 · have hhi : f.g.hi + 2 ≤ f.g.lo + (2 ^ f.E : Nat) := by
    have h3 := G.hi1
    have h4 := G.hi3
    have h5 := G.fam
    omega
   have hhi1 : f.fam = 1 → f.g.hi + 3 = f.g.lo + (2 ^ f.E : Nat) := fun h => by have := G.hi1 h; omega
   by_cases hb : (blen (f.fr d) : Int) = f.g.digs
   · have hp := g0w (f.fr d) (by have := N.ne; omega)
     obtain ⟨X, hX, hk1, hk2⟩ : ∃ X, f.numP d = ⟨d.neg, (b0w d f.g - f.g.lo).toNat + 1, X⟩ ∧ (f.ext = false → X + 2 ^ f.F = f.fr d) ∧ (f.ext = true → X = f.fr d ∧ 2 ^ 63 ≤ X) := by
      refine ⟨_, by unfold Fm.numP; rw [if_neg hf, if_pos hb], fun he => ?_, fun he => ?_⟩
      · rw [he]
        simp only [Bool.false_eq_true, if_false]
        rcases s0g G hf with ⟨_, hd⟩ | ⟨h, _⟩
        · rw [show blen (f.fr d) - 1 = f.F by omega] at hp
          omega
        · rw [he] at h; cases h
      · rw [if_pos he]
        refine ⟨rfl, ?_⟩
        rcases s0g G hf with ⟨h, _⟩ | ⟨_, hd, h64⟩
        · rw [he] at h; cases h
        · rw [show blen (f.fr d) - 1 = 63 by omega] at hp
          exact hp
     rw [hX]
     refine ⟨rfl, ?_⟩
     unfold Fm.dec
     simp only
     rw [if_neg hf, if_neg (by rintro ⟨h, k⟩; have := hhi1 h; omega), if_neg (by omega), if_neg (by omega)]
     cases he : f.ext with
     | false =>
      rw [if_pos rfl, hk1 he]
      simp only [Dc.mk.injEq, true_and]
      omega
     | true =>
      rw [if_neg (by simp), if_neg (by have := (hk2 he).2; omega), (hk2 he).1]
      simp only [Dc.mk.injEq, true_and]
      omega
   · obtain ⟨l1, l2⟩ := N.low hf hb
     have e : f.numP d = ⟨d.neg, (b0w d f.g - f.g.lo).toNat, f.fr d⟩ := by unfold Fm.numP; rw [if_neg hf, if_neg hb]
     rw [e]
     refine ⟨rfl, ?_⟩
     unfold Fm.dec
     simp only
     rw [if_neg hf, if_neg (by rintro ⟨h, k⟩; omega), if_neg (by omega), if_pos (by omega), l1]
theorem p1k {f : Fm} (G : c0g f) {cls : Nat} {g : Bool} {d : Dv} (C : CanF f cls g d) :
 f.vr (f.encP cls g d).neg (f.dec (f.encP cls g d).neg (f.encP cls g d).e (f.encP cls g d).x) = ⟨cls, g, if cls = 2 then d else ⟨false, 0, 0⟩⟩ := by
 have hE1 : (2 : Nat) ^ 7 ≤ 2 ^ f.E := Nat.pow_le_pow_right (by omega) G.e1
 have hfam := G.fam
 obtain ⟨c1, c2⟩ := C.c
 have hx := G.ext
 rcases (show cls = 1 ∨ cls = 2 ∨ cls = 3 ∨ cls = 4 ∨ cls = 5 by omega) with rfl | rfl | rfl | rfl | rfl
 · have h := C.c1 rfl
   have hd : (f.dec g 0 0).c = 1 := by
    unfold Fm.dec
    by_cases h2 : f.fam = 2
    · rw [if_pos h2]; rfl
    · rw [if_neg h2, if_neg (by rintro ⟨_, k⟩; omega)]
      by_cases h3 : f.fam = 3
      · rw [if_pos ⟨h3, rfl⟩, if_neg (fun k => h k h3)]; rfl
      · rw [if_neg (fun k => h3 k.1), if_pos rfl]; rfl
   show f.vr g (f.dec g 0 0) = _
   unfold Fm.vr
   rw [hd]
   rfl
 · obtain ⟨N, hB, h0, hg⟩ := C.c2 rfl
   obtain ⟨k1, k2⟩ := j1o G N
   show f.vr (f.numP d).neg (f.dec (f.numP d).neg (f.numP d).e (f.numP d).x) = _
   rw [k2, k1]
   have hc : (⟨2, f.fr d, b0w d f.g⟩ : Dc).c = 2 := by unfold Dc.c; rw [if_neg (fun h => N.ne h.2)]
   unfold Fm.vr
   rw [hc]
   simp only [if_true]
   rw [if_pos (by omega), p1j N hB, hg]
 · have h := C.c3 rfl
   have hd : f.dec g (2 ^ f.E - 1) (if f.ext then 2 ^ 63 else 0) = ⟨3, 0, 0⟩ := by
    unfold Fm.dec
    rw [if_neg (by omega), if_pos ⟨h, rfl⟩, if_pos (by cases f.ext <;> simp)]
   show f.vr g (f.dec g (2 ^ f.E - 1) (if f.ext then 2 ^ 63 else 0)) = _
   rw [hd]
   rfl
 · obtain ⟨h, rfl⟩ := C.c4 rfl
   have hp : 0 < 2 ^ (f.F - 1) := Nat.pow_pos (by omega)
   have hd : f.dec false (2 ^ f.E - 1) (if f.ext then 2 ^ 63 + 2 ^ 62 else 2 ^ (f.F - 1)) = ⟨4, 0, 0⟩ := by
    unfold Fm.dec
    rw [if_neg (by omega), if_pos ⟨h, rfl⟩, if_neg (by cases f.ext <;> simp <;> omega)]
   show f.vr false (f.dec false (2 ^ f.E - 1) (if f.ext then 2 ^ 63 + 2 ^ 62 else 2 ^ (f.F - 1))) = _
   rw [hd]
   rfl
 · obtain ⟨h, rfl⟩ := C.c5 rfl
   have hd : f.dec true 0 0 = ⟨5, 0, 0⟩ := by
    unfold Fm.dec
    rw [if_neg (by omega), if_neg (by omega), if_pos ⟨h, rfl⟩, if_pos rfl]
   show f.vr true (f.dec true 0 0) = _
   rw [hd]
   rfl
theorem n1g {D : Dc} (h : D.c = 2) : D.m ≠ 0 := by
 intro h0
 unfold Dc.c at h
 split at h
 · omega
 · rename_i k
   exact k ⟨h, h0⟩
theorem u1h {f : Fm} (G : c0g f) (g : Bool) {e x : Nat} (he : e < 2 ^ f.E) (hx : x < 2 ^ f.F) (neg : Bool) :
 (dig B32 (f.vl g (f.dec neg e x)).d).length ≤ 1000 ∧ -20000 ≤ (f.vl g (f.dec neg e x)).pow ∧ (f.vl g (f.dec neg e x)).pow ≤ 20000 := by
 have k2 := j1i (f := f) neg (e := e) hx
 have k3 := p1g G neg (frac := x) he
 have z2 := G.f2
 generalize f.dec neg e x = D at *
 have hml : (dig B32 D.m).length ≤ 3 := s0h k2 (by omega)
 unfold Fm.vl
 simp only
 refine ⟨?_, ?_⟩
 · split
   · exact Nat.le_trans (a0l a0b (Nat.div_le_self _ _)) (by omega)
   · simp [a0e]
 · split
   · rename_i hc
     have h1 := g0k (m := D.m) (by have := n1g hc; omega)
     have h3 := (a0w _ _).2 k2
     have h2 := Nat.div_le_self (tz D.m) (wid f.g)
     obtain ⟨q, hq⟩ : ∃ q : Nat, tz D.m / wid f.g = q := ⟨_, rfl⟩
     rw [hq] at h2 ⊢
     omega
   · omega
theorem j1p (f : Fm) (g : Bool) (D : Dc) (h : (f.vl g D).cls ≠ 2) : (f.vl g D).d = 0 ∧ (f.vl g D).pow = 0 := by
 have hc : D.c ≠ 2 := h
 unfold Fm.vl
 simp only [if_neg hc, and_self]
def vz : Dv := ⟨false, 0, 0⟩
def Fm.nothM (f : Fm) : Vr := ⟨if f.fam = 1 then 4 else if f.fam = 2 then 1 else 5, false, vz⟩
def Fm.greatM (f : Fm) (neg : Bool) : Vr := ⟨2, neg, bare ⟨neg, 2 ^ (wid f.g * f.g.digs.toNat) - 1, wid f.g * f.g.hi⟩⟩
def Fm.zeroM (f : Fm) (neg : Bool) : Vr := ⟨1, neg && decide (f.fam = 1), vz⟩
def infM (neg : Bool) : Vr := ⟨3, neg, vz⟩
def Fm.flP (f : Fm) (p : Pl) : Nat := if p.under then (if f.fam = 1 then (if p.exact then 0 else 3) else 3) else if p.exact then 0 else 1
def Fm.placedM (f : Fm) (p : Pl) (way : Int) : Vr × Nat :=
 if p.over then (if f.fam = 2 then f.greatM p.neg else if f.fam = 3 then f.nothM else if way ≤ 2 ∨ (way = 4 ∧ p.neg = false) ∨ (way = 5 ∧ p.neg = true) then infM p.neg else f.greatM p.neg, 5)
 else if p.under = true ∧ f.fam ≠ 1 ∧ p.pow < f.g.lo then (f.zeroM false, 3)
 else if p.d = 0 then (f.zeroM p.neg, f.flP p)
 else (⟨2, p.neg, bare ⟨p.neg, p.d, wid f.g * p.pow⟩⟩, f.flP p)
def Fm.numM (f : Fm) (x : Dv) (way : Int) : Vr × Nat := if x.m = 0 then (f.zeroM false, 0) else f.placedM (a0m x.neg x.m 1 x.e f.g way) way
def Fm.sumM (f : Fm) (x y : Dv) (p q : Bool) (way : Int) : Vr × Nat :=
 if (k0g x y).m ≠ 0 then f.numM (k0g x y) way else if x.m = 0 ∧ p = q then (f.zeroM p, 0) else (f.zeroM (decide (way = 5)), 0)
def Fm.offM (f : Fm) : Vr × Nat := (f.nothM, if f.fam = 3 then 16 else 0)
def Fm.lostM (f : Fm) : Vr × Nat := (f.nothM, 16)
def Fm.addM (f : Fm) (a b : Vr) (way : Int) : Vr × Nat :=
 if 4 ≤ a.cls ∨ 4 ≤ b.cls then f.offM
 else if a.cls = 3 ∨ b.cls = 3 then (if a.cls = b.cls ∧ a.neg ≠ b.neg then f.lostM else if a.cls = 3 then (a, 0) else (b, 0))
 else f.sumM a.x b.x a.neg b.neg way
def f0x (n : Int) : List Nat := if n < 0 then 45 :: a0z (-n).toNat else a0z n.toNat
def numT (neg : Bool) (s : List Nat) (p : Int) : List Nat := (if neg then [45] else []) ++ (s.take 1 ++ ((if 1 < s.length then 46 :: s.drop 1 else []) ++ 101 :: f0x p))
theorem s0i {x : Nat} (h : 48 ≤ x ∧ x ≤ 57) : isDg x = true := by unfold isDg; simp [h]
theorem f0f {x : Nat} : isDg x = true ↔ 48 ≤ x ∧ x ≤ 57 := by unfold isDg; simp
theorem y0x : ∀ {l : List Nat}, (∀ x ∈ l, isDg x = true) → l.takeWhile isDg = l ∧ l.dropWhile isDg = []
 | [], _ => ⟨rfl, rfl⟩
 | x :: l, h => by
  have h1 := h x List.mem_cons_self
  have h2 := y0x (l := l) fun y hy => h y (List.mem_cons_of_mem x hy)
  rw [List.takeWhile_cons, List.dropWhile_cons, h1, if_pos rfl, if_pos rfl, h2.1, h2.2]
  exact ⟨rfl, rfl⟩
theorem o0l {b : Nat} (hb : isDg b = false) (r : List Nat) : ∀ {l : List Nat}, (∀ x ∈ l, isDg x = true) → (l ++ b :: r).takeWhile isDg = l ∧ (l ++ b :: r).dropWhile isDg = b :: r
 | [], _ => by rw [List.nil_append, List.takeWhile_cons, List.dropWhile_cons, hb]; exact ⟨rfl, rfl⟩
 | x :: l, h => by
  have h1 := h x List.mem_cons_self
  have h2 := o0l hb r (l := l) fun y hy => h y (List.mem_cons_of_mem x hy)
  rw [List.cons_append, List.takeWhile_cons, List.dropWhile_cons, h1, if_pos rfl, if_pos rfl, h2.1, h2.2]
  exact ⟨rfl, rfl⟩
theorem s0j {b : Nat} (r : List Nat) (h : b ≠ 45) : m0q (b :: r) = (false, b :: r) := by
 unfold m0q
 split
 · rename_i heq
   injection heq with h1 _
   exact absurd h1 h
 · rfl
theorem b1d (n : Nat) : ∃ c r, a0z n = c :: r ∧ 48 ≤ c ∧ c ≤ 57 := by
 have h := c0q n
 have hd := g0n n
 cases hc : a0z n with
 | nil => rw [hc] at h; simp at h
 | cons c r => exact ⟨c, r, rfl, hd c (by rw [hc]; exact List.mem_cons_self)⟩
theorem b1e (p : Int) : m0q (f0x p) = (decide (p < 0), a0z p.natAbs) := by
 unfold f0x
 by_cases h : p < 0
 · rw [if_pos h, decide_eq_true h, show p.natAbs = (-p).toNat by omega]; rfl
 · rw [if_neg h, decide_eq_false h, show p.natAbs = p.toNat by omega]
   obtain ⟨c, r, e, h1, h2⟩ := b1d p.toNat
   rw [e]; exact s0j r (by omega)
theorem u0h {p : Int} (h : -100000 < p ∧ p < 100000) : powT (101 :: f0x p) = some (p, []) := by
 have hd : ∀ x ∈ a0z p.natAbs, isDg x = true := fun x hx => s0i (g0n _ x hx)
 have hl : (a0z p.natAbs).length ≤ 5 := (b0f _ 5 (by omega)).2 (by omega)
 have hl0 := c0q p.natAbs
 unfold powT
 simp only [b1e, (y0x hd).1, (y0x hd).2, t0z]
 rw [if_neg (fun h => h.elim (fun e => by rw [e] at hl0; simp at hl0) (fun e => by omega))]
 by_cases h0 : p < 0
 · rw [decide_eq_true h0, if_pos rfl]; congr 2; omega
 · rw [decide_eq_false h0, if_neg (by simp)]; congr 2; omega
theorem q0i {b : Nat} (r : List Nat) (h : b ≠ 46) : r0x (b :: r) = some ([], b :: r) := by
 unfold r0x
 split
 · rename_i heq
   injection heq with h1 _
   exact absurd h1 h
 · rfl
theorem b1f (r : List Nat) : r0x (46 :: r) = if r.takeWhile isDg = [] then none else some (r.takeWhile isDg, r.dropWhile isDg) := rfl
theorem f1b {neg : Bool} {s : List Nat} {p : Int} {k : Nat} (hl : s.length = k) (hk : 1 ≤ k) (hs : ∀ x ∈ s, 48 ≤ x ∧ x ≤ 57) (hp : -100000 < p ∧ p < 100000) : numl (numT neg s p) = some ⟨neg, s, p - ((k - 1 : Nat) : Int)⟩ := by
 subst hl
 match s, hk, hs with
 | c :: r, _, hs =>
  have hc := hs c List.mem_cons_self
  have hr : ∀ x ∈ r, isDg x = true := fun x hx => s0i (hs x (List.mem_cons_of_mem c hx))
  have e1 : ∀ q, m0q ((if neg then [45] else []) ++ (c :: q)) = (neg, c :: q) := fun q => by
   cases neg
   · exact s0j q (by omega)
   · rfl
  have h46 : isDg 46 = false := by decide
  have h101 : isDg 101 = false := by decide
  unfold numl numT
  rw [List.take_succ_cons, List.take_zero, List.singleton_append, e1]
  simp only
  have one : ∀ x ∈ [c], isDg x = true := fun x hx => by rw [List.mem_singleton.1 hx]; exact s0i hc
  cases r with
  | nil =>
   rw [if_neg (by simp), List.nil_append]
   have e2 := o0l h101 (f0x p) one
   rw [List.singleton_append] at e2
   rw [e2.1, e2.2, q0i _ (by decide)]
   simp [u0h hp]
  | cons c2 r =>
   rw [if_pos (by simp), List.drop_succ_cons, List.drop_zero, List.cons_append]
   have e2 := o0l h46 ((c2 :: r) ++ 101 :: f0x p) one
   rw [List.singleton_append] at e2
   rw [e2.1, e2.2]
   have e3 := o0l h101 (f0x p) hr
   have e4 : r0x (46 :: (c2 :: r ++ 101 :: f0x p)) = some (c2 :: r, 101 :: f0x p) := by
    rw [b1f, e3.1, e3.2, if_neg (by simp)]
   rw [e4]
   simp [u0h hp]
theorem u0i {q : Numl} (h0 : a0n q.ds ≠ 0) {g : Bool} {num den : Nat} {e : Int} (h : f0r q = (g, num, den, e)) :
 g = q.neg ∧ 0 < num ∧ 0 < den ∧ ∀ {a b t : Nat}, (a : Int) - b = q.pow → 0 ≤ e + t → num * 2 ^ (e + t).toNat * 10 ^ b = a0n q.ds * den * 10 ^ a * 2 ^ t := by
 obtain ⟨neg, ds, pw⟩ := q
 simp only at h0 ⊢
 unfold f0r at h
 simp only at h
 rw [if_neg h0] at h
 obtain ⟨t1, t2⟩ := b0v (a0n ds) (by omega)
 generalize a0n ds = S at *
 generalize tz S = z at *
 generalize S / 2 ^ z = o at *
 subst t1
 have ho : 0 < o := by omega
 have t10 : ∀ n : Nat, 10 ^ n = 2 ^ n * 5 ^ n := fun n => by rw [← Nat.mul_pow]
 by_cases hp : 0 ≤ pw
 · rw [if_pos hp] at h
   injection h with h1 h2
   injection h2 with h2 h3
   injection h3 with h3 h4
   subst h1 h2 h3 h4
   refine ⟨rfl, Nat.mul_pos ho (Nat.pow_pos (by omega)), by omega, fun {a b t} hab ht => ?_⟩
   obtain ⟨P, rfl⟩ : ∃ P : Nat, pw = P := ⟨pw.toNat, by omega⟩
   have ea : a = P + b := by omega
   rw [ea, show ((z : Int) + P + t).toNat = z + P + t by omega, Int.toNat_natCast, Nat.pow_add 10, t10 P, Nat.pow_add, Nat.pow_add]
   grind
 · rw [if_neg hp] at h
   obtain ⟨P, hP⟩ : ∃ P : Nat, pw = -(P : Int) := ⟨(-pw).toNat, by omega⟩
   subst hP
   rw [show (- -(P : Int)).toNat = P by omega] at h
   have c1 := q0c P o
   have c2 := (i0l P o).2
   have c3 := o0b P o ho
   generalize b0n o P = cf at *
   obtain ⟨n, f⟩ := cf
   simp only at h c1 c2 c3
   injection h with h1 h2
   injection h2 with h2 h3
   injection h3 with h3 h4
   subst h1 h2 h3 h4
   refine ⟨rfl, c3, Nat.pow_pos (by omega), fun {a b t} hab ht => ?_⟩
   have eb : b = a + P := by omega
   rw [eb, ← c1, Nat.pow_add 10, t10 P, show (5 : Nat) ^ P = 5 ^ f * 5 ^ (P - f) by rw [← Nat.pow_add]; congr 1; omega]
   have e2 : 2 ^ ((z : Int) + -(P : Int) + t).toNat * 2 ^ P = 2 ^ z * 2 ^ t := by rw [← Nat.pow_add, ← Nat.pow_add]; congr 1; omega
   calc _ = n * (2 ^ ((z : Int) + -(P : Int) + t).toNat * 2 ^ P) * 10 ^ a * (5 ^ f * 5 ^ (P - f)) := by grind
    _ = _ := by rw [e2]; grind
def numX (x : Dv) (k : Nat) : List Nat × Int := decM (numP x.m x.e) (denP 1 x.e) k
def ratX (x : Dv) (k : Nat) : Bool × Nat × Nat × Int := f0r ⟨x.neg, (numX x k).1, (numX x k).2 - ((k - 1 : Nat) : Int)⟩
def g0o (f : Fm) (x : Dv) (k : Nat) : Vr := (f.placedM (a0m (ratX x k).1 (ratX x k).2.1 (ratX x k).2.2.1 (ratX x k).2.2.2 f.g 1) 1).1
def okX (f : Fm) (x : Dv) (k : Nat) : Bool := decide ((g0o f x k).cls = 2 ∧ (g0o f x k).x.neg = x.neg ∧ (g0o f x k).x.m = x.m ∧ (g0o f x k).x.e = x.e)
theorem k0v {m : Nat} (h : 0 < m) (e : Int) : 0 < numP m e := Nat.mul_pos h (Nat.pow_pos (by omega))
theorem j1q {f : Fm} {x : Dv} (G : f0c f.g) (hb : Bare x) (hin : a0s x f.g = true) (h0 : x.m ≠ 0) {k : Nat} (hk : 2 ^ (wid f.g * f.g.digs.toNat) < 10 ^ (k - 1)) : g0o f x k = ⟨2, x.neg, x⟩ := by
 have hd1 := G.d1
 have wp := b0g f.g
 have hk1 : 1 ≤ k := by
  rcases Nat.eq_zero_or_pos k with h | h
  · subst h
    have : 0 < 2 ^ (wid f.g * f.g.digs.toNat) := Nat.pow_pos (by omega)
    rw [show 0 - 1 = 0 from rfl, Nat.pow_zero] at hk
    omega
  · exact h
 obtain ⟨n, z, r1, r2, r3, r4, r5, r6, r7⟩ := j1a hb G hin h0 (D := f.g.digs.toNat) (by omega) rfl
 generalize b0w x f.g = j at *
 obtain ⟨s, p, hsp⟩ : ∃ s p, numX x k = (s, p) := ⟨_, _, rfl⟩
 have hn0 : 0 < numP x.m x.e := k0v (by omega) x.e
 have hd0 : 0 < denP 1 x.e := e0l (by omega) x.e
 have hS := (o0g hn0 hd0 hk1 hsp).2.2.1
 have hS0 : a0n s ≠ 0 := by have := c0v (k - 1); omega
 unfold g0o ratX
 rw [hsp]
 obtain ⟨g, num, den, e, hr⟩ : ∃ g num den e, f0r ⟨x.neg, s, p - ((k - 1 : Nat) : Int)⟩ = (g, num, den, e) := ⟨_, _, _, _, rfl⟩
 obtain ⟨q1, q2, q3, q4⟩ := u0i hS0 hr
 simp only at q1 q4
 rw [hr]
 simp only
 obtain ⟨t, t1, t2, t3⟩ : ∃ t : Nat, 0 ≤ e + t ∧ 0 ≤ wid f.g * j + t ∧ 0 ≤ wid f.g * (j - 1) + t := ⟨(-e).toNat + (-(wid f.g * j)).toNat + (-(wid f.g * (j - 1))).toNat, by omega, by omega, by omega⟩
 obtain ⟨a, b, hab⟩ : ∃ a b : Nat, (a : Int) - b = p - ((k - 1 : Nat) : Int) := ⟨(p - ((k - 1 : Nat) : Int)).toNat, (-(p - ((k - 1 : Nat) : Int))).toNat, by omega⟩
 have q5 := q4 hab t1
 obtain ⟨n1, n2⟩ := e1k hn0 hd0 hk1 hsp hk (a := a) (b := b) (by omega)
 -- the number itself, over the same power of 2
 have hv : z * 2 ^ (wid f.g * j + t).toNat * denP 1 x.e = numP x.m x.e * 2 ^ t := by
  unfold numP denP
  rw [← r2, Nat.one_mul]
  have : 2 ^ n * 2 ^ (wid f.g * j + t : Int).toNat * 2 ^ (-x.e).toNat = 2 ^ x.e.toNat * 2 ^ t := by
   rw [← Nat.pow_add, ← Nat.pow_add, ← Nat.pow_add]; congr 1; omega
  calc _ = x.m * (2 ^ n * 2 ^ (wid f.g * j + t : Int).toNat * 2 ^ (-x.e).toNat) := by grind
   _ = _ := by rw [this]; grind
 obtain ⟨W, hW⟩ : ∃ W, W = 2 ^ (wid f.g * j + t : Int).toNat := ⟨_, rfl⟩
 obtain ⟨E, hE⟩ : ∃ E, E = num * 2 ^ (e + t).toNat := ⟨_, rfl⟩
 have hdt : 0 < den * 2 ^ t := Nat.mul_pos q3 (Nat.pow_pos (by omega))
 have hbd : 0 < 10 ^ b * denP 1 x.e := Nat.mul_pos (c0v b) hd0
 have R := b1a (neg := g) (num := num) (den := den) (e := e) q3 G r3 r4 r5 r6 r7 t1 t2 t3 (by
     rw [← hE]
     rw [← hE] at q5
     generalize 2 ^ (wid f.g * f.g.digs.toNat) = M at *
     rw [← hW] at hv ⊢
     refine Nat.lt_of_mul_lt_mul_right (a := 10 ^ b * denP 1 x.e) ?_
     have := Nat.mul_lt_mul_of_pos_right n1 hdt
     calc _ = 2 * M * (E * 10 ^ b) * denP 1 x.e := by grind
       _ = 2 * M * (a0n s * denP 1 x.e * 10 ^ a) * (den * 2 ^ t) := by rw [q5]; grind
       _ < _ := this
       _ = (2 * M + 1) * (numP x.m x.e * 2 ^ t) * den * 10 ^ b := by grind
       _ = _ := by rw [← hv]; grind) (by
     rw [← hE]
     rw [← hE] at q5
     generalize 2 ^ (wid f.g * f.g.digs.toNat) = M at *
     rw [← hW] at hv ⊢
     refine Nat.lt_of_mul_lt_mul_right (a := 10 ^ b * denP 1 x.e) ?_
     have := Nat.mul_lt_mul_of_pos_right n2 hdt
     calc _ = 2 * M * (z * W * denP 1 x.e) * den * 10 ^ b := by grind
       _ = 2 * M * (numP x.m x.e * 10 ^ b) * (den * 2 ^ t) := by rw [hv]; grind
       _ < _ := this
       _ = 2 * M * (a0n s * den * 10 ^ a * 2 ^ t) * denP 1 x.e + numP x.m x.e * 2 ^ t * den * 10 ^ b := by grind
       _ = _ := by rw [← hv, ← q5]; grind)
 obtain ⟨R1, R2, R3, R4⟩ := R
 unfold Fm.placedM
 rw [R4, if_neg (by simp), if_neg (fun h => by have := h.2.2; omega), if_neg (by omega), R1, R2, R3, q1]
 have hx : bare ⟨x.neg, z, wid f.g * j⟩ = x := by
  rw [← r2, show (wid f.g : Int) * j = x.e - n by omega]
  rw [d0r, show x.e - (n : Int) + n = x.e by omega]
  exact n0k hb
 rw [hx]
end Go.Slip
namespace Go.Slip
open Go.RowKit
/-! ### Slices of structs -/
structure b1g (P : Program) (t e : TypeId) (s bytes : Nat) : Prop where
 ht : P.underlying t = some (.slice e)
 hi : ∃ i z, P.info? e = some i ∧ i.zero = some z ∧ i.size = s ∧ i.bytes = bytes ∧ z.cells.size = s
 pos : 0 < s
 le : bytes ≤ 100
theorem y0y {P : Program} {t e : TypeId} {s bytes : Nat} {z : Value} (h1 : P.underlying t = some (.slice e)) (h2 : (P.info? e).map (fun i => (i.zero, i.size, i.bytes)) = some (some z, s, bytes)) (h3 : Nat.ble bytes 100 = true) (h4 : Nat.beq z.cells.size s = true) (h5 : Nat.ble 1 s = true) : b1g P t e s bytes := by
 refine ⟨h1, ?_, Nat.le_of_ble_eq_true h5, Nat.le_of_ble_eq_true h3⟩
 cases h : P.info? e with
 | none => rw [h] at h2; cases h2
 | some i =>
  rw [h] at h2
  simp only [Option.map_some, Option.some.injEq, Prod.mk.injEq] at h2
  exact ⟨i, z, rfl, h2.1, h2.2.1, h2.2.2, Nat.eq_of_beq_eq_true h4⟩
def OwnS (w : World) (base : Nat) (e : TypeId) (s : Nat) (p : OA) (c n : Nat) (vs : List Value) : Prop := w.ownsRow base e s (.slice p n c) n vs
theorem OwnS.nil (w : World) (base : Nat) (e : TypeId) (s : Nat) : OwnS w base e s none 0 0 [] := World.ownsRow_nil w base e s
section
variable {w w' : World} {base : Nat} {e : TypeId} {s : Nat} {p : OA} {c n : Nat} {vs : List Value}
theorem OwnS.form (h : OwnS w base e s p c n vs) : (p = none ∧ c = 0 ∧ n = 0 ∧ vs = []) ∨ ∃ g, p = some ⟨g, 0, none⟩ ∧ base ≤ g ∧ g < w.heap.size ∧ n ≤ c ∧ c ≤ maxLen := by
 rcases h.2 with ⟨h1, h2⟩ | ⟨g, cap, cur, hv, hb, hg, hn, hc, _, _⟩
 · left
   simp only [Value.slice.injEq] at h1
   refine ⟨h1.1, h1.2.2, h2, List.eq_nil_of_length_eq_zero ?_⟩
   rw [h.1, h2, Nat.zero_mul]
 · right
   simp only [Value.slice.injEq] at hv
   obtain ⟨rfl, _, rfl⟩ := hv
   exact ⟨g, rfl, hb, (Array.getElem?_eq_some_iff.1 hg).1, hn, hc⟩
theorem OwnS.blk_lt (h : OwnS w base e s p c n vs) (hp : p.isSome = true) : base ≤ blk p ∧ blk p < w.heap.size := by
 rcases h.form with ⟨rfl, _, _, rfl⟩ | ⟨g, rfl, h1, h2, _⟩
 · simp at hp
 · exact ⟨h1, h2⟩
theorem OwnS.mono {b' : Nat} (h : OwnS w base e s p c n vs) (hb : b' ≤ base) : OwnS w b' e s p c n vs := by
 refine ⟨h.1, ?_⟩
 rcases h.2 with h1 | ⟨g, cap, cur, hv, hbg, r⟩
 · exact .inl h1
 · exact .inr ⟨g, cap, cur, hv, by omega, r⟩
theorem OwnS.same (h : OwnS w base e s p c n vs) (hb : p.isSome = true → w'.heap[blk p]? = w.heap[blk p]?) : OwnS w' base e s p c n vs := by
 refine ⟨h.1, ?_⟩
 rcases h.2 with h1 | ⟨g, cap, cur, hv, hbg, hg, r⟩
 · exact .inl h1
 · simp only [Value.slice.injEq] at hv
   obtain ⟨rfl, h2, rfl⟩ := hv
   exact .inr ⟨g, c, cur, rfl, hbg, by rw [← hg]; exact hb rfl, r⟩
theorem OwnS.cell (h : OwnS w base e s p c n vs) {j : Nat} {u : Value} (hu : vs[j]? = some u) : w.cell? (at_ p j) = some u := by
 rcases h.form with ⟨_, _, _, rfl⟩ | ⟨g, rfl, _⟩
 · simp at hu
 · have := World.ownsRow.cells h (g := g) rfl j u hu
   rw [← this]
   unfold at_ Addr.add
   split <;> simp_all
theorem OwnS.solid (h : OwnS w base e s p c n vs) : h0m p n := by
 rcases h.form with ⟨_, _, rfl, _⟩ | ⟨g, rfl, _⟩
 · exact fun h => by simp at h
 · exact fun _ => ⟨rfl, rfl⟩
theorem OwnS.far (h : OwnS w base e s p c n vs) {b : Nat} {t : TypeId} {us : Array Value} (hX : Bt w b t us) (hne : Nat.beq t e = false) (hp : p.isSome = true) : blk p ≠ b := by
 rcases h.2 with ⟨h1, h2⟩ | ⟨g, cap, cur, hv, hb, hg, _⟩
 · simp only [Value.slice.injEq] at h1
   rw [h1.1] at hp; cases hp
 · simp only [Value.slice.injEq] at hv
   intro hE
   rw [hv.1] at hE
   have hE2 : g = b := hE
   subst hE2
   have hE3 := hg.symm.trans hX
   simp only [Option.some.injEq, Obj.cells.injEq] at hE3
   rw [hE3.2.1] at hne
   simp at hne
theorem OwnS.apart (h : OwnS w base e s p c n vs) {b2 : Nat} {k : IntKind} {e2 : TypeId} {q : OA} {c2 : Nat} {xs : List Nat} (o : Own w b2 k e2 q c2 xs) (hne : Nat.beq e2 e = false) (hp : p.isSome = true) : ¬ (q.isSome = true ∧ blk q = blk p) := by
 rintro ⟨hq, he⟩
 rcases h.2 with ⟨h1, h2⟩ | ⟨g, cap, cur, hv, hb, hg, _⟩
 · simp only [Value.slice.injEq] at h1
   rw [h1.1] at hp; cases hp
 · rcases o.2 with ⟨h1, h2⟩ | ⟨g', cap', cur', hv', hb', hg', _⟩
   · simp only [Value.slice.injEq] at h1
     rw [h1.1] at hq; cases hq
   · simp only [Value.slice.injEq] at hv hv'
     rw [hv.1, hv'.1] at he
     have hE : g' = g := he
     subst hE
     have := hg.symm.trans hg'
     simp only [Option.some.injEq, Obj.cells.injEq] at this
     rw [this.2.1] at hne
     simp at hne
end
def k0w (b : Nat) (e : TypeId) (s : Nat) (p : OA) (c n : Nat) (vs : List Value) : PF :=
 ⟨fun w => OwnS w b e s p c n vs, fun a => p.isSome = true ∧ blk p = a, fun _ _ h hb _ => h.same fun hp => hb _ (h.blk_lt hp).2 ⟨hp, rfl⟩, fun _ _ h hf => hf.2 ▸ (h.blk_lt hf.1).2⟩
section
variable {P : Program} {w : World}
theorem o0m {t e : TypeId} {s bytes : Nat} (hty : b1g P t e s bytes) {p : OA} {n c m : Nat} (hp : h0m p n) (hm : m < n) : (VO.ix t (.slice p n c) (.int .i64 (m : Int))).sem.run P w = .ok (.pointer (some (at_ p (m * s)))) w := by
 obtain ⟨i, z, hi, -, hs, -⟩ := hty.hi
 have hel : P.elem t = e := w0r hty.ht
 show (Instr.indexAt _ _ _).run P w = _
 rw [run_indexAt_solid w t p n c .i64 m (by rw [hel]; exact hty.ht) hp, if_pos (show (0 : Int) ≤ (m : Int) ∧ (m : Int) < (n : Int) by omega)]
 have hz : (sizeOf (P.elem t)).run P w = .ok s w := by
  rw [hel]
  simp [sizeOf, typeInfo, hi, hs]
 simp only [hz, Result.andThen_ok, Int.toNat_natCast]
theorem m0j {ty : TypeId} {base : Nat} {e : TypeId} {s : Nat} {p : OA} {c n : Nat} {vs : List Value} (hr : OwnS w base e s p c n vs) {k : Nat} (hT : m0p P ty k) {m : Nat} (cs : List Value) (hc : (vs.drop m).take cs.length = cs) (hn : cs.length = k) : (VO.ld ty (.pointer (some (at_ p m)))).sem.run P w = .ok (.agg cs.toArray) w := by
 obtain ⟨⟨d, hu, hd⟩, hi⟩ := hT
 show (Instr.loadAt _ _).run P w = _
 have hE : at_ p m = ⟨(at_ p m).block, (at_ p m).off, none⟩ := rfl
 rw [hE]
 refine run_loadAt_mid w _ _ ty cs d (fun j v hv => ?_) hu hd (by rw [hi, hn])
 have hj := (List.getElem?_eq_some_iff.1 hv).1
 rw [← hc, List.getElem?_take, if_pos hj, List.getElem?_drop] at hv
 have := hr.cell hv
 rw [← this]
 unfold at_
 simp only [Nat.add_assoc]
end
section
variable {P : Program} {ops : Array Oper} {rest : List Oper} {o : Oper} {a : Act} {Q : Exit → Act → World → Prop} {w : World} {K : Act → World → Prop}
theorem p1l (s x : Operand) (t ty : TypeId) {pos : String} {d : Option Tmp} {af : Array Edge} {g : Option (Nat × Bool)} (ho : o = ⟨d, .call { callee := .builtin .append, args := #[s, x], argTypes := #[t, t] }, ty, pos, af, g⟩)
 {e : TypeId} {sz bytes : Nat} (hty : b1g P t e sz bytes) (base : Nat) (p : OA) (n c : Nat) (vs : List Value) (hown : OwnS w base e sz p c n vs)
 (q : Addr) (m c2 : Nat) (ys : List Value) (hl : ys.length = m * sz) (hnews : ∀ j u, ys[j]? = some u → w.cell? (q.add j) = some u) (hone : ys.all (·.oneCell') = true) (hs : a.eval s = .slice p n c) (hx : a.eval x = .slice (some q) m c2)
 (hb : n + m ≤ 1000000000) (hbase : base ≤ w.heap.size) (hw : Region.wanted o (yielded ops a.tmps) = true)
 (h : ∀ p' c' w', OwnS w' base e sz p' c' (n + m) (vs ++ ys) → w.grownBy w' (p.map (·.block)) → (p'.isSome = true → (p.isSome = true ∧ blk p' = blk p) ∨ blk p' = w.heap.size) → K (a.put d (.slice p' (n + m) c')) w') : OpW P ops Q o K a w := by
 obtain ⟨i, z, hi, hz, hs1, hbt, hzs⟩ := hty.hi
 obtain ⟨v', w', hr, hO, hg, hnn, hat⟩ := run_append_own_at (P := P) w base t ty e i z sz bytes hty.ht hi hz hs1 hbt hzs hty.pos _ _ _ hown q m c2 ys hl hnews (fun u hu => List.all_eq_true.1 hone u hu) (by simp only [maxLen]; omega)
  (by have := Nat.mul_le_mul hb hty.le; omega) hbase
 have hv : ∃ p' c', v' = .slice p' (n + m) c' := by
  rcases hO.2 with ⟨h1, h2⟩ | ⟨g, cap, cur, h1, _⟩
  · exact ⟨none, 0, by rw [h1, h2]⟩
  · exact ⟨_, _, h1⟩
 obtain ⟨p', c', rfl⟩ := hv
 have hg' : w.grownBy w' (p.map (·.block)) := by cases p <;> exact hg
 refine ⟨?_⟩
 rw [if_pos hw]
 subst ho
 unfold Oper.wp execOp
 simp only [resolve, invoke, builtin, Sem.run_bind, Sem.run_pure, Result.andThen_ok, List.map_toArray, List.map_cons, List.map_nil, hs, hx, hr]
 refine h p' c' w' hO hg' fun hp' => ?_
 cases p' with
 | none => cases hp'
 | some a' =>
  rcases hat with h1 | h1
  · cases p with
    | none => cases h1
    | some b =>
     left
     exact ⟨rfl, Option.some.inj h1⟩
  · exact .inr (Option.some.inj h1)
end
/-! ### A block that was handed in -/
theorem Bt.far {w : World} {b b' : Nat} {t t' : TypeId} {vs us : Array Value} (h : Bt w b t vs) (hX : Bt w b' t' us) (hne : Nat.beq t t' = false) : ¬ (b = b') := by
 intro e
 subst e
 have := h.symm.trans hX
 simp only [Option.some.injEq, Obj.cells.injEq] at this
 rw [this.2.1] at hne
 simp at hne
def btF (b : Nat) (t : TypeId) (vs : Array Value) : PF :=
 ⟨fun w => Bt w b t vs, fun a => b = a, fun _ _ h hb _ => (hb b h.lt rfl).trans h, fun _ _ h hf => hf ▸ h.lt⟩
theorem n1h {P : Program} {w : World} {b : Nat} {t : TypeId} {vs : Array Value} (h : Bt w b t vs) {ty k : Nat} (hT : m0p P ty k) {m : Nat} (cs : List Value) (hc : (vs.toList.drop m).take cs.length = cs) (hn : cs.length = k) : (VO.ld ty (.pointer (some (at_ (some ⟨b, 0, none⟩) m)))).sem.run P w = .ok (.agg cs.toArray) w := by
 have := m1n h hT m cs hc hn
 show (Instr.loadAt _ _).run P w = _
 unfold at_
 simpa using this
theorem x0b {α : Type} {s : Nat} {f : α → List Value} (hf : ∀ x, (f x).length = s) : ∀ {xs : List α} {i : Nat} {x : α}, xs[i]? = some x → ((xs.flatMap f).drop (i * s)).take (f x).length = f x
 | [], _, _, h => by simp at h
 | a :: l, 0, x, h => by
  simp only [List.getElem?_cons_zero, Option.some.injEq] at h
  subst h
  rw [Nat.zero_mul, List.drop_zero, List.flatMap_cons, List.take_left']
  rfl
 | a :: l, i + 1, x, h => by
  rw [List.getElem?_cons_succ] at h
  have := x0b hf h
  rw [List.flatMap_cons, Nat.add_mul, Nat.one_mul, Nat.add_comm, ← List.drop_drop, List.drop_left' (hf a)]
  exact this
theorem Kp.toBelow {u : Nat} {w w' : World} {t : TypeId} {vs : Array Value} (h : Kp [u] w w') (U : Bt w u t vs) (U' : Bt w' u t vs) : Below w.heap.size w w' :=
 ⟨h.os, h.tape, h.output, h.size, fun k hk => by
   by_cases e : k = u
   · subst e; exact Eq.trans U' (Eq.symm U)
   · exact h.block k hk (by simp [e])⟩
/-! ### Steps -/
def l0z : List Box → Bool
 | [] => true
 | b :: l => match b.ro with | true => false | false => l0z l
theorem g0p : ∀ {l : List Box}, l0z l = true → ∀ k, k < l.length → (lk bx0 l k).ro = false
 | [], _, _, h => by simp at h
 | b :: l, h, k, hk => by
  unfold l0z at h
  split at h
  · cases h
  · rename_i hb
    cases k with
    | zero => exact hb
    | succ k => exact g0p h k (by simpa using hk)
section
variable {P : Program} {Q : Exit → Act → World → Prop} {E : List Nat} {w0 : World} {A : List Nat} {fs : List PF} {W V : World} {c : Cfg}
theorem Inv.grown {W' : World} {bx : List Box} {b : Nat} {e : TypeId} {s : Nat} {p p' : OA} {cc c' n n' : Nat} {vs vs' : List Value} (I : Inv E w0 A bx (k0w b e s p cc n vs :: fs) W) (hb : w0.heap.size ≤ b) (hrw : l0z bx = true)
 (hO : OwnS W' b e s p' c' n' vs') (hg : W.grownBy W' (p.map (·.block))) (hat : p'.isSome = true → (p.isSome = true ∧ blk p' = blk p) ∨ blk p' = W.heap.size) (hfar : p.isSome = true → PF.far (blk p) fs) :
 Inv E w0 A bx (k0w b e s p' c' n' vs' :: fs) W' := by
 have hrow := I.fa.1
 have hne : ∀ k, p.map (·.block) = some k → p.isSome = true ∧ blk p = k := fun k h => by
  cases p with
  | none => cases h
  | some a => exact ⟨rfl, Option.some.inj h⟩
 have keep : ∀ k, k < W.heap.size → (p.isSome = true → blk p ≠ k) → W'.heap[k]? = W.heap[k]? := fun k hk h => hg.block k hk fun e => by
  obtain ⟨h1, h2⟩ := hne k e.symm
  exact h h1 h2
 refine ⟨⟨hg.os.trans I.bel.os, hg.tape.trans I.bel.tape, hg.output.trans I.bel.output, Nat.le_trans I.bel.size hg.size, fun k hk hkE => ?_⟩, I.ge, I.nd, I.len, I.pre, fun k hk => ?_, ⟨hO, ?_⟩, fun a ha => ⟨fun hf => ?_, (I.far a ha).2⟩⟩
 · rw [keep k (Nat.lt_of_lt_of_le hk I.bel.size) fun hp => by have := (hrow.blk_lt hp).1; omega]
   exact I.bel.block k hk hkE
 · have hF : Fa A bx (lk 0 A k) := ⟨k, hk, g0p hrw k hk, rfl⟩
   have h1 := I.bt k hk
   unfold Bt at h1 ⊢
   rw [keep _ (I.lt _ hF) fun hp e => (I.far _ hF).1 ⟨hp, e⟩]
   exact h1
 · refine PF.all_keep hg.size I.fa.2 fun k hk ha => keep k hk fun hp => ha _ (hfar hp)
 · rcases hat hf.1 with ⟨hp, h⟩ | h
   · exact (I.far a ha).1 ⟨hp, h.symm.trans hf.2⟩
   · have := I.lt a ha
     have := hf.2
     omega
def apOf (c : Cfg) (A : List Nat) : Option (TypeId × Value × Value) :=
 match hdOp c with
 | some ⟨_, .call ⟨.builtin .append, ⟨[s, x]⟩, ⟨[t, t']⟩⟩, _, _, _, _⟩ => match Nat.beq t t' with
  | true => some (t, evr A c.fr s, evr A c.fr x)
  | false => none
 | _ => none
theorem zap {e : TypeId} {sz : Nat} {p : OA} {cc n : Nat} {vs : List Value} (I : Inv E w0 A c.bx (k0w w0.heap.size e sz p cc n vs :: fs) W) {t : TypeId} {bytes : Nat} (hty : b1g P t e sz bytes) (k m : Nat) (news : List Nat → List Value)
 (hbox : ∀ A W, Inv E w0 A (zr P none c).bx (k0w w0.heap.size e sz p cc n vs :: fs) W → Bt W (lk 0 A k) e (news A).toArray) (hcap : n + m ≤ 1000000000)
 (hfar : ∀ A W, Inv E w0 A (zr P none c).bx (k0w w0.heap.size e sz p cc n vs :: fs) W → p.isSome = true → PF.far (blk p) fs)
 (h : ∀ A W p' c', (p'.isSome = true → PF.far (blk p') fs) → Inv E w0 A (putc (zr P none c) (.v (.slice p' (n + m) c'))).bx (k0w w0.heap.size e sz p' c' (n + m) (vs ++ news A) :: fs) W → G P Q A (putc (zr P none c) (.v (.slice p' (n + m) c'))) W)
 (hl : ∀ A, Nat.beq (news A).length (m * sz) = true := by intro _; kernel_rfl) (hone : ∀ A, (news A).all (·.oneCell') = true := by intro _; kernel_rfl)
 (ho : ∀ A, apOf (zr P none c) A = some (t, .slice p n cc, .slice (some ⟨lk 0 A k, 0, none⟩) m m) := by intro _; kernel_rfl)
 (hr : ∀ A w, (zms P none 5000 c A w).map (·.1) = (zms P none 5000 c A w).map (·.2) := by intro _ _; kernel_rfl)
 (hrw : l0z (zr P none c).bx = true := by kernel_rfl)
 (hm : ok1 (zr P none c).rg (zr P none c).bx = ok2 (zr P none c).rg := by kernel_rfl) : G P Q A c W :=
 b0d I hr fun A W I => by
  have ho2 := ho A
  have h2 := h A
  have hbox2 := hbox A W I
  have hfar2 := hfar A W I
  have hl2 := hl A
  have hone2 := hone A
  clear hr ho h hbox hfar hl hone
  generalize zr P none c = c at *
  unfold apOf hdOp at ho2
  split at ho2
  · rename_i hn'
    split at ho2
    · rename_i hbeq
      have htt := Nat.eq_of_beq_eq_true hbeq
      subst htt
      simp only [Option.some.injEq, Prod.mk.injEq] at ho2
      obtain ⟨rfl, ho1, ho2⟩ := ho2
      split at hn'
      · rename_i o' hn
        split at hn'
        · rename_i hw
          simp only [Option.some.injEq] at hn'
          subst hn'
          refine G_op (E := E) (w0 := w0) (fs := []) hn fun K hK => p1l _ _ _ _ rfl hty w0.heap.size p n cc vs I.fa.1 ⟨lk 0 A k, 0, none⟩ m m (news A) (Nat.eq_of_beq_eq_true hl2) (fun j u hu => ?_) hone2 (by rw [b0j]; exact ho1) (by rw [b0j]; exact ho2) hcap I.bel.size (by rw [d0k]; exact hw) fun p' c' W' hO hg hat => ?_
          · have := hbox2.bx.cell j
            rw [show (⟨lk 0 A k, 0, none⟩ : Addr).add j = ⟨lk 0 A k, j, none⟩ by unfold Addr.add; split <;> simp_all, this]
            simpa using hu
          · have I2 := I.grown (Nat.le_refl _) hrw hO hg hat hfar2
            have hq : p'.isSome = true → PF.far (blk p') fs := fun hp => by
             rcases hat hp with ⟨h1, h3⟩ | h1
             · rw [h3]; exact hfar2 h1
             · rw [h1]; exact PF.far_new I.fa.2
            have h := h2 W' p' c' hq I2
            unfold putc at h
            rw [hn] at h
            have := hK A W' _ c.bx (List.prefix_refl _) (I2.pick []) hm h
            rw [show Value.slice p' (n + m) c' = (SV.v (.slice p' (n + m) c')).r A from rfl, c0a]
            exact this
        · cases hn'
      · cases hn'
    · cases ho2
  · cases ho2
theorem Inv.newb {bx : List Box} (I : Inv E w0 A bx fs V) (hb : Below V.heap.size V W) {b : Nat} {t : TypeId} {cs : List SV} (hge : V.heap.size ≤ b) (hB : Bt W b t (cs.map (SV.r A)).toArray) (h1 : wfL bx.length cs = true) (h2 : wfB bx.length bx = true) :
 Inv E w0 (A ++ [b]) (bx ++ [⟨t, cs, false⟩]) fs W := by
 have I' := I.past hb
 have hl : ∀ k, k < bx.length → lk 0 (A ++ [b]) k = lk 0 A k ∧ lk bx0 (bx ++ [⟨t, cs, false⟩]) k = lk bx0 bx k := fun k h => ⟨d0l 0 (by rw [I.len]; exact h), d0l bx0 h⟩
 have hn : lk 0 (A ++ [b]) bx.length = b ∧ lk bx0 (bx ++ [⟨t, cs, false⟩]) bx.length = ⟨t, cs, false⟩ := ⟨by rw [← I.len, d0t], d0t _⟩
 have hF : ∀ a, Fa (A ++ [b]) (bx ++ [⟨t, cs, false⟩]) a → Fa A bx a ∨ a = b := fun a ⟨k, hk, hr, e⟩ => by
  rw [List.length_append, List.length_singleton] at hk
  by_cases h : k < bx.length
  · rw [(hl k h).2] at hr
    rw [(hl k h).1] at e
    exact .inl ⟨k, h, hr, e⟩
  · obtain rfl : k = bx.length := by omega
    exact .inr (e.trans hn.1)
 refine ⟨I'.bel, fun a ha => ?_, fun i j hi hj hr hne => ?_, by simp [I.len], I.pre.trans (List.prefix_append _ _), fun k hk => ?_, I'.fa, fun a ha => ?_⟩
 · rcases hF a ha with h | rfl
   · exact I.ge a h
   · exact .inl (Nat.le_trans I.bel.size hge)
 · rw [List.length_append, List.length_singleton] at hi hj
   by_cases h : i < bx.length
   · rw [(hl i h).2] at hr
     by_cases h' : j < bx.length
     · rw [(hl i h).1, (hl j h').1]
       exact I.nd i j h h' hr hne
     · obtain rfl : j = bx.length := by omega
       rw [(hl i h).1, hn.1]
       have := (I.bt i h).lt
       omega
   · obtain rfl : i = bx.length := by omega
     have h' : j < bx.length := by omega
     rw [(hl j h').1, hn.1]
     have := (I.bt j h').lt
     omega
 · rw [List.length_append, List.length_singleton] at hk
   by_cases h : k < bx.length
   · rw [(hl k h).1, (hl k h).2]
     have := I'.bt k h
     unfold Box.row at this ⊢
     rw [p0j _ I.len (n0u h2 k)]
     exact this
   · obtain rfl : k = bx.length := by omega
     rw [hn.1, hn.2]
     unfold Box.row
     simp only
     rw [p0j _ I.len h1]
     exact hB
 · rcases hF a ha with h | rfl
   · exact I'.far a h
   · have : ∀ {l : List PF}, PF.all V l → PF.far a l := fun {l} hl => by
      induction l with
      | nil => exact True.intro
      | cons f l ih => exact ⟨fun hf => by have := f.lt V _ hl.1 hf; omega, ih hl.2⟩
     exact this I.fa
theorem s1l {A' : List Nat} {c' : Cfg} (hA : A <+: A') (he : act A c.fr = act A' c'.fr) (h1 : c'.rg = c.rg) (h2 : c'.ks = c.ks) (h : G P Q A' c' W) : G P Q A c W := by
 refine ⟨?_⟩
 have h := h.out
 unfold m1u at *
 obtain ⟨fr, bx, rg, ks⟩ := c
 obtain ⟨fr', bx', rg', ks'⟩ := c'
 simp only at *
 subst h1 h2
 rw [he]
 cases rg' with
 | off => exact h
 | pl => exact h
 | dr ops A0 m fuel listed => exact fun pre => h (pre.on hA)
 | one ops A0 m fuel listed i => exact fun pre => h (pre.on hA)
 | ret => exact h
theorem b1h {bxv : List Box} (I : Inv E w0 A bxv fs V) (hb : Below V.heap.size V W) (k b : Nat) (t : TypeId) (cs : List Value) (hge : V.heap.size ≤ b) (hB : Bt W b t cs.toArray)
 (h : ∀ A', lk 0 A' k = b → Inv E w0 A' (c.bx ++ [⟨t, cs.map .v, false⟩]) fs W → G P Q A' ⟨c.fr, c.bx ++ [⟨t, cs.map .v, false⟩], c.rg, c.ks⟩ W)
 (hbv : bxv = c.bx := by kernel_rfl) (hk : c.bx.length = k := by kernel_rfl) (h1 : wfL c.bx.length (cs.map SV.v) = true := by kernel_rfl) (h2 : wfB c.bx.length c.bx = true := by kernel_rfl) (h3 : wfL c.bx.length c.fr = true := by kernel_rfl) : G P Q A c W := by
 subst hbv
 have hcs : ∀ A, (cs.map SV.v).map (SV.r A) = cs := fun A => by
  rw [List.map_map]
  exact List.map_id _
 have I2 := I.newb hb (cs := cs.map SV.v) hge (by rw [hcs]; exact hB) h1 h2
 refine s1l (A' := A ++ [b]) (c' := ⟨c.fr, c.bx ++ [⟨t, cs.map .v, false⟩], c.rg, c.ks⟩) (List.prefix_append _ _) ?_ rfl rfl (h _ ?_ I2)
 · unfold act
   simp only
   rw [p0j _ I.len h3]
 · rw [← hk, ← I.len, d0t]
theorem b1i (I : Inv E w0 A c.bx fs W) (d k b : Nat) (hk : lk 0 A k = b) (h : ∀ A W, Inv E w0 A (putc (zr P (some d) c) (.p k 0)).bx fs W → G P Q A (putc (zr P (some d) c) (.p k 0)) W)
 (hkl : Nat.ble (k + 1) c.bx.length = true := by kernel_rfl)
 (hv : w0m P (zr P (some d) c) = some (.val (.v (.pointer (some ⟨b, 0, none⟩)))) := by kernel_rfl)
 (hc : ∀ A w, (f0p P (zr P (some d) c) A w).map (·.1) = (f0p P (zr P (some d) c) A w).map (·.2) := by intro _ _; kernel_rfl)
 (hr : ∀ A w, (zms P (some d) 5000 c A w).map (·.1) = (zms P (some d) 5000 c A w).map (·.2) := by intro _ _; kernel_rfl)
 (hm : ok1 (zr P (some d) c).rg (zr P (some d) c).bx = ok2 (zr P (some d) c).rg := by kernel_rfl) : G P Q A c W := by
 refine l0s 5000 I (fun A w => g0a (hr A w)) fun A' W' hA I' => ?_
 rw [← r1v] at I' ⊢
 refine r1x I' _ (.p k 0) ?_ (h A' W') hv (fun A w => g0a (hc A w)) hm
 show Value.pointer (some ⟨b, 0, none⟩) = .pointer (some ⟨lk 0 A' k, 0, none⟩)
 rw [t0v hA (by rw [I.len]; exact h0k hkl), hk]
theorem j0w {α : Type} (d : α) {l : List α} {n k : Nat} (h : k < n) : lk d (l.take n) k = lk d l k := by
 rw [d0e, d0e, List.getElem?_take, if_pos h]
theorem Inv.dropB {bx : List Box} (I : Inv E w0 A bx fs W) (n : Nat) (hE : E.length ≤ n) (hw : wfB n (bx.take n) = true) (hn : n ≤ bx.length) : Inv E w0 (A.take n) (bx.take n) fs W := by
 have hl : (bx.take n).length = n := by rw [List.length_take]; omega
 have hla : (A.take n).length = n := by rw [List.length_take, I.len]; omega
 have hF : ∀ a, Fa (A.take n) (bx.take n) a → Fa A bx a := fun a ⟨k, hk, hr, e⟩ => by
  rw [hl] at hk
  rw [j0w _ hk] at hr e
  exact ⟨k, by omega, hr, e⟩
 refine ⟨I.bel, fun a ha => I.ge a (hF a ha), fun i j hi hj hr hne => ?_, by rw [hl, hla], ?_, fun k hk => ?_, I.fa, fun a ha => I.far a (hF a ha)⟩
 · rw [hl] at hi hj
   rw [j0w _ hi] at hr
   rw [j0w _ hi, j0w _ hj]
   exact I.nd i j (by omega) (by omega) hr hne
 · exact List.prefix_take_iff.2 ⟨I.pre, hE⟩
 · rw [hl] at hk
   have h1 := I.bt k (by omega)
   rw [j0w _ hk, j0w _ hk]
   unfold Box.row at h1 ⊢
   have hw2 := n0u hw k
   rw [j0w _ hk] at hw2
   have h2 := p0j (A := A.take n) (A.drop n) hla hw2
   rw [List.take_append_drop] at h2
   rw [← h2]
   exact h1
theorem o0n (n : Nat) (I : Inv E w0 A c.bx fs W) (J : Act → World → Prop) {fr : (Nat → Value) → List SV} {bx : (Nat → Value) → List Box} (h : ∀ A W U, Inv E w0 A (bx U) fs W → J (act A (fr U)) W)
 (hr : ∀ A w, (zms P none 5000 c A w).map (·.1) = (zms P none 5000 c A w).map (·.2) := by intro _ _; kernel_rfl)
 (hf : ∀ A, (zr P none c).fr.map (SV.r A) = (fr (uOf (zr P none c) A)).map (SV.r A) := by intro _; kernel_rfl)
 (hb : ∀ A, (zr P none c).bx.take n = bx (uOf (zr P none c) A) := by intro _; kernel_rfl)
 (hw : ∀ U, wfL n (fr U) = true := by intro _; kernel_rfl) (hw2 : wfB n ((zr P none c).bx.take n) = true := by kernel_rfl) (hn : Nat.ble n (zr P none c).bx.length = true := by kernel_rfl) (hE : Nat.ble E.length n = true := by kernel_rfl)
 (hs : n1b (zr P none c) = some J := by kernel_rfl) : G P Q A c W :=
 b0d I hr fun A W I => by
  have I2 := I.dropB n (Nat.le_of_ble_eq_true hE) hw2 (Nat.le_of_ble_eq_true hn)
  rw [hb A] at I2
  have h := h (A.take n) W (uOf (zr P none c) A) I2
  have hf := hf A
  have hla : (A.take n).length = n := by rw [List.length_take, I.len]; exact Nat.min_eq_left (Nat.le_of_ble_eq_true hn)
  have h3 := p0j (A := A.take n) (A.drop n) hla (hw (uOf (zr P none c) A))
  rw [List.take_append_drop] at h3
  unfold act at h
  rw [← h3, ← hf] at h
  clear hb hf h3 hw hw2 hn I2
  generalize zr P none c = c at *
  refine ⟨?_⟩
  obtain ⟨cf, cb, rg, ks⟩ := c
  cases rg with
  | pl => cases hs
  | dr => cases hs
  | one => cases hs
  | ret => cases hs
  | off =>
   cases ks with
   | nil => cases hs
   | cons k ks =>
    cases k with
    | block => cases hs
    | code => cases hs
    | stop J' =>
     obtain rfl : J' = J := Option.some.inj hs
     exact h
theorem zgfe (I : Inv E w0 A c.bx fs W) (k : Nat) (t : TypeId) {f : FuncId} {args : List Nat → World → Array Value} {post : List Nat → World → Ending → World → Prop} (hf : ∀ args w, (callFunc f args).run P w = .ok (.enter f args) w)
 (hc : ∀ A W, Inv E w0 A (zr P none c).bx fs W → Calls P f (args A W) W (post A W))
 (h : ∀ A V, Inv E w0 A (zr P none c).bx fs V → w0.heap.size ≤ V.heap.size → ∀ K : Value → World → Prop, (∀ v cs W, Kp [lk 0 A k] V W → Bt W (lk 0 A k) t (cs.map (SV.r A)).toArray → (Inv E w0 A (p0k (zr P none c) k cs (.v v)).bx fs W → G P Q A (p0k (zr P none c) k cs (.v v)) W) → K v W) → ∀ e W, post A V e W → ∃ v, e = .returned v ∧ K v W)
 (ho : ∀ A w, t0w (zr P none c) A = some (.func (.func f) #[] #[], args A w) := by intro _ _; kernel_rfl)
 (hr : ∀ A w, (zms P none 5000 c A w).map (·.1) = (zms P none 5000 c A w).map (·.2) := by intro _ _; kernel_rfl)
 (hm : ∀ cs, ok1 (zr P none c).rg (setL (zr P none c).bx k ⟨(lk bx0 (zr P none c).bx k).t, cs, false⟩) = ok2 (zr P none c).rg := by intro _; kernel_rfl) (hk : wrOk (zr P none c) k = true := by kernel_rfl)
 (ht : (lk bx0 (zr P none c).bx k).t = t := by kernel_rfl) : G P Q A c W :=
 b0d I hr fun A V I => m1x I k (hc A V I) (by rw [ht]; exact h A V I I.bel.size) (r0o (ho A V) (hf _)) hm hk
theorem Inv.owns {bx : List Box} (I : Inv E w0 A bx fs W) {b : Nat} {e : TypeId} {s : Nat} {p : OA} {cc n : Nat} {vs : List Value} (o : OwnS W b e s p cc n vs) (hb : w0.heap.size ≤ b := by first | exact Nat.le_refl _ | assumption | omega) (hne : r0w e bx = true := by kernel_rfl) :
 Inv E w0 A bx (k0w w0.heap.size e s p cc n vs :: fs) W :=
 I.add (k0w w0.heap.size e s p cc n vs) (o.mono hb) fun a ha hf => by
  obtain ⟨j, hj, _, rfl⟩ := ha
  exact o.far (I.bt j hj) (g0m hne j hj) hf.1 hf.2
end
end Go.Slip
