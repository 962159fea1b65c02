/- A walk that reckons: returns, drawn regions, loops, facts. No program is in sight here. -/
import Derived.Laws.Sem
import Derived.Deep.LoopGhost
import Derived.Lib.ConvBytes
import Derived.Deep.RegionLaw
import Derived.Test.YtpgomglbaacmdaaGreatDoorTSa1
import Derived.Test.YtpgomglbaacmdaaGreatDoorTSa2
set_option maxHeartbeats 8000000
set_option maxRecDepth 100000
namespace Go.Slip
open Go.RowKit
/-! ### What a function answers -/
def resO (P : Program) (c : Cfg) : List ResultVar → Option (List SV)
 | [] => some []
 | .tmp t :: l => match resO P c l with
  | some r => some (lk (.v undef) c.fr t :: r)
  | none => none
 | .cell a ty :: l => match lk (.v undef) c.fr a with
  | .p k off => match ldB P c.bx ty k off with
   | some x => match resO P c l with
    | some r => some (x :: r)
    | none => none
   | none => none
  | _ => none
def resV (A : List Nat) : Option (List SV) → Option Value
 | some [x] => some (x.r A)
 | some l => some (.tuple (l.map (SV.r A)).toArray)
 | none => none
def r1u (c : Cfg) : Bool :=
 match c.rg with
 | .ret => true
 | .off => match c.ks with
  | [] => true
  | _ => false
 | _ => false
section
variable {P : Program} {fn : Func} {R : Ending → World → Prop} {E : List Nat} {w0 : World} {A : List Nat} {fs : List PF} {W : World} {c : Cfg} {o : Oper}
theorem s0t (I : Inv E w0 A c.bx fs W) : ∀ (rs : List ResultVar) {xs : List SV}, resO P c rs = some xs → (rs.mapM (rvS (act A c.fr).tmps)).run P W = .ok (xs.map (SV.r A)) W
 | [], xs, h => by
  simp only [resO, Option.some.injEq] at h
  subst h
  rfl
 | .tmp t :: l, xs, h => by
  unfold resO at h
  split at h
  · rename_i r hr
    simp only [Option.some.injEq] at h
    subst h
    have ih := s0t I l hr
    rw [List.mapM_cons]
    simp only [rvS, Sem.run_bind, Sem.run_pure, Result.andThen_ok, ih, List.map_cons]
    congr 3
    exact congrFun (c0a A c.fr) (.tmp t)
  · cases h
 | .cell a ty :: l, xs, h => by
  unfold resO at h
  split at h
  · rename_i k off hp
    split at h
    · rename_i x hx
      split at h
      · rename_i r hr
        simp only [Option.some.injEq] at h
        subst h
        have ih := s0t I l hr
        have h2 := m1u (P := P) I.ok hx
        have he : (act A c.fr).tmps.getD a undef = .pointer (some ⟨lk 0 A k, off, none⟩) := by
         have := congrFun (c0a A c.fr) (.tmp a)
         refine this.trans ?_
         show SV.r A (lk (.v undef) c.fr a) = _
         rw [hp]; rfl
        simp only [Instr.loadAt, Instr.sureAddr, Sem.run_bind, Sem.run_pure, Result.andThen_ok] at h2
        rw [List.mapM_cons]
        simp only [rvS, he, asAddr, Sem.run_bind, Sem.run_pure, Result.andThen_ok, h2, ih, List.map_cons]
      · cases h
    · cases h
  · cases h
theorem o1m (I : Inv E w0 A c.bx fs W) {v : Value} (h : resV A (resO P c fn.results.toList) = some v) : (results fn (act A c.fr).tmps).run P W = .ok v W := by
 cases hx : resO P c fn.results.toList with
 | none => rw [hx] at h; cases h
 | some xs =>
  rw [hx] at h
  have := s0t I _ hx
  rw [c1b, ← Array.toArray_toList (xs := fn.results), List.mapM_toArray]
  rw [Sem.run_bind]
  simp only [map_eq_pure_bind, Sem.run_bind, this, Result.andThen_ok, Sem.run_pure]
  congr 1
  match xs, h with
  | [], h => simpa [resV] using h
  | [x], h => simpa [resV] using h
  | x :: y :: l, h => simpa [resV] using h
theorem zret (I : Inv E w0 A c.bx fs W) {v : List Nat → Value} (h : ∀ A W, Inv E w0 A (zr P none c).bx fs W → R (.returned (v A)) W)
 (hv : ∀ A, resV A (resO P (zr P none c) fn.results.toList) = some (v A) := by intro _; kernel_rfl)
 (hr : ∀ A w, (zms P none 5000 c A w).map (·.1) = (zms P none 5000 c A w).map (·.2) := by intro _ _; kernel_rfl)
 (hi : r1u (zr P none c) = true := by kernel_rfl) : G P (bodyPost P fn R) A c W :=
 b0s I hr fun A W I => by
  have hv9 := o1m I (hv A)
  have h9 := h A W I
  clear h hv
  generalize zr P none c = c at *
  refine ⟨?_⟩
  obtain ⟨fr, bx, rg, ks⟩ := c
  cases rg with
  | ret =>
   have : ∀ ks, post P (bodyPost P fn R) ks .ret (act A fr) W := fun ks => by
    induction ks with
    | nil => exact ⟨rfl, _, hv9, h9⟩
    | cons k ks ih => cases k <;> exact ih
   exact this ks
  | off =>
   cases ks with
   | nil => exact ⟨rfl, _, hv9, h9⟩
   | cons => cases hi
  | pl => cases hi
  | dr => cases hi
  | one => cases hi
theorem zrb (I : Inv [] w0 A c.bx fs W) {v : Value}
 (hv : ∀ A, resV A (resO P (zr P none c) fn.results.toList) = some v := by intro _; kernel_rfl)
 (hr : ∀ A w, (zms P none 5000 c A w).map (·.1) = (zms P none 5000 c A w).map (·.2) := by intro _ _; kernel_rfl)
 (hi : r1u (zr P none c) = true := by kernel_rfl) : G P (bodyPost P fn fun en w' => en = .returned v ∧ Below w0.heap.size w0 w') A c W :=
 zret (v := fun _ => v) I (fun _ _ I => ⟨rfl, I.below⟩) hv hr hi
end
/-! ### Drawn regions -/
def g0w (Q : Exit → Act → World → Prop) : Prop := ∀ ch a d v w, Q (.panic ch) (Act.put a d v) w → Q (.panic ch) a w
theorem e0e {P : Program} {fn : Func} {R : Ending → World → Prop} : g0w (bodyPost P fn R) := fun ch a d v w h => by
 cases d <;> exact h
theorem f0w {P : Program} {Q : Exit → Act → World → Prop} (hQ : g0w Q) : ∀ ks, g0w (post P Q ks)
 | [] => hQ
 | .code _ :: ks => fun ch a d v w h => f0w hQ ks ch a d v w h
 | .block _ :: ks => fun ch a d v w h => f0w hQ ks ch a d v w h
 | .stop _ :: ks => fun ch a d v w h => f0w hQ ks ch a d v w h
def memN (k : Nat) : List Nat → Bool
 | [] => false
 | x :: l => match Nat.beq k x with | true => true | false => memN k l
def mkM (ex : List Nat) : Nat → List Box → List (Option Box)
 | _, [] => []
 | k, b :: l => (match memN k ex with | true => none | false => some b) :: mkM ex (k + 1) l
theorem e1s (ex : List Nat) : ∀ (l : List Box) (k : Nat), (mkM ex k l).length = l.length
 | [], _ => rfl
 | _ :: l, k => by simp [mkM, e1s ex l]
theorem x0x (ex : List Nat) : ∀ (l : List Box) (k : Nat), msk (mkM ex k l) l = mkM ex k l
 | [], _ => rfl
 | b :: l, k => by
  unfold mkM
  split
  · simp [msk, x0x ex l]
  · simp [msk, x0x ex l]
def r1v (c : Cfg) : Bool :=
 match c.rg, c.ks with
 | .off, .code (.region _ _ true) :: _ => true
 | _, _ => false
def r1w (ex : List Nat) (c : Cfg) (A : List Nat) : Cfg :=
 match c.rg, c.ks with
 | .off, .code (.region _ ops true) :: ks => ⟨c.fr, c.bx, .dr ops A (mkM ex 0 c.bx) ops.size (Array.replicate ops.size false), ks⟩
 | _, _ => c
def s0u (P : Program) (i : Nat) (c : Cfg) : Cfg :=
 match c.rg with
 | .dr ops A0 m (fuel + 1) listed => match ops[i]? with
  | some o => match wnt ops c.fr o with
   | false => ⟨putO c.fr o.dst (.v undef), c.bx, .dr ops A0 m fuel (listed.setIfInBounds i true), c.ks⟩
   | true => match eff P (m.map unm) c.fr o with
    | .val x => ⟨putO c.fr o.dst x, c.bx, .dr ops A0 m fuel (listed.setIfInBounds i true), c.ks⟩
    | _ => c
  | none => c
 | _ => c
def x0y (P : Program) (i : Nat) (c : Cfg) : Bool :=
 match c.rg with
 | .dr ops _ m (_ + 1) listed => match ops[i]? with
  | some o => match Region.noSelect ops && Region.free .any ops listed i && (Region.ready .any ops listed).contains i with
   | true => match wnt ops c.fr o with
    | false => true
    | true => match eff P (m.map unm) c.fr o with
     | .val _ => true
     | _ => false
   | false => false
  | none => false
 | _ => false
def c0y (P : Program) (i : Nat) (c : Cfg) (A : List Nat) (w : World) : List (Result Next × Result Next) :=
 match c.rg with
 | .dr ops _ m _ _ => match ops[i]? with
  | some o => match wnt ops c.fr o with
   | false => []
   | true => o0n P (m.map unm) c.fr o A w
  | none => []
 | _ => []
def o1n (P : Program) : List Nat → Cfg → Cfg
 | [], c => c
 | i :: is, c => o1n P is (s0u P i c)
def e1t (P : Program) : List Nat → Cfg → Bool
 | [], _ => true
 | i :: is, c => match x0y P i c with | true => e1t P is (s0u P i c) | false => false
def s0v (P : Program) : List Nat → Cfg → List Nat → World → List (Result Next × Result Next)
 | [], _, _, _ => []
 | i :: is, c, A, w => c0y P i c A w ++ s0v P is (s0u P i c) A w
def dk1 : Rg → List Box → List (Option Box)
 | .dr _ _ m _ _, bx => msk m bx
 | _, _ => []
def dk2 : Rg → List (Option Box)
 | .dr _ _ m _ _ => m
 | _ => []
def o1o (c : Cfg) : Prop := dk1 c.rg c.bx = dk2 c.rg
def x0z (c : Cfg) : Option (List Nat) :=
 match c.rg with
 | .dr ops _ _ (_ + 1) listed => some (Region.ready .any ops listed)
 | _ => none
def oneC (i : Nat) (c : Cfg) : Cfg :=
 match c.rg with
 | .dr ops A0 m (fuel + 1) listed => ⟨c.fr, c.bx, .one ops A0 m fuel listed i, c.ks⟩
 | _ => c
section
variable {P : Program} {Q : Exit → Act → World → Prop} {E : List Nat} {w0 : World} {A : List Nat} {fs : List PF} {W : World} {c : Cfg} {o : Oper}
theorem r1x {A0 : List Nat} {m : List (Option Box)} {w : World} (h : PreD A0 m A) (hS : SB A0 m w) : BtOk A (m.map unm) w := fun k hk hc => by
 have := hS k hk hc
 rw [List.length_map] at hk
 rw [a1d h.pre (by have := h.le; omega), e1p h.pre h.wf]
 exact this
theorem y0a (hQ : g0w Q) (I : Inv E w0 A c.bx fs W) (hm : o1o c) (i : Nat) (h : G P Q A (s0u P i c) W) (ho : x0y P i c = true) (hc : ∀ A w, o0o (c0y P i c A w)) : G P Q A c W := by
 refine ⟨?_⟩
 have h := h.out
 obtain ⟨fr, bx, rg, ks⟩ := c
 cases rg with
 | off => cases ho
 | pl => cases ho
 | one => cases ho
 | ret => cases ho
 | dr ops A0 m fuel listed =>
  cases fuel with
  | zero => cases ho
  | succ fuel =>
   unfold x0y at ho
   unfold s0u at h
   unfold c0y at hc
   simp only at ho h hc
   intro pre
   split at ho
   · rename_i o hi
     rw [hi] at h hc
     split at ho
     · rename_i h1
       simp only [Bool.and_eq_true] at h1
       obtain ⟨⟨h1, h2⟩, h3⟩ := h1
       have hS : SB A0 m W := e1q I pre hm
       have hP := fun (x : Value) c a w => f0w (P := P) hQ ks c a o.dst x w
       cases hw : wnt ops fr o with
       | false =>
        simp only [hw] at h
        have h : WpH P ops (post P Q ks) (SB A0 m) fuel (listed.setIfInBounds i true) (act A (putO fr o.dst (.v undef))) W := h pre
        rw [← d0b] at h
        exact s0p i o.dst undef _ hi rfl rfl h1 h2 h3 (hP undef) (.inr ⟨by rw [f0c]; exact hw, rfl⟩) hS h
       | true =>
        simp only [hw] at h ho hc
        split at ho
        · rename_i x hx
          rw [hx] at h
          simp only at h
          have h : WpH P ops (post P Q ks) (SB A0 m) fuel (listed.setIfInBounds i true) (act A (putO fr o.dst x)) W := h pre
          rw [← d0b] at h
          exact s0p i o.dst (x.r A) _ hi rfl rfl h1 h2 h3 (hP _) (.inl ⟨by rw [f0c]; exact hw, fun w' hS' => s0r (r1x pre hS') hx (hc A w')⟩) hS h
        · cases ho
     · cases ho
   · cases ho
theorem e1u (i : Nat) (hm : o1o c) : o1o (s0u P i c) := by
 obtain ⟨fr, bx, rg, ks⟩ := c
 cases rg with
 | dr ops A0 m fuel listed =>
  cases fuel with
  | zero => exact hm
  | succ fuel =>
   unfold s0u
   simp only
   split
   · split
     · exact hm
     · split
       · exact hm
       · exact hm
   · exact hm
 | _ => exact hm
theorem j1l (i : Nat) : (s0u P i c).bx = c.bx := by
 unfold s0u
 repeat' split
 all_goals rfl
theorem zk (is : List Nat) (I : Inv E w0 A c.bx fs W) (h : Inv E w0 A (nrm (o1n P is c)).bx fs W → G P Q A (nrm (o1n P is c)) W) (ho : e1t P is c = true := by kernel_rfl)
 (hc : ∀ A w, (s0v P is c A w).map (·.1) = (s0v P is c A w).map (·.2) := by intro _ _; kernel_rfl) (hm : dk1 c.rg c.bx = dk2 c.rg := by kernel_rfl) (hQ : g0w Q := by exact e0e) : G P Q A c W := by
 rw [e1o] at h
 replace hc := fun A w => g0j (hc A w)
 induction is generalizing c with
 | nil => exact h I
 | cons i is ih =>
  unfold e1t at ho
  split at ho
  · rename_i h1
    refine y0a hQ I hm i (ih (by rw [j1l]; exact I) h ho (e1u i hm) fun A w => (e0c (hc A w)).2) h1 fun A w => (e0c (hc A w)).1
  · cases ho
theorem zd (ex : List Nat) (I : Inv E w0 A c.bx fs W) (h : ∀ A W, Inv E w0 A (r1w ex (zr P none c) A).bx fs W → G P Q A (r1w ex (zr P none c) A) W)
 (hr : ∀ A w, (zms P none 5000 c A w).map (·.1) = (zms P none 5000 c A w).map (·.2) := by intro _ _; kernel_rfl)
 (hd : r1v (zr P none c) = true := by kernel_rfl) (hw : wfB (zr P none c).bx.length ((mkM ex 0 (zr P none c).bx).map unm) = true := by kernel_rfl) (hm : P.follows .mixedOrders = true := by kernel_rfl) : G P Q A c W :=
 b0s I hr fun A W I => by
  have h := h A
  generalize zr P none c = c at *
  refine ⟨?_⟩
  obtain ⟨fr, bx, rg, ks⟩ := c
  cases rg with
  | pl => cases hd
  | dr => cases hd
  | one => cases hd
  | ret => cases hd
  | off =>
   cases ks with
   | nil => cases hd
   | cons k ks =>
    cases k with
    | block => cases hd
    | stop => cases hd
    | code x =>
     cases x with
     | region id ops b =>
      cases b with
      | false => cases hd
      | true =>
       have I2 := I.past (W' := W.drew) (Below.refl _ _).drew
       have hp : PreD A (mkM ex 0 bx) A := ⟨List.prefix_refl _, by rw [e1s, I.len]; exact Nat.le_refl _, by rw [I.len]; exact hw⟩
       have h := (h W.drew I2).out
       exact sxd P _ rfl (e1q I2 hp (x0x ex bx 0)) (h hp) hm
     | _ => cases hd
theorem zor (rs : List Nat) (h : ∀ i ∈ rs, G P Q A (oneC i c) W) (hr : x0z c = some rs) (hne : rs.isEmpty = false) : G P Q A c W := by
 refine ⟨?_⟩
 obtain ⟨fr, bx, rg, ks⟩ := c
 cases rg with
 | off => cases hr
 | pl => cases hr
 | one => cases hr
 | ret => cases hr
 | dr ops A0 m fuel listed =>
  cases fuel with
  | zero => cases hr
  | succ fuel =>
   intro pre
   refine j1g rs (Option.some.inj hr) hne ?_
   clear hr hne
   induction rs with
   | nil => exact o1i
   | cons i rs ih =>
    obtain ⟨o, ho, hk⟩ := (h i (by simp)).out pre
    exact j1h _ ho rfl hk (ih fun j hj => h j (by simp [hj]))
theorem y0b (i : Nat) : (oneC i c).bx = c.bx := by
 unfold oneC
 split <;> rfl
theorem zo (i : Nat) (I : Inv E w0 A c.bx fs W) (h : Inv E w0 A (oneC i c).bx fs W → G P Q A (oneC i c) W) (hr : x0z c = some [i] := by kernel_rfl) : G P Q A c W := zor [i] (fun j hj => by rw [List.mem_singleton] at hj; subst hj; exact h (by rw [y0b]; exact I)) hr rfl
theorem zo2 (i j : Nat) (I : Inv E w0 A c.bx fs W) (h : Inv E w0 A (oneC i c).bx fs W → G P Q A (oneC i c) W) (k : Inv E w0 A (oneC j c).bx fs W → G P Q A (oneC j c) W) (hr : x0z c = some [i, j] := by kernel_rfl) : G P Q A c W :=
 zor [i, j] (fun x hx => by simp only [List.mem_cons, List.not_mem_nil, or_false] at hx; rcases hx with rfl | rfl <;> first | exact h (by rw [y0b]; exact I) | exact k (by rw [y0b]; exact I)) hr rfl
def oneN (P : Program) (c : Cfg) : Cfg :=
 match nxt c.rg with
 | some o => match aft c.bx c.fr o.dst (eff P c.bx c.fr o) with
  | some (fr, bx) => ⟨fr, bx, rgN c.rg, c.ks⟩
  | none => c
 | none => c
def m1z (P : Program) (c : Cfg) : Bool :=
 match nxt c.rg with
 | some o => match wnt (s0s c.rg) c.fr o with
  | true => match aft c.bx c.fr o.dst (eff P c.bx c.fr o) with
   | some _ => true
   | none => false
  | false => false
 | none => false
theorem zn (I : Inv E w0 A c.bx fs W) (h : ∀ A W, Inv E w0 A (nrm (oneN P c)).bx fs W → G P Q A (nrm (oneN P c)) W) (ho : m1z P c = true := by kernel_rfl)
 (hc : ∀ A w, (g0d P c A w).map (·.1) = (g0d P c A w).map (·.2) := by intro _ _; kernel_rfl) (hm : ok1 c.rg (oneN P c).bx = ok2 c.rg := by kernel_rfl) : G P Q A c W := by
 rw [e1o] at h
 have hc := g0j (hc A W)
 unfold m1z at ho
 unfold g0d at hc
 unfold oneN at h hm
 split at ho
 · rename_i o hn
   rw [hn] at h hc hm
   simp only at h hc hm
   split at ho
   · rename_i hw
     split at ho
     · rename_i r ha
       obtain ⟨fr, bx⟩ := r
       rw [ha] at h hm
       simp only at h hm
       exact G_op (E := E) (w0 := w0) (fs := fs) hn fun K hK => m1v I hw hc ha fun A' W' hA I' => hK A' W' _ _ hA I' hm (h A' W' I')
     · cases ho
   · cases ho
 · cases ho
/-! ### Loops, and where ways come together -/
def n1a (c : Cfg) : Option (Code × List Kt) :=
 match c.rg, c.ks with
 | .off, .code (.loop b) :: ks => some (b, ks)
 | _, _ => none
def n1b (c : Cfg) (fr : List SV) (bx : List Box) (J : Act → World → Prop) : Cfg :=
 match n1a c with
 | some (b, ks) => ⟨fr, bx, .off, .code b :: .stop J :: ks⟩
 | none => c
def uOf (c : Cfg) (A : List Nat) : Nat → Value := fun i => (lk (.v undef) c.fr i).r A
abbrev vu : SV := .v undef
def su : Nat → List SV → List SV
 | 0, l => l
 | n + 1, l => .v undef :: su n l
def sw (U : Nat → Value) : Nat → Nat → List SV → List SV
 | _, 0, l => l
 | i, n + 1, l => .v (U i) :: sw U (i + 1) n l
theorem g0e (I : Inv E w0 A c.bx fs W) (L : Nat → List SV → List Box → List PF → Prop) (n0 : Nat) {fr : List Nat → (Nat → Value) → List SV} {bx : List Nat → (Nat → Value) → List Box}
 (h0 : ∀ A W U, Inv E w0 A (bx A U) fs W → ∃ gs, L n0 (fr A U) (bx A U) gs ∧ Inv E w0 A (bx A U) gs W)
 (h : ∀ J n fr bx gs, L n fr bx gs → (∀ n' fr' bx' gs' A W, n' < n → L n' fr' bx' gs' → Inv E w0 A bx' gs' W → J (act A fr') W) → ∀ A W, Inv E w0 A (n1b (zr P none c) fr bx J).bx gs W → G P Q A (n1b (zr P none c) fr bx J) W)
 (hr : ∀ A w, (zms P none 5000 c A w).map (·.1) = (zms P none 5000 c A w).map (·.2) := by intro _ _; kernel_rfl)
 (hf : ∀ A, (zr P none c).fr.map (SV.r A) = (fr A (uOf (zr P none c) A)).map (SV.r A) := by intro _; kernel_rfl)
 (hb : ∀ A, (zr P none c).bx = bx A (uOf (zr P none c) A) := by intro _; kernel_rfl)
 (hl : (n1a (zr P none c)).isSome = true := by kernel_rfl) : G P Q A c W :=
 b0s I hr fun A W I => by
  have h9 := h0 A W (uOf (zr P none c) A) (by rw [← hb A]; exact I)
  have hf := hf A
  clear h0 hb
  generalize zr P none c = c at *
  refine ⟨?_⟩
  obtain ⟨gs, h9, I9⟩ := h9
  obtain ⟨cf, cb, rg, ks⟩ := c
  cases rg with
  | pl => cases hl
  | dr => cases hl
  | one => cases hl
  | ret => cases hl
  | off =>
   cases ks with
   | nil => cases hl
   | cons k ks =>
    cases k with
    | block => cases hl
    | stop => cases hl
    | code b =>
     cases b with
     | loop b =>
      refine wp_loop_ghost (fun n a w => ∃ fr bx gs A, L n fr bx gs ∧ a = act A fr ∧ Inv E w0 A bx gs w) n0 ⟨_, _, gs, A, h9, by unfold act; rw [hf], I9⟩ ?_
      rintro n a w ⟨fr, bx, gs, A, hL, rfl, I⟩
      exact (h (fun a w => ∃ n', n' < n ∧ ∃ fr bx gs A, L n' fr bx gs ∧ a = act A fr ∧ Inv E w0 A bx gs w) n fr bx gs hL (fun n' fr' bx' gs' A W hn hL I => ⟨n', hn, fr', bx', gs', A, hL, rfl, I⟩) A w I).out
     | _ => cases hl
def n1c (c : Cfg) : Option (Act → World → Prop) :=
 match c.rg, c.ks with
 | .off, .stop J :: _ => some J
 | _, _ => none
theorem a0i (I : Inv E w0 A c.bx fs W) (J : Act → World → Prop) {fr : List Nat → (Nat → Value) → List SV} {bx : List Nat → (Nat → Value) → List Box} (h : ∀ A W U, Inv E w0 A (bx A U) fs W → J (act A (fr A U)) W)
 (hr : ∀ A w, (zms P none 5000 c A w).map (·.1) = (zms P none 5000 c A w).map (·.2) := by intro _ _; kernel_rfl)
 (hf : ∀ A, (zr P none c).fr.map (SV.r A) = (fr A (uOf (zr P none c) A)).map (SV.r A) := by intro _; kernel_rfl)
 (hb : ∀ A, (zr P none c).bx = bx A (uOf (zr P none c) A) := by intro _; kernel_rfl)
 (hs : n1c (zr P none c) = some J := by kernel_rfl) : G P Q A c W :=
 b0s I hr fun A W I => by
  have h := h A W (uOf (zr P none c) A) (by rw [← hb A]; exact I)
  have hf := hf A
  clear hb
  unfold act at h
  rw [← hf] at h
  generalize zr P none c = c at *
  refine ⟨?_⟩
  obtain ⟨cf, cb, rg, ks⟩ := c
  cases rg with
  | pl => cases hs
  | dr => cases hs
  | one => cases hs
  | ret => cases hs
  | off =>
   cases ks with
   | nil => cases hs
   | cons k ks =>
    cases k with
    | block => cases hs
    | code => cases hs
    | stop J' =>
     obtain rfl : J' = J := Option.some.inj hs
     exact h
def cut1 (c : Cfg) (J : Act → World → Prop) : Cfg :=
 match c.ks with
 | k :: ks => ⟨c.fr, c.bx, c.rg, k :: .stop J :: ks⟩
 | [] => c
def cut2 (c : Cfg) (fr : List SV) (bx : List Box) : Cfg :=
 match c.ks with
 | _ :: ks => ⟨fr, bx, .off, ks⟩
 | [] => c
def r1y (c : Cfg) : Bool :=
 match c.rg, c.ks with
 | .off, .code _ :: _ => true
 | _, _ => false
theorem zcut (I : Inv E w0 A c.bx fs W) (d : Option Nat) (L : List SV → List Box → List PF → Prop)
 (h1 : ∀ J, (∀ fr bx gs A W, L fr bx gs → Inv E w0 A bx gs W → J (act A fr) W) → ∀ A W, Inv E w0 A (cut1 (zr P d c) J).bx fs W → G P Q A (cut1 (zr P d c) J) W)
 (h2 : ∀ fr bx gs, L fr bx gs → ∀ A W, Inv E w0 A (cut2 (zr P d c) fr bx).bx gs W → G P Q A (cut2 (zr P d c) fr bx) W)
 (hr : ∀ A w, (zms P d 5000 c A w).map (·.1) = (zms P d 5000 c A w).map (·.2) := by intro _ _; kernel_rfl)
 (hi : r1y (zr P d c) = true := by kernel_rfl) : G P Q A c W :=
 b0s I hr fun A W I => by
  have h1 := fun J hJ => h1 J hJ A W
  have h2 := fun fr bx gs hL A W I => (h2 fr bx gs hL A W I).out
  generalize zr P d c = c at *
  refine ⟨?_⟩
  obtain ⟨cf, cb, rg, ks⟩ := c
  cases rg with
  | pl => cases hi
  | dr => cases hi
  | one => cases hi
  | ret => cases hi
  | off =>
   cases ks with
   | nil => cases hi
   | cons k ks =>
    cases k with
    | block => cases hi
    | stop => cases hi
    | code b =>
     refine wp_mono (h1 (fun a w => ∃ fr bx gs A, L fr bx gs ∧ a = act A fr ∧ Inv E w0 A bx gs w) (fun fr bx gs A W hL I => ⟨fr, bx, gs, A, hL, rfl, I⟩) I).out ?_
     intro e a w hq
     cases e with
     | normal =>
      obtain ⟨fr, bx, gs, A, hL, rfl, I⟩ := hq
      exact h2 fr bx gs hL A w I
     | exit id => exact hq
     | goto l => exact hq
     | ret => exact hq
     | panic ch => exact hq
     | outgrown => exact hq
def l0l (i : Nat) (y : SV) (c : Cfg) : Cfg :=
 match c.rg with
 | .dr ops A0 m (fuel + 1) listed => match ops[i]? with
  | some o => ⟨putO c.fr o.dst y, c.bx, .dr ops A0 m fuel (listed.setIfInBounds i true), c.ks⟩
  | none => c
 | _ => c
def o0q (P : Program) (i : Nat) (c : Cfg) : Option Eff :=
 match c.rg with
 | .dr ops _ m (_ + 1) listed => match ops[i]? with
  | some o => match Region.noSelect ops && Region.free .any ops listed i && (Region.ready .any ops listed).contains i && wnt ops c.fr o with
   | true => some (eff P (m.map unm) c.fr o)
   | false => none
  | none => none
 | _ => none
theorem a1g (i : Nat) (y : SV) : (l0l i y c).bx = c.bx := by
 unfold l0l
 repeat' split
 all_goals rfl
theorem ztk (i : Nat) (I : Inv E w0 A c.bx fs W) (x y : SV) (hxy : ∀ A, x.r A = y.r A) (h : Inv E w0 A (l0l i y c).bx fs W → G P Q A (l0l i y c) W) (hv : o0q P i c = some (.val x) := by kernel_rfl)
 (hc : ∀ A w, (c0y P i c A w).map (·.1) = (c0y P i c A w).map (·.2) := by intro _ _; kernel_rfl) (hm : dk1 c.rg c.bx = dk2 c.rg := by kernel_rfl) (hQ : g0w Q := by exact e0e) : G P Q A c W := by
 refine ⟨?_⟩
 have h := (h (by rw [a1g]; exact I)).out
 replace hc := fun A w => g0j (hc A w)
 obtain ⟨cf, cb, rg, ks⟩ := c
 cases rg with
 | off => cases hv
 | pl => cases hv
 | one => cases hv
 | ret => cases hv
 | dr ops A0 m fuel listed =>
  cases fuel with
  | zero => cases hv
  | succ fuel =>
   unfold o0q at hv
   unfold l0l at h
   unfold c0y at hc
   simp only at hv h hc
   intro pre
   split at hv
   · rename_i o hi
     rw [hi] at h hc
     split at hv
     · rename_i h1
       simp only [Bool.and_eq_true] at h1
       obtain ⟨⟨⟨h1, h2⟩, h3⟩, hw⟩ := h1
       have hS : SB A0 m W := e1q I pre hm
       have hx := Option.some.inj hv
       simp only [hw] at hc
       have h : WpH P ops (post P Q ks) (SB A0 m) fuel (listed.setIfInBounds i true) (act A (putO cf o.dst y)) W := h pre
       rw [← d0b, ← hxy] at h
       exact s0p i o.dst (x.r A) _ hi rfl rfl h1 h2 h3 (fun c a w => f0w (P := P) hQ ks c a o.dst (x.r A) w) (.inl ⟨by rw [f0c]; exact hw, fun w' hS' => s0r (r1x pre hS') hx (hc A w')⟩) hS h
     · cases hv
   · cases hv
def e1v (i : Nat) (c : Cfg) (A : List Nat) : Option (BinOp × Value × Value) :=
 match c.rg with
 | .dr ops _ _ (_ + 1) listed => match ops[i]? with
  | some o => match Region.noSelect ops && Region.free .any ops listed i && (Region.ready .any ops listed).contains i && wnt ops c.fr o with
   | true => match o.op with
    | .binOp b _ x y _ => some (b, evr A c.fr x, evr A c.fr y)
    | _ => none
   | false => none
  | none => none
 | _ => none
theorem s0w (i : Nat) (I : Inv E w0 A c.bx fs W) {b : BinOp} {X Y : Value} (v : Value) (hx : ∀ t x y W, (do eqGuard b t x y X Y; binOp b t X Y : Sem Value).run P W = .ok v W) (h : Inv E w0 A (l0l i (.v v) c).bx fs W → G P Q A (l0l i (.v v) c) W)
 (hv : e1v i c A = some (b, X, Y) := by kernel_rfl) (hm : dk1 c.rg c.bx = dk2 c.rg := by kernel_rfl) (hQ : g0w Q := by exact e0e) : G P Q A c W := by
 refine ⟨?_⟩
 have h := (h (by rw [a1g]; exact I)).out
 obtain ⟨cf, cb, rg, ks⟩ := c
 cases rg with
 | off => cases hv
 | pl => cases hv
 | one => cases hv
 | ret => cases hv
 | dr ops A0 m fuel listed =>
  cases fuel with
  | zero => cases hv
  | succ fuel =>
   unfold e1v at hv
   unfold l0l at h
   simp only at hv h
   intro pre
   split at hv
   · rename_i o hi
     rw [hi] at h
     split at hv
     · rename_i h1
       simp only [Bool.and_eq_true] at h1
       obtain ⟨⟨⟨h1, h2⟩, h3⟩, hw⟩ := h1
       split at hv
       · rename_i b' t' x y t2 hop
         simp only [Option.some.injEq, Prod.mk.injEq] at hv
         obtain ⟨rfl, e1, e2⟩ := hv
         have hS : SB A0 m W := e1q I pre hm
         have h : WpH P ops (post P Q ks) (SB A0 m) fuel (listed.setIfInBounds i true) (act A (putO cf o.dst (.v v))) W := h pre
         rw [← d0b] at h
         refine s0p i o.dst v _ hi rfl rfl h1 h2 h3 (fun c a w => f0w (P := P) hQ ks c a o.dst v w) (.inl ⟨by rw [f0c]; exact hw, fun w' _ => ?_⟩) hS h
         rw [c0a]
         unfold execOp
         have := hx t' x y w'
         simp only [hop, e1, e2, Sem.run_bind] at this ⊢
         rw [this]
         rfl
       · cases hv
     · cases hv
   · cases hv
theorem zkm (i : Nat) (I : Inv E w0 A c.bx fs W) (k : IntKind) (t e : Int) (hp : t = e) (h : Inv E w0 A (l0l i (.v (.int k e)) c).bx fs W → G P Q A (l0l i (.v (.int k e)) c) W) (hv : o0q P i c = some (.val (.v (.int k t))) := by kernel_rfl)
 (hc : ∀ A w, (c0y P i c A w).map (·.1) = (c0y P i c A w).map (·.2) := by intro _ _; kernel_rfl) (hm : dk1 c.rg c.bx = dk2 c.rg := by kernel_rfl) (hQ : g0w Q := by exact e0e) : G P Q A c W :=
 ztk i I (.v (.int k t)) (.v (.int k e)) (fun _ => by rw [hp]) h hv hc hm hQ
theorem zki (i : Nat) (I : Inv E w0 A c.bx fs W) (k : IntKind) (t e : Int) (hp : k.wrap t = e) (h : Inv E w0 A (l0l i (.v (.int k e)) c).bx fs W → G P Q A (l0l i (.v (.int k e)) c) W) (hv : o0q P i c = some (.val (.v (.int k (k.wrap t)))) := by kernel_rfl)
 (hc : ∀ A w, (c0y P i c A w).map (·.1) = (c0y P i c A w).map (·.2) := by intro _ _; kernel_rfl) (hm : dk1 c.rg c.bx = dk2 c.rg := by kernel_rfl) (hQ : g0w Q := by exact e0e) : G P Q A c W :=
 ztk i I (.v (.int k (k.wrap t))) (.v (.int k e)) (fun _ => by show Value.int k (k.wrap t) = .int k e; rw [hp]) h hv hc hm hQ
theorem zkb (i : Nat) (I : Inv E w0 A c.bx fs W) (e b : Bool) (hp : e = b) (h : Inv E w0 A (l0l i (.v (.bool b)) c).bx fs W → G P Q A (l0l i (.v (.bool b)) c) W) (hv : o0q P i c = some (.val (.v (.bool e))) := by kernel_rfl)
 (hc : ∀ A w, (c0y P i c A w).map (·.1) = (c0y P i c A w).map (·.2) := by intro _ _; kernel_rfl) (hm : dk1 c.rg c.bx = dk2 c.rg := by kernel_rfl) (hQ : g0w Q := by exact e0e) : G P Q A c W :=
 ztk i I (.v (.bool e)) (.v (.bool b)) (fun _ => by rw [hp]) h hv hc hm hQ
end
section walk
variable {P : Program} {ops : Array Oper} {rest : List Oper} {o : Oper} {a : Act} {K : Act → World → Prop} {Q : Exit → Act → World → Prop} {w : World}
end walk
theorem Own.kept {w w' : World} {base : Nat} {k : IntKind} {e : TypeId} {p q : OA} {c : Nat} {xs : List Nat} (h : Own w base k e p c xs) (hg : w.grownBy w' (q.map (·.block))) (hne : q.isSome = true → p.isSome = true → blk q ≠ blk p) : Own w' base k e p c xs := by
 refine h.grown hg fun hp => ?_
 cases q with
 | none => simp
 | some a =>
  have := hne rfl hp
  simp [blk] at this ⊢
  exact fun e => this e.symm
end Go.Slip
namespace Go.Proofs.YtpgomglbaacmdaaGreatDoor
open Go.RowKit Go.Slip
end Go.Proofs.YtpgomglbaacmdaaGreatDoor
namespace Go.Slip
open Go.RowKit
theorem Rd.pre {w : World} {k : IntKind} {p : OA} {xs ys : List Nat} (h : Rd w k p (xs ++ ys)) : Rd w k p xs := by
 have hl : (xs ++ ys).length = xs.length + ys.length := List.length_append
 refine ⟨fun h0 => h.solid (by omega), fun j hj => ?_⟩
 rw [h.cells j (by omega)]
 unfold dg
 rw [List.getElem?_append_left hj]
theorem e1w {P : Program} {t e : TypeId} (h : P.underlying t = some (.slice e)) : P.elem t = e := by
 unfold Program.elem
 rw [h]
section
variable {P : Program} {ops : Array Oper} {Q : Exit → Act → World → Prop} {a : Act} {w : World} {rest : List Oper} {o : Oper}
end
def a0b (s : ByteArray) : List Nat := s.data.toList.map UInt8.toNat
theorem a0q (s : ByteArray) : (a0b s).length = s.size := by unfold a0b; rw [List.length_map, Array.length_toList]; rfl
theorem r0f (s : ByteArray) (j : Nat) (h : j < s.size) : (s[j]'h).toNat = dg (a0b s) j := by
 rw [a0s (by rw [a0q]; exact h)]
 simp [a0b]; rfl
theorem j0n (s : ByteArray) : ∀ x ∈ a0b s, x < 256 := by
 intro x hx
 obtain ⟨u, _, rfl⟩ := List.mem_map.1 hx
 exact u.toNat_lt
theorem d0g (s : ByteArray) (i j : Nat) : a0b (s.extract i j) = ((a0b s).take j).drop i := by
 unfold a0b
 rw [ByteArray.data_extract, Array.toList_extract, List.extract_eq_take_drop]
 rw [← List.map_take, ← List.map_drop, List.drop_take]
def a1h (s : ByteArray) : Prop := ∀ j, j < s.size → 48 ≤ dg (a0b s) j ∧ dg (a0b s) j ≤ 57
theorem f0i {w : World} {B : Nat} (hB : B ≤ w.heap.size) (e : TypeId) (s : ByteArray) : Below B w (Lib.bytesWorld w e s) := by
 refine ⟨?_, ?_, ?_, by rw [Lib.bytesWorld_size]; omega, fun i hi => Lib.bytesWorld_at_old w e s i (by omega)⟩
 all_goals (unfold Lib.bytesWorld World.freeze; split <;> rfl)
theorem l0m (w : World) (e : TypeId) (s : ByteArray) : Rd (Lib.bytesWorld w e s) .u8 (some ⟨w.heap.size, 0, none⟩) (a0b s) := by
 refine ⟨fun _ => ⟨rfl, rfl⟩, fun j hj => ?_⟩
 have hj2 : j < s.size := by rw [← a0q]; exact hj
 have h := Lib.bytesWorld_cell w e s j hj2
 simp only [at_, Option.getD_some, Nat.zero_add]
 rw [h, a0s hj]
 simp [a0b, List.getD, hj2]
section walk
variable {P : Program} {ops : Array Oper} {rest : List Oper} {o : Oper} {a : Act} {K : Act → World → Prop} {Q : Exit → Act → World → Prop} {w : World}
theorem j1m (x : Operand) (src dst : TypeId) (ho : o.op = .convert src dst x) {e : TypeId} (hs : P.underlying src = some .string) (hd : P.underlying dst = some (.slice e)) (he : P.underlying e = some (.int .u8))
 (s : ByteArray) (hx : a.eval x = .string s) (h : ∀ p' c' w', Rd w' .u8 p' (a0b s) → Below w.heap.size w w' → K (a.put o.dst (.slice p' s.size c')) w') : o.wp P a w K Q := by
 unfold Oper.wp execOp
 simp only [ho, hx]
 have hr := Lib.run_convert_string_bytes (P := P) w src dst e s hs hd he
 simp [hr, Oper.upon]
 exact h _ _ _ (l0m w e s) (f0i (Nat.le_refl _) e s)
theorem v0i (hgd : o.guard = none) (x : Operand) (src dst : TypeId) (ho : o.op = .convert src dst x) {e : TypeId} (hs : P.underlying src = some .string) (hd : P.underlying dst = some (.slice e)) (he : P.underlying e = some (.int .u8))
 (s : ByteArray) (hx : a.eval x = .string s) (h : ∀ p' c' w', Rd w' .u8 p' (a0b s) → Below w.heap.size w w' → wpList P ops Q rest (a.put o.dst (.slice p' s.size c')) w') : wpList P ops Q (o :: rest) a w :=
 wpList_plain hgd fun _ hK => j1m x src dst ho hs hd he s hx fun p' c' w' h900 h901 => hK _ _ (h p' c' w' h900 h901)
end walk
structure RdV (w : World) (p : OA) (vs : List Value) : Prop where
 solid : m0p p vs.length
 cells : ∀ j, j < vs.length → w.cell? (at_ p j) = vs[j]?
theorem RdV.nil (w : World) (p : OA) : RdV w p [] := ⟨fun h => by simp at h, fun j hj => by simp at hj⟩
theorem RdV.lt {w : World} {p : OA} {vs : List Value} (h : RdV w p vs) (h0 : 0 < vs.length) : blk p < w.heap.size :=
 World.block_lt_of_cell? w (at_ p 0) (u := vs[0]) (by rw [h.cells 0 h0, List.getElem?_eq_getElem h0])
theorem RdV.same {w w' : World} {p : OA} {vs : List Value} (h : RdV w p vs) (hb : 0 < vs.length → w'.heap[blk p]? = w.heap[blk p]?) : RdV w' p vs :=
 ⟨h.solid, fun j hj => by rw [World.cell?_of_block (w := w) (a := at_ p j) (hb (by omega))]; exact h.cells j hj⟩
theorem RdV.below {w w' : World} {B : Nat} {p : OA} {vs : List Value} (h : RdV w p vs) (hb : Below B w w') (hp : 0 < vs.length → blk p < B) : RdV w' p vs :=
 h.same fun h0 => hb.block _ (hp h0)
theorem RdV.past {w w' : World} {p : OA} {vs : List Value} (h : RdV w p vs) (hb : Below w.heap.size w w') : RdV w' p vs :=
 h.below hb fun h0 => h.lt h0
theorem RdV.drop {w : World} {p : OA} {vs : List Value} (h : RdV w p vs) (n : Nat) : RdV w (p.map (·.add n)) (vs.drop n) := by
 refine ⟨fun h0 => ?_, fun j hj => ?_⟩
 · have h1 := h.solid (by simp at h0; omega)
   refine ⟨by simpa using h1.1, ?_⟩
   rw [s0g p n h1.1]
   unfold Addr.add
   split
   · exact h1.2
   · rfl
 · simp only [List.length_drop] at hj
   have h1 := h.solid (by omega)
   rw [d1s p n j h1.1, h.cells (n + j) (by omega), List.getElem?_drop]
theorem RdV.take {w : World} {p : OA} {vs : List Value} (h : RdV w p vs) (n : Nat) : RdV w p (vs.take n) := by
 refine ⟨h.solid.mono (by simp; omega), fun j hj => ?_⟩
 simp only [List.length_take] at hj
 rw [h.cells j (by omega), List.getElem?_take, if_pos (by omega)]
theorem Rd.v {w : World} {k : IntKind} {p : OA} {xs : List Nat} (h : Rd w k p xs) : RdV w p (xs.map fun x : Nat => Value.int k (x : Int)) := by
 refine ⟨by rw [List.length_map]; exact h.solid, fun j hj => ?_⟩
 rw [List.length_map] at hj
 rw [h.cells j hj, List.getElem?_map]
 simp [hj, a0s]
theorem o1p {w : World} {b : Nat} {t : TypeId} {vs : Array Value} (h : Bt w b t vs) : RdV w (some ⟨b, 0, none⟩) vs.toList := by
 refine ⟨fun _ => ⟨rfl, rfl⟩, fun j hj => ?_⟩
 have := h.bx.cell j
 unfold at_
 simp only [Option.getD_some, Nat.zero_add]
 rw [this]
 simp
def OwnV (w : World) (base : Nat) (e : TypeId) (p : OA) (c : Nat) (vs : List Value) : Prop := w.ownsRow base e 1 (.slice p vs.length c) vs.length vs
theorem Own.v {w : World} {base : Nat} {k : IntKind} {e : TypeId} {p : OA} {c : Nat} {xs : List Nat} (h : Own w base k e p c xs) : OwnV w base e p c (xs.map fun x : Nat => Value.int k (x : Int)) := by
 unfold OwnV
 rw [List.length_map]
 exact h
theorem j1n {w : World} {base : Nat} {k : IntKind} {e : TypeId} {p : OA} {c : Nat} {xs : List Nat} (h : OwnV w base e p c (xs.map fun x : Nat => Value.int k (x : Int))) : Own w base k e p c xs := by
 unfold OwnV at h
 rw [List.length_map] at h
 exact h
theorem OwnV.nil (w : World) (base : Nat) (e : TypeId) : OwnV w base e none 0 [] := World.ownsRow_nil w base e 1
theorem OwnV.form {w : World} {base : Nat} {e : TypeId} {p : OA} {c : Nat} {vs : List Value} (h : OwnV w base e p c vs) :
 (p = none ∧ c = 0 ∧ vs = []) ∨ ∃ g, p = some ⟨g, 0, none⟩ ∧ base ≤ g ∧ g < w.heap.size ∧ vs.length ≤ c ∧ c ≤ maxLen := by
 rcases h.2 with ⟨h1, h2⟩ | ⟨g, cap, cur, hv, hb, hg, hn, hc, _, _⟩
 · left
   simp only [Value.slice.injEq] at h1
   exact ⟨h1.1, h1.2.2, List.eq_nil_of_length_eq_zero h2⟩
 · right
   simp only [Value.slice.injEq] at hv
   obtain ⟨rfl, _, rfl⟩ := hv
   exact ⟨g, rfl, hb, (Array.getElem?_eq_some_iff.1 hg).1, hn, hc⟩
theorem OwnV.mono {w : World} {base b' : Nat} {e : TypeId} {p : OA} {c : Nat} {vs : List Value} (h : OwnV w base e p c vs) (hb : b' ≤ base) : OwnV w b' e p c vs := by
 refine ⟨h.1, ?_⟩
 rcases h.2 with h1 | ⟨g, cap, cur, hv, hbg, r⟩
 · exact .inl h1
 · exact .inr ⟨g, cap, cur, hv, by omega, r⟩
theorem OwnV.le_cap {w : World} {base : Nat} {e : TypeId} {p : OA} {c : Nat} {vs : List Value} (h : OwnV w base e p c vs) : vs.length ≤ c := by
 rcases h.form with ⟨_, rfl, rfl⟩ | ⟨g, _, _, _, h, _⟩
 · simp
 · exact h
theorem OwnV.rd {w : World} {base : Nat} {e : TypeId} {p : OA} {c : Nat} {vs : List Value} (h : OwnV w base e p c vs) : RdV w p vs := by
 rcases h.form with ⟨rfl, _, rfl⟩ | ⟨g, rfl, _⟩
 · exact RdV.nil w none
 · refine ⟨fun _ => ⟨rfl, rfl⟩, fun j hj => ?_⟩
   have h1 := World.ownsRow.cellAt (w := w) (base := base) (e := e) (size := 1) (g := g) (n := vs.length) (cap := c) h j (by omega)
   simp only [at_, Option.getD_some, Nat.zero_add]
   exact h1
theorem OwnV.blk_lt {w : World} {base : Nat} {e : TypeId} {p : OA} {c : Nat} {vs : List Value} (h : OwnV w base e p c vs) (hp : p.isSome = true) : base ≤ blk p ∧ blk p < w.heap.size := by
 rcases h.form with ⟨rfl, _, rfl⟩ | ⟨g, rfl, h1, h2, _⟩
 · simp at hp
 · exact ⟨h1, h2⟩
theorem OwnV.same {w w' : World} {base : Nat} {e : TypeId} {p : OA} {c : Nat} {vs : List Value} (h : OwnV w base e p c vs) (hb : p.isSome = true → w'.heap[blk p]? = w.heap[blk p]?) : OwnV w' base e p c vs := by
 refine ⟨h.1, ?_⟩
 rcases h.2 with h1 | ⟨g, cap, cur, hv, hbg, hg, r⟩
 · exact .inl h1
 · simp only [Value.slice.injEq] at hv
   obtain ⟨rfl, h2, rfl⟩ := hv
   exact .inr ⟨g, c, cur, rfl, hbg, by rw [← hg]; exact hb rfl, r⟩
theorem OwnV.below {w w' : World} {base B : Nat} {e : TypeId} {p : OA} {c : Nat} {vs : List Value} (h : OwnV w base e p c vs) (hb : Below B w w') (hp : p.isSome = true → blk p < B) : OwnV w' base e p c vs :=
 h.same fun h0 => hb.block _ (hp h0)
theorem OwnV.past {w w' : World} {base : Nat} {e : TypeId} {p : OA} {c : Nat} {vs : List Value} (h : OwnV w base e p c vs) (hb : Below w.heap.size w w') : OwnV w' base e p c vs :=
 h.below hb fun h0 => (h.blk_lt h0).2
theorem o1q {w : World} {base : Nat} {e : TypeId} {p : OA} {c : Nat} {vs : List Value} (h : OwnV w base e p c vs) (j : Nat) (hj : j < vs.length) (v : Value) :
 OwnV (w.setCell (at_ p j) v) base e p c (vs.set j v) ∧ w.grownBy (w.setCell (at_ p j) v) (some (blk p)) ∧ base ≤ blk p := by
 rcases h.form with ⟨rfl, _, rfl⟩ | ⟨g, rfl, hb, _⟩
 · simp at hj
 · have h1 := World.ownsRow.stored (w := w) (base := base) (e := e) (size := 1) (g := g) (n := vs.length) (cap := c) h j v
   simp only [at_, Option.getD_some, Nat.zero_add]
   refine ⟨?_, h1.2, hb⟩
   unfold OwnV
   rw [List.length_set]
   exact h1.1
theorem o1r {w : World} {base : Nat} {e : TypeId} {p : OA} {c : Nat} {vs : List Value} (h : OwnV w base e p c vs) (j : Nat) (hj : j < vs.length) : w.frozen? (at_ p j) = false := by
 rcases h.form with ⟨rfl, _, rfl⟩ | ⟨g, rfl, hb, _⟩
 · simp at hj
 · simpa [at_] using World.ownsRow.frozenAt (w := w) (base := base) (e := e) (size := 1) (g := g) (n := vs.length) (cap := c) h j
structure l0n (P : Program) (t e : TypeId) (z : Value) (bytes : Nat) : Prop where
 ht : P.underlying t = some (.slice e)
 hi : ∃ i, P.info? e = some i ∧ i.zero = some z ∧ i.size = 1 ∧ i.bytes = bytes
 hz : z.cells = #[z]
 h1 : z.oneCell' = true
 le : bytes ≤ 16
section walk
variable {P : Program} {ops : Array Oper} {rest : List Oper} {o : Oper} {a : Act} {Q : Exit → Act → World → Prop} {w : World} {K : Act → World → Prop}
end walk
structure Wr (w : World) (base : Nat) (k : IntKind) (p : OA) (xs : List Nat) : Prop where
 rd : Rd w k p xs
 fr : ∀ j, j < xs.length → w.frozen? (at_ p j) = false
 from_ : 0 < xs.length → base ≤ blk p
theorem Own.wr {w : World} {base : Nat} {k : IntKind} {e : TypeId} {p : OA} {c : Nat} {xs : List Nat} (h : Own w base k e p c xs) : Wr w base k p xs :=
 ⟨h.rd, fun j hj => e0q h j hj, fun h0 => (h.blk_lt (h.rd.solid h0).1).1⟩
theorem Wr.mono {w : World} {base b' : Nat} {k : IntKind} {p : OA} {xs : List Nat} (h : Wr w base k p xs) (hb : b' ≤ base) : Wr w b' k p xs := ⟨h.rd, h.fr, fun h0 => Nat.le_trans hb (h.from_ h0)⟩
theorem Wr.same {w w' : World} {base : Nat} {k : IntKind} {p : OA} {xs : List Nat} (h : Wr w base k p xs) (hb : 0 < xs.length → w'.heap[blk p]? = w.heap[blk p]?) : Wr w' base k p xs :=
 ⟨h.rd.same hb, fun j hj => by rw [World.frozen?_of_block (w := w) (a := at_ p j) (hb (by omega))]; exact h.fr j hj, h.from_⟩
theorem Wr.past {w w' : World} {base : Nat} {k : IntKind} {p : OA} {xs : List Nat} (h : Wr w base k p xs) (hb : Below w.heap.size w w') : Wr w' base k p xs :=
 h.same fun h0 => hb.block _ (h.rd.lt h0)
theorem Wr.drew {w : World} {base : Nat} {k : IntKind} {p : OA} {xs : List Nat} (h : Wr w base k p xs) : Wr w.drew base k p xs := h.same fun _ => rfl
theorem r1z {p : OA} {i j : Nat} (h : i ≠ j) : at_ p i ≠ at_ p j := by
 unfold at_
 intro e
 simp only [Addr.mk.injEq, true_and, and_true] at e
 omega
theorem Wr.set {w : World} {base : Nat} {k : IntKind} {p : OA} {xs : List Nat} (h : Wr w base k p xs) (j : Nat) (hj : j < xs.length) (n : Nat) :
 Wr (w.setCell (at_ p j) (.int k (n : Int))) base k p (xs.set j n) ∧ w.grownBy (w.setCell (at_ p j) (.int k (n : Int))) (some (blk p)) ∧ base ≤ blk p := by
 refine ⟨⟨⟨by rw [List.length_set]; exact h.rd.solid, fun i hi => ?_⟩, fun i hi => ?_, fun _ => h.from_ (by omega)⟩, ?_, h.from_ (by omega)⟩
 · rw [List.length_set] at hi
   by_cases e : j = i
   · subst e
     rw [World.cell?_setCell_same (h := h.rd.cells j hj)]
     unfold dg
     rw [List.getElem?_set_self hj]
     rfl
   · rw [World.cell?_setCell_other (h := r1z e), h.rd.cells i hi]
     unfold dg
     rw [List.getElem?_set_ne e]
 · rw [List.length_set] at hi
   rw [World.frozen?_setCell]
   exact h.fr i hi
 · refine ⟨rfl, rfl, rfl, by simp [World.setCell], fun b _ hne => ?_⟩
   show (w.heap.modify _ _)[b]? = _
   rw [Array.getElem?_modify, if_neg (fun e => hne (by rw [← e]; rfl))]
theorem s0x (w : World) (e : TypeId) (s : ByteArray) : Wr (Lib.bytesWorld w e s) w.heap.size .u8 (some ⟨w.heap.size, 0, none⟩) (a0b s) := by
 refine ⟨l0m w e s, fun j hj => ?_, fun _ => Nat.le_refl _⟩
 have hj2 : j < s.size := by rw [← a0q]; exact hj
 unfold World.frozen? at_
 simp only [Option.getD_some, Nat.zero_add]
 rw [Lib.bytesWorld_at_new]
 have : s.size ≤ (Lib.bytesCells w e s).size := by
  unfold Lib.bytesCells
  rw [Array.size_append, Array.size_map]
  exact Nat.le_add_right _ _
 simp only [Bool.and_eq_false_iff, decide_eq_false_iff_not]
 left
 omega
section walk
variable {P : Program} {ops : Array Oper} {rest : List Oper} {o : Oper} {a : Act} {K : Act → World → Prop} {Q : Exit → Act → World → Prop} {w : World}
end walk
section walk
variable {P : Program} {ops : Array Oper} {rest : List Oper} {o : Oper} {a : Act} {K : Act → World → Prop} {Q : Exit → Act → World → Prop} {w : World}
theorem j1o (x y : Operand) (t : TypeId) (ho : o.op = .makeSlice t x y) {e : TypeId} {k : IntKind} {bytes : Nat} (hty : SlTy P t e k bytes) (kl kc : IntKind) (n m : Nat) (i1 i2 : Int)
 (hx : a.eval x = .int kl i1) (hy : a.eval y = .int kc i2) (h1 : i1 = n) (h2 : i2 = m) (hnm : n ≤ m) (hb : m ≤ 4000000000)
 (h : ∀ p' c' w', Own w' w.heap.size k e p' c' (List.replicate n 0) → Below w.heap.size w w' → w.heap.size < w'.heap.size → K (a.put o.dst (.slice p' n c')) w') : o.wp P a w K Q := by
 subst h1 h2
 obtain ⟨i, hi, hz, hs, hbt⟩ := hty.hi
 have hbb : (i.bytes : Int) * (m : Int) ≤ 281474976710656 := by
  have h1 : m * i.bytes ≤ 4000000000 * 8 := Nat.mul_le_mul hb (by rw [hbt]; exact hty.le)
  have h2 : ((i.bytes * m : Nat) : Int) ≤ 281474976710656 := by rw [Nat.mul_comm]; omega
  rwa [Int.natCast_mul] at h2
 have hr := run_make (P := P) w t e i (.int k 0) hty.ht hi hz kl kc n m (by omega) (by omega) hbb (by omega)
 simp only [Int.toNat_natCast, hs, Nat.mul_one] at hr
 unfold Oper.wp execOp
 simp only [ho, hx, hy]
 simp only [Sem.run_bind, hr, Result.andThen_ok, Sem.run_pure]
 have hO : Own (w.alloc (.cells (madeCells (Value.cells (.int k 0)) m) e)) w.heap.size k e (some ⟨w.heap.size, 0, none⟩) m (List.replicate m 0) := by
  unfold Own
  rw [List.length_replicate, List.map_replicate]
  have : (madeCells (Value.cells (.int k 0)) m).toList = List.replicate m (.int k ((0 : Nat) : Int)) := toList_madeCells_one _ _
  rw [← this]
  exact World.ownsRow_lit w _ m (Nat.le_refl _) (by simp only [maxLen]; omega) (by simp [madeCells])
 have hO2 := hO.take n
 rw [List.take_replicate, Nat.min_eq_left hnm] at hO2
 exact h _ _ _ hO2 ((Below.refl _ _).alloc (Nat.le_refl _) _) (by simp)
theorem e1x (hgd : o.guard = none) (x y : Operand) (t : TypeId) (ho : o.op = .makeSlice t x y) {e : TypeId} {k : IntKind} {bytes : Nat} (hty : SlTy P t e k bytes) (kl kc : IntKind) (n m : Nat) (i1 i2 : Int)
 (hx : a.eval x = .int kl i1) (hy : a.eval y = .int kc i2) (h1 : i1 = n) (h2 : i2 = m) (hnm : n ≤ m) (hb : m ≤ 4000000000)
 (h : ∀ p' c' w', Own w' w.heap.size k e p' c' (List.replicate n 0) → Below w.heap.size w w' → w.heap.size < w'.heap.size → wpList P ops Q rest (a.put o.dst (.slice p' n c')) w') : wpList P ops Q (o :: rest) a w :=
 wpList_plain hgd fun _ hK => j1o x y t ho hty kl kc n m i1 i2 hx hy h1 h2 hnm hb fun p' c' w' h900 h901 h902 => hK _ _ (h p' c' w' h900 h901 h902)
end walk
theorem c1e (p : OA) (l n c : Nat) (h : l < c) : sliced p l n c 1 = .slice (p.map (·.add l)) (n - l) (c - l) := by
 unfold sliced
 rw [if_neg (by omega), Nat.mul_one]
section
variable {P : Program} {ops : Array Oper} {Q : Exit → Act → World → Prop} {a : Act} {w : World} {rest : List Oper} {o : Oper}
end
section
variable {P : Program} {a : Act} {w : World} {dst : Option Tmp} {t2 : TypeId} {pos : String} {af : Array Edge} {g : Option (Nat × Bool)} {x y : Operand}
theorem r0g {P : Program} {t e : TypeId} {z : Value} {bytes : Nat} (hty : l0n P t e z bytes) (w : World) : (sizeOf (P.elem t)).run P w = .ok 1 w := by
 obtain ⟨i, hi, -, hs, -⟩ := hty.hi
 rw [e1w hty.ht]
 simp [sizeOf, typeInfo, hi, hs]
theorem s0y {P : Program} {t e : TypeId} {z : Value} {bytes : Nat} (hty : l0n P t e z bytes) : P.underlying t = some (.slice (P.elem t)) := by
 rw [e1w hty.ht]; exact hty.ht
variable {k : IntKind} {X Y : Int} {xT yT : TypeId}
end
theorem Bx.e9 {w : World} {b : Nat} {v0 v1 v2 v3 v4 v5 v6 v7 v8 : Value} (h : Bx w b #[v0, v1, v2, v3, v4, v5, v6, v7, v8]) : w.cell? ⟨b, 0, none⟩ = some v0 ∧ w.cell? ⟨b, 1, none⟩ = some v1 ∧ w.cell? ⟨b, 2, none⟩ = some v2 ∧ w.cell? ⟨b, 3, none⟩ = some v3 ∧ w.cell? ⟨b, 4, none⟩ = some v4 ∧ w.cell? ⟨b, 5, none⟩ = some v5 ∧ w.cell? ⟨b, 6, none⟩ = some v6 ∧ w.cell? ⟨b, 7, none⟩ = some v7 ∧ w.cell? ⟨b, 8, none⟩ = some v8 := ⟨h.c 0 rfl, h.c 1 rfl, h.c 2 rfl, h.c 3 rfl, h.c 4 rfl, h.c 5 rfl, h.c 6 rfl, h.c 7 rfl, h.c 8 rfl⟩
theorem o0r {x E : Nat} (hx : x < 2 ^ 63) (hE : E ≤ 60) : bits .and .i64 (x : Int) ((2 ^ E - 1 : Nat) : Int) = ((x % 2 ^ E : Nat) : Int) := by
 have p1 : 2 ^ E ≤ 2 ^ 60 := Nat.pow_le_pow_right (by omega) hE
 have h2 : (BitVec.ofInt 64 (x : Int)).toNat = x := by rw [BitVec.ofInt_natCast, BitVec.toNat_ofNat, Nat.mod_eq_of_lt (by omega)]
 have h1 : (BitVec.ofInt 64 ((2 ^ E - 1 : Nat) : Int)).toNat = 2 ^ E - 1 := by rw [BitVec.ofInt_natCast, BitVec.toNat_ofNat, Nat.mod_eq_of_lt (by omega)]
 have key : (BitVec.ofInt 64 (x : Int) &&& BitVec.ofInt 64 ((2 ^ E - 1 : Nat) : Int)).toNat = x % 2 ^ E := by
  rw [BitVec.toNat_and, h2, h1, Nat.and_two_pow_sub_one_eq_mod]
 show IntKind.i64.wrap ((BitVec.ofInt 64 (x : Int) &&& BitVec.ofInt 64 ((2 ^ E - 1 : Nat) : Int)).toNat : Nat) = _
 rw [key]
 have : x % 2 ^ E < 2 ^ E := Nat.mod_lt _ (Nat.pow_pos (by omega))
 exact iwo
theorem c1f {x E : Nat} (hx : x < 2 ^ E) (hE : E ≤ 60) : bits .or .i64 (x : Int) ((2 ^ E : Nat) : Int) = ((2 ^ E + x : Nat) : Int) := by
 have p1 : 2 ^ E ≤ 2 ^ 60 := Nat.pow_le_pow_right (by omega) hE
 have h2 : (BitVec.ofInt 64 (x : Int)).toNat = x := by rw [BitVec.ofInt_natCast, BitVec.toNat_ofNat, Nat.mod_eq_of_lt (by omega)]
 have h1 : (BitVec.ofInt 64 ((2 ^ E : Nat) : Int)).toNat = 2 ^ E := by rw [BitVec.ofInt_natCast, BitVec.toNat_ofNat, Nat.mod_eq_of_lt (by omega)]
 have key : (BitVec.ofInt 64 (x : Int) ||| BitVec.ofInt 64 ((2 ^ E : Nat) : Int)).toNat = 2 ^ E + x := by
  rw [BitVec.toNat_or, h2, h1, Nat.or_comm]
  have := Nat.two_pow_add_eq_or_of_lt hx 1
  rw [Nat.mul_one] at this
  exact this.symm
 show IntKind.i64.wrap ((BitVec.ofInt 64 (x : Int) ||| BitVec.ofInt 64 ((2 ^ E : Nat) : Int)).toNat : Nat) = _
 rw [key]
 exact iwo
theorem s0z {E : Nat} (hE : E ≤ 60) : IntKind.i64.wrap (1 * 2 ^ (min (E : Int).toNat IntKind.i64.bits)) = ((2 ^ E : Nat) : Int) := by
 have p1 : 2 ^ E ≤ 2 ^ 60 := Nat.pow_le_pow_right (by omega) hE
 rw [Int.toNat_natCast, show IntKind.i64.bits = 64 from rfl, Nat.min_eq_left (by omega), Int.one_mul, show ((2 : Int) ^ E) = ((2 ^ E : Nat) : Int) by norm_cast]
 generalize 2 ^ E = T at *
 exact iwo
theorem e1y {x E : Nat} (hE : E ≤ 60) : (x : Int).fdiv (2 ^ (min (E : Int).toNat IntKind.i64.bits)) = ((x / 2 ^ E : Nat) : Int) := by
 rw [Int.toNat_natCast, show IntKind.i64.bits = 64 from rfl, Nat.min_eq_left (by omega), show ((2 : Int) ^ E) = ((2 ^ E : Nat) : Int) by norm_cast, Int.fdiv_eq_ediv_of_nonneg _ (Int.natCast_nonneg _)]
 rfl
def e1z (fn : Func) : Code := match fn.body with | some c => c | none => .skip
def cfg0 (fn : Func) (fr : List SV) (bx : List Box) : Cfg := ⟨fr ++ List.replicate (fn.ntmps - fr.length) (.v undef), bx, .off, [.code (e1z fn)]⟩
theorem a0g {P : Program} {E : List Nat} {w : World} {A : List Nat} {bx : List Box} {fs : List PF} {f : FuncId} {fn : Func} {args : Array Value} {R : Ending → World → Prop} (fr : List SV) (_ : Inv E w A bx fs w) (hf : P.funcs[f]? = some fn)
 (h : G P (bodyPost P fn R) A (cfg0 fn fr bx) w) (hb : fn.body.isSome = true := by kernel_rfl) (ha : fr.map (SV.r A) = args.toList := by kernel_rfl) : Calls P f args w R := by
 have hb2 : fn.body = some (e1z fn) := by
  unfold e1z
  cases h : fn.body with
  | none => rw [h] at hb; cases hb
  | some c => rfl
 refine calls_of_wp hf hb2 ?_
 have hl : fr.length = args.size := by rw [← Array.length_toList, ← ha, List.length_map]
 have e : (⟨args ++ Array.replicate (fn.ntmps - args.size) undef, []⟩ : Act) = act A (cfg0 fn fr bx).fr := by
  unfold act cfg0
  simp only [Act.mk.injEq, and_true]
  rw [List.map_append, ha, List.map_replicate, hl]
  apply Array.toList_inj.1
  simp [SV.r]
 rw [e]
 exact h.out
/-! ### What is handed in -/
def btL (w : World) (A0 : List Nat) : List Nat → List Box → Prop
 | a :: A, b :: bx => Bt w a b.t (b.row A0) ∧ btL w A0 A bx
 | [], [] => True
 | _, _ => False
theorem y0c {w : World} {A0 : List Nat} : ∀ {A : List Nat} {bx : List Box}, btL w A0 A bx → A.length = bx.length ∧ ∀ k, k < bx.length → Bt w (lk 0 A k) (lk bx0 bx k).t ((lk bx0 bx k).row A0)
 | [], [], _ => ⟨rfl, fun _ h => by simp at h⟩
 | a :: A, b :: bx, h => by
  have ih := y0c h.2
  refine ⟨by simp [ih.1], fun k hk => ?_⟩
  cases k with
  | zero => exact h.1
  | succ k => exact ih.2 k (by simpa using hk)
 | [], _ :: _, h => h.elim
 | _ :: _, [], h => h.elim
def j1p : List Box → Bool
 | [] => true
 | b :: l => match b.ro with | true => j1p l | false => false
theorem o0s : ∀ {l : List Box}, j1p l = true → ∀ k, k < l.length → (lk bx0 l k).ro = true
 | [], _, _, h => by simp at h
 | b :: l, h, k, hk => by
  unfold j1p at h
  split at h
  · rename_i hb
    cases k with
    | zero => exact hb
    | succ k => exact o0s h k (by simpa using hk)
  · cases h
theorem Inv.startR (w : World) (A : List Nat) (bx : List Box) (fs : List PF) (hb : btL w A A bx) (hf : PF.all w fs) (hr : j1p bx = true := by kernel_rfl) : Inv [] w A bx fs w := by
 have hF : ∀ a, Fa A bx a → False := fun a ⟨k, hk, h, _⟩ => by rw [o0s hr k hk] at h; cases h
 exact ⟨Kp.refl _ _, fun a h => (hF a h).elim, fun i j hi _ h => (by rw [o0s hr i hi] at h; cases h), (y0c hb).1, List.nil_prefix, (y0c hb).2, hf, fun a h => (hF a h).elim⟩
theorem Inv.startW (w : World) (b : Nat) (t : TypeId) (cs : List SV) (fs : List PF) {row : Array Value} (hb : Bt w b t row) (hf : PF.all w fs) (hfar : PF.far b fs) (hrow : row = (cs.map (SV.r [b])).toArray := by kernel_rfl) : Inv [b] w [b] [⟨t, cs, false⟩] fs w := by
 have hF : ∀ a, Fa [b] [⟨t, cs, false⟩] a → a = b := fun a ⟨k, hk, _, e⟩ => by
  obtain rfl : k = 0 := by simpa using hk
  exact e
 refine ⟨Kp.refl _ _, fun a h => .inr (by rw [hF a h]; simp), fun i j hi hj _ hn => ?_, rfl, List.prefix_refl _, fun k hk => ?_, hf, fun a h => by rw [hF a h]; exact hfar⟩
 · simp at hi hj
   omega
 · obtain rfl : k = 0 := by simpa using hk
   rw [hrow] at hb
   exact hb
/-! ### Facts -/
def ownF (b : Nat) (k : IntKind) (e : TypeId) (p : OA) (c : Nat) (xs : List Nat) : PF :=
 ⟨fun w => Own w b k e p c xs, fun a => p.isSome = true ∧ blk p = a, fun _ _ h hb _ => h.same fun hp => hb _ (h.blk_lt hp).2 ⟨hp, rfl⟩, fun _ _ h hf => hf.2 ▸ (h.blk_lt hf.1).2⟩
def rdF (k : IntKind) (p : OA) (xs : List Nat) : PF :=
 ⟨fun w => Rd w k p xs, fun a => 0 < xs.length ∧ blk p = a, fun _ _ h hb _ => h.same fun hp => hb _ (h.lt hp) ⟨hp, rfl⟩, fun _ _ h hf => hf.2 ▸ h.lt hf.1⟩
def rfF (b : Nat) (p : OA) (c : Nat) (xs : List Nat) : PF :=
 ⟨fun w => Rf w b p c xs, fun a => 0 < xs.length ∧ blk p = a, fun _ _ h hb _ => ⟨h.rd.same fun hp => hb _ (h.rd.lt hp) ⟨hp, rfl⟩, h.cap, h.at_⟩, fun _ _ h hf => hf.2 ▸ h.rd.lt hf.1⟩
def i0j (b : Nat) (e : TypeId) (p : OA) (c : Nat) (vs : List Value) : PF :=
 ⟨fun w => OwnV w b e p c vs, fun a => p.isSome = true ∧ blk p = a, fun _ _ h hb _ => h.same fun hp => hb _ (h.blk_lt hp).2 ⟨hp, rfl⟩, fun _ _ h hf => hf.2 ▸ (h.blk_lt hf.1).2⟩
def rdvF (p : OA) (vs : List Value) : PF :=
 ⟨fun w => RdV w p vs, fun a => 0 < vs.length ∧ blk p = a, fun _ _ h hb _ => h.same fun hp => hb _ (h.lt hp) ⟨hp, rfl⟩, fun _ _ h hf => hf.2 ▸ h.lt hf.1⟩
theorem OwnV.far {w : World} {base : Nat} {e : TypeId} {p : OA} {c : Nat} {xs : List Value} (h : OwnV w base e p c xs) {b : Nat} {t : TypeId} {vs : Array Value} (hX : Bt w b t vs) (hne : Nat.beq t e = false) (hp : p.isSome = true) : blk p ≠ b := by
 rcases h.2 with ⟨h1, h2⟩ | ⟨g, cap, cur, hv, hb, hg, _⟩
 · simp only [Value.slice.injEq] at h1
   rw [h1.1] at hp; cases hp
 · simp only [Value.slice.injEq] at hv
   intro hE
   rw [hv.1] at hE
   have hE2 : g = b := hE
   subst hE2
   have hE3 := hg.symm.trans hX
   simp only [Option.some.injEq, Obj.cells.injEq] at hE3
   rw [hE3.2.1] at hne
   simp at hne
def y0d (e : TypeId) : List Box → Bool
 | [] => true
 | b :: l => match Nat.beq b.t e with | true => false | false => y0d e l
theorem l0o {e : TypeId} : ∀ {l : List Box}, y0d e l = true → ∀ k, k < l.length → Nat.beq (lk bx0 l k).t e = false
 | [], _, _, h => by simp at h
 | b :: l, h, k, hk => by
  unfold y0d at h
  split at h
  · cases h
  · rename_i hb
    cases k with
    | zero => exact hb
    | succ k => exact l0o h k (by simpa using hk)
section
variable {E : List Nat} {w0 : World} {A : List Nat} {bx : List Box} {fs : List PF} {W : World}
def o1s (bx : List Box) (k : Nat) (A : List Nat) : Option (TypeId × Array Value) := match Nat.ble (k + 1) bx.length with | true => some ((lk bx0 bx k).t, (lk bx0 bx k).row A) | false => none
theorem Inv.box (I : Inv E w0 A bx fs W) (k : Nat) (t : TypeId) (vs : Array Value) (h : o1s bx k A = some (t, vs) := by kernel_rfl) : Bt W (lk 0 A k) t vs := by
 unfold o1s at h
 split at h
 · rename_i hk
   simp only [Option.some.injEq, Prod.mk.injEq] at h
   have := I.bt k (i0q hk)
   rw [h.1, h.2] at this
   exact this
 · cases h
theorem Inv.boxE {b : Nat} (I : Inv (b :: E) w0 A bx fs W) (t : TypeId) (vs : Array Value) (h : o1s bx 0 A = some (t, vs) := by kernel_rfl) : Bt W b t vs := by
 have := I.box 0 t vs h
 rw [a1d I.pre (k := 0) (by simp)] at this
 exact this
theorem Inv.geB (I : Inv [] w0 A bx fs W) (k : Nat) (h : Nat.ble (k + 1) bx.length = true := by kernel_rfl) (hr : (lk bx0 bx k).ro = false := by kernel_rfl) : w0.heap.size ≤ lk 0 A k :=
 (I.ge _ ⟨k, i0q h, hr, rfl⟩).resolve_right (by simp)
theorem Inv.own (I : Inv E w0 A bx fs W) {b : Nat} {k : IntKind} {e : TypeId} {p : OA} {c : Nat} {xs : List Nat} (o : Own W b k e p c xs) (hb : w0.heap.size ≤ b := by first | exact Nat.le_refl _ | assumption | omega) (hne : y0d e bx = true := by kernel_rfl) :
 Inv E w0 A bx (ownF w0.heap.size k e p c xs :: fs) W :=
 I.add (ownF w0.heap.size k e p c xs) (o.mono hb) fun a ha hf => by
  obtain ⟨j, hj, _, rfl⟩ := ha
  exact o.far (I.bt j hj) (l0o hne j hj) hf.1 hf.2
theorem Inv.ownv (I : Inv E w0 A bx fs W) {b : Nat} {e : TypeId} {p : OA} {c : Nat} {xs : List Value} (o : OwnV W b e p c xs) (hb : w0.heap.size ≤ b := by first | exact Nat.le_refl _ | assumption | omega) (hne : y0d e bx = true := by kernel_rfl) :
 Inv E w0 A bx (i0j w0.heap.size e p c xs :: fs) W :=
 I.add (i0j w0.heap.size e p c xs) (o.mono hb) fun a ha hf => by
  obtain ⟨j, hj, _, rfl⟩ := ha
  exact o.far (I.bt j hj) (l0o hne j hj) hf.1 hf.2
theorem Inv.ownB (I : Inv E w0 A bx fs W) (B : Nat) {b : Nat} {k : IntKind} {e : TypeId} {p : OA} {c : Nat} {xs : List Nat} (o : Own W b k e p c xs) (hb : B ≤ b := by first | exact Nat.le_refl _ | assumption | omega) (hne : y0d e bx = true := by kernel_rfl) :
 Inv E w0 A bx (ownF B k e p c xs :: fs) W :=
 I.add (ownF B k e p c xs) (o.mono hb) fun a ha hf => by
  obtain ⟨j, hj, _, rfl⟩ := ha
  exact o.far (I.bt j hj) (l0o hne j hj) hf.1 hf.2
theorem Inv.rfB (I : Inv E w0 A bx fs W) (B : Nat) {p : OA} {c : Nat} {xs : List Nat} {bx' : List Box} {fs' : List PF} {V : World} (o : Rf W V.heap.size p c xs) (hB : ∀ a, Fa A bx a → Fa A bx' a) (J : Inv E w0 A bx' fs' V) (hb : B ≤ V.heap.size := by first | exact Nat.le_refl _ | assumption | omega) : Inv E w0 A bx (rfF B p c xs :: fs) W :=
 I.add (rfF B p c xs) (o.mono hb) fun a ha hf => by
  have h1 := J.lt a (hB a ha)
  have h2 := o.at_ hf.1
  have h3 := hf.2
  omega
def f1a (k : IntKind) : SV → Bool
 | .v (.int k' _) => !(decide (k' = k))
 | _ => true
def a1i (k : IntKind) : List Box → Bool
 | [] => true
 | b :: l => match b.cs.all (f1a k) with | true => a1i k l | false => false
theorem r0h {k : IntKind} : ∀ {l : List Box}, a1i k l = true → ∀ j, j < l.length → (lk bx0 l j).cs.all (f1a k) = true
 | [], _, _, h => by simp at h
 | b :: l, h, j, hj => by
  unfold a1i at h
  split at h
  · rename_i hb
    cases j with
    | zero => exact hb
    | succ j => exact r0h h j (by simpa using hj)
  · cases h
theorem f1b {k : IntKind} (A : List Nat) {l : List SV} (h : l.all (f1a k) = true) : e1h k (l.map (SV.r A)).toArray = true := by
 unfold e1h
 rw [List.all_toArray, List.all_map]
 rw [List.all_eq_true] at h ⊢
 intro x hx
 have := h x hx
 cases x with
 | v x => cases x <;> first | exact this | rfl
 | _ => rfl
theorem Inv.rd (I : Inv E w0 A bx fs W) {k : IntKind} {p : OA} {xs : List Nat} (r : Rd W k p xs) (hne : a1i k bx = true := by kernel_rfl) : Inv E w0 A bx (rdF k p xs :: fs) W :=
 I.add (rdF k p xs) r fun a ha hf => by
  obtain ⟨j, hj, _, rfl⟩ := ha
  exact r.far (I.bt j hj) (f1b A (r0h hne j hj)) hf.1 hf.2
theorem Inv.rfA (I : Inv E w0 A bx fs W) {b : Nat} {p : OA} {c : Nat} {xs : List Nat} {bx' : List Box} (o : Rf W b p c xs) (hB : ∀ a, Fa A bx a → Fa A bx' a) (hf : ∀ a, Fa A bx' a → 0 < xs.length → blk p ≠ a) (hb : w0.heap.size ≤ b := by first | exact Nat.le_refl _ | assumption | omega) : Inv E w0 A bx (rfF w0.heap.size p c xs :: fs) W :=
 I.add (rfF w0.heap.size p c xs) (o.mono hb) fun a ha h => hf a (hB a ha) h.1 h.2
theorem Inv.rf (I : Inv E w0 A bx fs W) {p : OA} {c : Nat} {xs : List Nat} {bx' : List Box} {fs' : List PF} {V : World} (o : Rf W V.heap.size p c xs) (hB : ∀ a, Fa A bx a → Fa A bx' a) (J : Inv E w0 A bx' fs' V) (hb : w0.heap.size ≤ V.heap.size := by first | exact Nat.le_refl _ | assumption | omega) : Inv E w0 A bx (rfF w0.heap.size p c xs :: fs) W :=
 I.add (rfF w0.heap.size p c xs) (o.mono hb) fun a ha hf => by
  have h1 := J.lt a (hB a ha)
  have h2 := o.at_ hf.1
  have h3 := hf.2
  omega
end
section
variable {P : Program} {Q : Exit → Act → World → Prop} {E : List Nat} {w0 : World} {A : List Nat} {fs : List PF} {W : World} {c : Cfg}
theorem zqo (I : Inv E w0 A c.bx fs W) {f : FuncId} {args : List Nat → World → Array Value} {v : OA → Nat → Value} {k : IntKind} {t : TypeId} {xs : List Nat} {b : World → Nat}
 (hc : ∀ A W, Inv E w0 A (zr P none c).bx fs W → Calls P f (args A W) W fun e w' => ∃ p c, e = .returned (v p c) ∧ Own w' (b W) k t p c xs ∧ Below W.heap.size W w')
 (h : ∀ A W p d, Inv E w0 A (putc (zr P none c) (.v (v p d))).bx (ownF w0.heap.size k t p d xs :: fs) W → G P Q A (putc (zr P none c) (.v (v p d))) W)
 (ho : ∀ A w, k0p P (zr P none c) A w = some (.ok (.enter f (args A w)) w) := by intro _ _; kernel_rfl)
 (hr : ∀ A w, (zms P none 5000 c A w).map (·.1) = (zms P none 5000 c A w).map (·.2) := by intro _ _; kernel_rfl)
 (hm : ok1 (zr P none c).rg (zr P none c).bx = ok2 (zr P none c).rg := by kernel_rfl)
 (hne : y0d t (zr P none c).bx = true := by kernel_rfl) (hbb : ∀ V, w0.heap.size ≤ V.heap.size → w0.heap.size ≤ b V := by intro _ h; first | exact h | exact Nat.le_refl _ | assumption | omega) : G P Q A c W :=
 zg I hc (fun A V _ hz _ _ hK _ W ⟨p, d, h1, h2, h3⟩ => ⟨v p d, h1, hK _ W h3 fun I => h A W p d (I.own h2 (hbb V hz) hne)⟩) ho hr hm
theorem zqr (I : Inv E w0 A c.bx fs W) {f : FuncId} {args : List Nat → World → Array Value} {v : OA → Nat → Value} {xs : List Nat}
 (hc : ∀ A W, Inv E w0 A (zr P none c).bx fs W → Calls P f (args A W) W fun e w' => ∃ p c, e = .returned (v p c) ∧ Rf w' W.heap.size p c xs ∧ Below W.heap.size W w')
 (h : ∀ A W p d, Inv E w0 A (putc (zr P none c) (.v (v p d))).bx (rfF w0.heap.size p d xs :: fs) W → G P Q A (putc (zr P none c) (.v (v p d))) W)
 (ho : ∀ A w, k0p P (zr P none c) A w = some (.ok (.enter f (args A w)) w) := by intro _ _; kernel_rfl)
 (hr : ∀ A w, (zms P none 5000 c A w).map (·.1) = (zms P none 5000 c A w).map (·.2) := by intro _ _; kernel_rfl)
 (hm : ok1 (zr P none c).rg (zr P none c).bx = ok2 (zr P none c).rg := by kernel_rfl) : G P Q A c W :=
 zg I hc (fun A _ Iv hz hB _ hK _ W ⟨p, d, h1, h2, h3⟩ => ⟨v p d, h1, hK _ W h3 fun I => h A W p d (I.rf h2 (hB _) Iv hz)⟩) ho hr hm
end
def pick : List Nat → List PF → List PF
 | [], _ => []
 | i :: is, fs => lk ⟨fun _ => True, fun _ => False, fun _ _ h _ _ => h, fun _ _ _ h => h.elim⟩ fs i :: pick is fs
section
variable {E : List Nat} {w0 : World} {A : List Nat} {bx : List Box} {fs : List PF} {W : World}
theorem PF.all_lk {W : World} (d : PF) (hd : d.prop W) : ∀ {fs : List PF} (i : Nat), PF.all W fs → (lk d fs i).prop W
 | [], _, _ => hd
 | _ :: _, 0, h => h.1
 | _ :: _, i + 1, h => PF.all_lk d hd i h.2
theorem PF.far_lk {a : Nat} (d : PF) (hd : ¬ d.foot a) : ∀ {fs : List PF} (i : Nat), PF.far a fs → ¬ (lk d fs i).foot a
 | [], _, _ => hd
 | _ :: _, 0, h => h.1
 | _ :: _, i + 1, h => PF.far_lk d hd i h.2
theorem Inv.pick (I : Inv E w0 A bx fs W) (is : List Nat) : Inv E w0 A bx (pick is fs) W := by
 refine ⟨I.bel, I.ge, I.nd, I.len, I.pre, I.bt, ?_, fun a ha => ?_⟩
 · have := I.fa
   induction is with
   | nil => exact True.intro
   | cons i is ih => exact ⟨PF.all_lk _ True.intro i this, ih⟩
 · have := I.far a ha
   induction is with
   | nil => exact True.intro
   | cons i is ih => exact ⟨PF.far_lk _ id i this, ih⟩
end
/-! ### Values of two -/
section
variable {P : Program} {t : TypeId} {x y : Operand} {W : World}
theorem o0t (k : IntKind) (X : Int) (k2 : IntKind) (Y m : Int) (h0 : 0 ≤ Y) (hm : k.wrap (X * 2 ^ (min Y.toNat k.bits)) = m) : (do eqGuard .shl t x y (.int k X) (.int k2 Y); binOp .shl t (.int k X) (.int k2 Y) : Sem Value).run P W = .ok (.int k m) W := by
 simp [binOp, eqGuard, Op.shift, show ¬ Y < 0 by omega, hm]
theorem m0v (k : IntKind) (X : Int) (k2 : IntKind) (Y m : Int) (h0 : 0 ≤ Y) (hm : X.fdiv (2 ^ (min Y.toNat k.bits)) = m) : (do eqGuard .shr t x y (.int k X) (.int k2 Y); binOp .shr t (.int k X) (.int k2 Y) : Sem Value).run P W = .ok (.int k m) W := by
 simp [binOp, eqGuard, Op.shift, show ¬ Y < 0 by omega, hm]
theorem h0z (k : IntKind) (X Y m : Int) (h0 : Y ≠ 0) (hm : k.wrap (X.tdiv Y) = m) : (do eqGuard .quo t x y (.int k X) (.int k Y); binOp .quo t (.int k X) (.int k Y) : Sem Value).run P W = .ok (.int k m) W := by
 simp [binOp, eqGuard, Op.intDiv, h0, hm]
theorem o0u (k : IntKind) (X Y m : Int) (h0 : Y ≠ 0) (hm : X.tmod Y = m) : (do eqGuard .rem t x y (.int k X) (.int k Y); binOp .rem t (.int k X) (.int k Y) : Sem Value).run P W = .ok (.int k m) W := by
 simp [binOp, eqGuard, Op.intDiv, h0, hm]
theorem o0v (k : IntKind) (X Y m : Int) (hm : bits .and k X Y = m) : (do eqGuard .and t x y (.int k X) (.int k Y); binOp .and t (.int k X) (.int k Y) : Sem Value).run P W = .ok (.int k m) W := by
 subst hm
 simp [binOp, eqGuard, intBits_and]
theorem n1d (k : IntKind) (X Y m : Int) (hm : bits .or k X Y = m) : (do eqGuard .or t x y (.int k X) (.int k Y); binOp .or t (.int k X) (.int k Y) : Sem Value).run P W = .ok (.int k m) W := by
 subst hm
 simp [binOp, eqGuard, intBits_or]
end
/-! ### Rows of others -/
theorem tyV {P : Program} {t e : TypeId} {z : Value} {bytes : Nat} (h1 : P.underlying t = some (.slice e))
 (h2 : (P.info? e).map (fun i => (i.zero, i.size, i.bytes)) = some (some z, 1, bytes)) (h3 : bytes ≤ 16) (h4 : z.cells = #[z]) (h5 : z.oneCell' = true) : l0n P t e z bytes := by
 refine ⟨h1, ?_, h4, h5, h3⟩
 cases h : P.info? e with
 | none => rw [h] at h2; simp at h2
 | some i => rw [h] at h2; simp at h2; exact ⟨i, rfl, h2.1, h2.2.1, h2.2.2⟩
section
variable {P : Program} {w : World}
theorem f0n {t : TypeId} {e : TypeId} {z : Value} {bytes : Nat} (hty : l0n P t e z bytes) {p : OA} {n c m : Nat} (hp : m0p p n) (hm : m < n) : (VO.ix t (.slice p n c) (.int .i64 (m : Int))).sem.run P w = .ok (.pointer (some (at_ p m))) w := by
 show (Instr.indexAt _ _ _).run P w = _
 rw [run_indexAt_solid w t p n c .i64 m (s0y hty) hp, if_pos (show (0 : Int) ≤ (m : Int) ∧ (m : Int) < (n : Int) by omega)]
 simp only [r0g hty, Result.andThen_ok, Int.toNat_natCast, Nat.mul_one]
theorem s1a {t : TypeId} {e : TypeId} {z : Value} {bytes : Nat} (hty : l0n P t e z bytes) {p : OA} {n c m : Nat} (hm : m ≤ n) (hc : m < c) (_hnc : n ≤ c) : (VO.sl t (.slice p n c) (some (.int .i64 (m : Int))) none none).sem.run P w = .ok (.slice (p.map (·.add m)) (n - m) (c - m)) w := by
 show (Instr.sliceAt _ _ _ _ _).run P w = _
 simp only [run_sliceAt_slice (h := s0y hty), run_slice_l (ht := s0y hty) (h0 := Int.natCast_nonneg m) (h1 := Int.ofNat_le.2 hm), r0g hty, Result.andThen_ok, Int.toNat_natCast]
 rw [c1e p m n c hc]
theorem n0j {ty : TypeId} {p : OA} {vs : List Value} (hr : RdV w p vs) (hT : k0o P ty) {m : Nat} {v : Value} (hv : vs[m]? = some v) : (VO.ld ty (.pointer (some (at_ p m)))).sem.run P w = .ok v w := by
 show (Instr.loadAt _ _).run P w = _
 have hm : m < vs.length := (List.getElem?_eq_some_iff.1 hv).1
 have hl : (load (at_ p m)).run P w = .ok v w := by
  have := hr.cells m hm
  rw [hv] at this
  simp [go_sem, this]
 simp only [Instr.loadAt, Instr.sureAddr, Sem.run_bind, Sem.run_pure, Result.andThen_ok, loadVar, h0y hT]
 simpa using hl
end
/-! ### What calls leave -/
section
variable {P : Program} {f : FuncId} {args : Array Value} {w : World}
end
end Go.Slip
namespace Go.Proofs.YtpgomglbaacmdaaGreatDoor
open Go.RowKit Go.Slip
theorem TabW.same {w w' : World} (h : TabW w) (hb : w'.heap[0]? = w.heap[0]?) (hs : w.heap.size ≤ w'.heap.size) : TabW w' :=
 ⟨fun j hj => by
   have := h.1 j hj
   unfold World.cell? at this ⊢
   rw [show w'.heap[(⟨0, j, none⟩ : Addr).block]? = w.heap[(⟨0, j, none⟩ : Addr).block]? from hb]
   exact this, Nat.lt_of_lt_of_le h.2 hs⟩
def tabF : PF := ⟨TabW, fun a => 0 = a, fun _ _ h hb hs => h.same (hb 0 h.2 rfl) hs, fun _ _ h hf => hf ▸ h.2⟩
end Go.Proofs.YtpgomglbaacmdaaGreatDoor
namespace Go.Slip
def m0w (L X : List Nat) (ten d0 i d : Nat) : Prop :=
 (∀ x ∈ L, x < B32) ∧ L.length = X.length ∧ (∀ j, i ≤ j → dg L j = dg X j) ∧ val B32 (L.take i) + d * B32 ^ i = val B32 (X.take i) * ten + d0
theorem m0w.start {X : List Nat} (h : ∀ x ∈ X, x < B32) (ten d0 : Nat) : m0w X X ten d0 0 d0 := ⟨h, rfl, fun _ _ => rfl, by simp⟩
theorem m0w.step {L X : List Nat} {ten d0 i d : Nat} (h : m0w L X ten d0 i d) (hi : i < X.length) (t : Nat) (ht : t = dg X i * ten + d) : m0w (L.set i (t % B32)) X ten d0 (i + 1) (t / B32) := by
 obtain ⟨h1, h2, h3, h4⟩ := h
 refine ⟨k0e L h1 i _ (Nat.mod_lt _ c0n), by simpa using h2, fun j hj => ?_, ?_⟩
 · rw [b0r (by omega)]; exact h3 j (by omega)
 · rw [a0o, d0k, b0p (by omega), a0o, Nat.pow_succ]
   have h5 := Nat.div_add_mod t B32
   generalize t / B32 = q at *
   generalize t % B32 = r at *
   have e : B32 ^ i * (B32 * q + r) = B32 ^ i * (dg X i * ten + d) := by rw [h5, ht]
   grind
theorem m0w.done0 {L : List Nat} {ten d0 a : Nat} (h : m0w L (dig B32 a) ten d0 (dig B32 a).length 0) (h1 : 0 < ten) : L = dig B32 (a * ten + d0) := by
 have h4 := h.2.2.2
 rw [List.take_length, b0a a0a, ← h.2.1, List.take_length] at h4
 obtain ⟨m, rfl⟩ : ∃ m, ten = m + 1 := ⟨ten - 1, by omega⟩
 have e : a * (m + 1) + d0 = a + (a * m + d0) := by grind
 rw [e] at h4 ⊢
 exact z0v a0a L a _ h.1 h.2.1 (by omega)
theorem m0w.done1 {L : List Nat} {ten d0 a d : Nat} (h : m0w L (dig B32 a) ten d0 (dig B32 a).length d) (h1 : 0 < d) (h2 : d < B32) : L ++ [d] = dig B32 (a * ten + d0) := by
 have h4 := h.2.2.2
 rw [List.take_length, b0a a0a, ← h.2.1, List.take_length] at h4
 exact z0w a0a L d _ h.1 h1 h2 h4
def a0l (l : List Nat) : Nat := l.foldl (fun a b => 10 * a + (b - 48)) 0
theorem m0x (l : List Nat) (b : Nat) : a0l (l ++ [b]) = 10 * a0l l + (b - 48) := by simp [a0l]
theorem e0i (l : List Nat) (k : Nat) (h : k < l.length) : a0l (l.take (k + 1)) = 10 * a0l (l.take k) + (dg l k - 48) := by
 rw [List.take_succ_eq_append_getElem h, m0x, a0s h]
theorem g0k (l : List Nat) (h : ∀ j, j < l.length → dg l j ≤ 57) : a0l l < 10 ^ l.length := by
 have key : ∀ n, n ≤ l.length → a0l (l.take n) < 10 ^ n := by
  intro n
  induction n with
  | zero => intro _; simp [a0l]
  | succ n ih =>
   intro hn
   rw [e0i l n (by omega), Nat.pow_succ]
   have h1 := ih (by omega)
   have h2 := h n (by omega)
   omega
 have := key l.length (Nat.le_refl _)
 rwa [List.take_length] at this
theorem f1c (m : List Nat) : ∀ a, m.foldl (fun a b => 10 * a + (b - 48)) a = a * 10 ^ m.length + a0l m := by
 induction m with
 | nil => intro a; simp [a0l]
 | cons x m ih =>
  intro a
  rw [List.foldl_cons, ih]
  unfold a0l
  rw [List.foldl_cons, ih (10 * 0 + (x - 48)), List.length_cons, Nat.pow_succ]
  grind
theorem n0k (l m : List Nat) : a0l (l ++ m) = a0l l * 10 ^ m.length + a0l m := by
 unfold a0l
 rw [List.foldl_append, f1c]
 rfl
theorem o0w (l : List Nat) (k n : Nat) (h : k + n ≤ l.length) : a0l (l.take (k + n)) = a0l (l.take k) * 10 ^ n + a0l ((l.drop k).take n) := by
 have e : l.take (k + n) = l.take k ++ (l.drop k).take n := by rw [List.take_add]
 rw [e, n0k]
 congr 3
 simp; omega
theorem a0v {xs : List Nat} (h : ∀ x ∈ xs, x < 256) : a0b (a0d xs) = xs := by
 unfold a0b a0d
 simp only [List.map_map]
 rw [show (xs.map (UInt8.toNat ∘ UInt8.ofNat)) = xs.map id from List.map_congr_left fun x hx => by
  have := h x hx
  simp only [Function.comp, id]
  rw [UInt8.toNat_ofNat']
  omega]
 simp
theorem f1d (D : List Nat) : a0l (D.reverse.map (· + 48)) = val 10 D := by
 induction D with
 | nil => rfl
 | cons x D ih =>
  rw [List.reverse_cons, List.map_append, List.map_cons, List.map_nil, m0x, ih, val_cons]
  omega
theorem v0j (a : Nat) : a0l (a0t a) = a := by
 unfold a0t
 split
 · rename_i h; subst h; rfl
 · rw [f1d, b0a (by omega)]
theorem h0h (a : Nat) : ∀ x ∈ a0t a, 48 ≤ x ∧ x ≤ 57 := by
 unfold a0t
 split
 · simp
 · intro x hx
   obtain ⟨y, hy, rfl⟩ := List.mem_map.1 hx
   have := b0d (B := 10) (by omega) a y (List.mem_reverse.1 hy)
   omega
theorem y0e (a : Nat) : (a0t a).length ≠ 0 ∧ ¬ (dg (a0t a) 0 = 48 ∧ 1 < (a0t a).length) := by
 unfold a0t
 split
 · simp
 · rename_i h0
   have hp : 0 < a := by omega
   have hl : 0 < (dig 10 a).length := List.length_pos_iff.2 ((d0j (by omega) a).2.2.2 hp)
   refine ⟨by rw [List.length_map, List.length_reverse]; omega, fun h => ?_⟩
   have h1 := h.1
   rw [a0s (by simpa using hl)] at h1
   simp at h1
   have h2 := v0a (B := 10) (by omega) a
   unfold e0x at h2
   rw [List.getLast?_eq_getElem?, List.getElem?_eq_getElem (by omega)] at h2
   exact h2 (by rw [h1])
def b0k : Nat → Nat → Nat × Nat
 | n, 0 => (n, 0)
 | n, p + 1 => if n % 5 = 0 then b0k (n / 5) p else (n, p + 1)
def c0j : Nat → Nat → Nat → Nat × Nat
 | n, d, 0 => (n, d)
 | n, d, p + 1 => if n % 5 = 0 ∧ d = 1 then c0j (n / 5) 1 p else c0j n (d * 5) p
theorem l0p {n : Nat} : ∀ (p d : Nat), 1 < d → c0j n d p = (n, d * 5 ^ p)
 | 0, d, _ => by rw [c0j, Nat.pow_zero, Nat.mul_one]
 | p + 1, d, h => by
  rw [c0j, if_neg (fun k => by omega), l0p p (d * 5) (by omega), Nat.pow_succ, Nat.mul_assoc, Nat.mul_comm 5]
theorem o0x : ∀ (p n : Nat), c0j n 1 p = ((b0k n p).1, 5 ^ (b0k n p).2)
 | 0, n => rfl
 | p + 1, n => by
  rw [c0j, b0k]
  by_cases h : n % 5 = 0
  · rw [if_pos ⟨h, rfl⟩, if_pos h]; exact o0x p (n / 5)
  · rw [if_neg (fun k => h k.1), if_neg h, l0p p (1 * 5) (by omega), Nat.one_mul, Nat.pow_succ, Nat.mul_comm]
theorem j0o : ∀ (p n : Nat), (b0k n p).1 ≤ n ∧ (b0k n p).2 ≤ p
 | 0, n => ⟨Nat.le_refl _, Nat.le_refl _⟩
 | p + 1, n => by
  rw [b0k]
  split
  · have := j0o p (n / 5)
    exact ⟨Nat.le_trans this.1 (Nat.div_le_self _ _), by omega⟩
  · exact ⟨Nat.le_refl _, Nat.le_refl _⟩
theorem o0y : ∀ (p n : Nat), 0 < n → 0 < (b0k n p).1
 | 0, n, h => h
 | p + 1, n, h => by
  rw [b0k]
  split
  · exact o0y p (n / 5) (by omega)
  · exact h
theorem r0i : ∀ (p n : Nat), (b0k n p).1 * 5 ^ (p - (b0k n p).2) = n
 | 0, n => by rw [b0k, Nat.sub_self, Nat.pow_zero, Nat.mul_one]
 | p + 1, n => by
  rw [b0k]
  by_cases h : n % 5 = 0
  · rw [if_pos h]
    have h1 := r0i p (n / 5)
    have h2 := (j0o p (n / 5)).2
    rw [show p + 1 - (b0k (n / 5) p).2 = p - (b0k (n / 5) p).2 + 1 by omega, Nat.pow_succ, ← Nat.mul_assoc, h1]
    omega
  · rw [if_neg h, Nat.sub_self, Nat.pow_zero, Nat.mul_one]
def isDg (b : Nat) : Bool := decide (48 ≤ b) && decide (b ≤ 57)
def n0t : List Nat → Bool × List Nat
 | 45 :: r => (true, r)
 | l => (false, l)
def q0j : List Nat → Option (List Nat × List Nat)
 | 46 :: r => if r.takeWhile isDg = [] then none else some (r.takeWhile isDg, r.dropWhile isDg)
 | l => some ([], l)
def powT : List Nat → Option (Int × List Nat)
 | 101 :: r =>
  let x := (n0t r).2.takeWhile isDg
  if x = [] ∨ 5 < x.length then none else some (if (n0t r).1 then -(a0l x : Int) else a0l x, (n0t r).2.dropWhile isDg)
 | l => some (0, l)
structure Numl where
 neg : Bool
 ds : List Nat
 pow : Int
def numl (l : List Nat) : Option Numl :=
 match q0j ((n0t l).2.dropWhile isDg) with
 | none => none
 | some (f, r) =>
  if (n0t l).2.takeWhile isDg ++ f = [] then none else
  match powT r with
  | none => none
  | some (e, r) => if r = [] then some ⟨(n0t l).1, (n0t l).2.takeWhile isDg ++ f, e - f.length⟩ else none
def errT (len : Nat) (q : Option Numl) : Int :=
 if 400 < len then 2 else match q with | none => 1 | some q => if q.pow < -6000 ∨ 6000 < q.pow then 3 else 0
def f0o (q : Numl) : Bool × Nat × Nat × Int :=
 if a0l q.ds = 0 then (false, 0, 1, 0)
 else if 0 ≤ q.pow then (q.neg, a0l q.ds / 2 ^ tz (a0l q.ds) * 5 ^ q.pow.toNat, 1, tz (a0l q.ds) + q.pow)
 else (q.neg, (b0k (a0l q.ds / 2 ^ tz (a0l q.ds)) (-q.pow).toNat).1, 5 ^ (b0k (a0l q.ds / 2 ^ tz (a0l q.ds)) (-q.pow).toNat).2, tz (a0l q.ds) + q.pow)
theorem f1e (d : Dv) : (bare d).m ≤ d.m := by
 unfold bare
 by_cases h : d.m = 0
 · rw [if_pos h]; exact Nat.zero_le _
 · rw [if_neg h]; exact Nat.div_le_self _ _
theorem a1j {B : Nat} (hB : 2 ≤ B) (d : Dv) : (dig B (bare d).m).length ≤ (dig B d.m).length := a0j hB (f1e d)
theorem n1e (d : Dv) {n : Nat} (hl : (dig B32 d.m).length ≤ n) {lo hi : Int} (h1 : lo ≤ d.e) (h2 : d.e ≤ hi) (h3 : lo ≤ 0) (h4 : 0 ≤ hi) : lo ≤ (bare d).e ∧ (bare d).e ≤ hi + 32 * n := by
 unfold bare
 by_cases h : d.m = 0
 · rw [if_pos h]; simp only; omega
 · rw [if_neg h]
   have h5 := f0u (m := d.m) (by omega)
   have h6 := c0o d.m
   simp only
   omega
theorem o1t (a N : Nat) : (dig B32 (a * 2 ^ N)).length ≤ (dig B32 a).length + (N / 32 + 1) := by
 refine Nat.le_trans (a0x a0a _ _) ?_
 have : (dig B32 (2 ^ N)).length = N / 32 + 1 := by rw [← l0f (B := B32) (w := 32) (by decide) (by omega) N]; simp
 omega
theorem h0i (m : Nat) : (dig B16 m).length ≤ 2 * (dig B32 m).length := by
 have := k0f m
 omega
structure Gd where
 rad : Int
 digs : Int
 lo : Int
 hi : Int
 grad : Bool
def wid (g : Gd) : Nat := if g.rad = 16 then 4 else 1
def most (g : Gd) : Int := if g.rad = 16 then 4000 else 17000
def farG (g : Gd) (n : Int) : Prop := n < -most g ∨ most g < n
instance (g : Gd) (n : Int) : Decidable (farG g n) := by unfold farG; exact inferInstance
def errG (g : Gd) : Int :=
 if g.rad ≠ 2 ∧ g.rad ≠ 16 then 6 else if g.digs < 1 ∨ 120 < g.digs ∨ farG g g.lo ∨ farG g g.hi ∨ g.hi < g.lo then 3 else 0
structure e0j (g : Gd) : Prop where
 rad : g.rad = 2 ∨ g.rad = 16
 d1 : 1 ≤ g.digs
 d2 : g.digs ≤ 120
 l1 : -17000 ≤ g.lo
 l2 : g.lo ≤ 17000
 h1 : -17000 ≤ g.hi
 h2 : g.hi ≤ 17000
 le : g.lo ≤ g.hi
theorem b0o {g : Gd} (h : errG g = 0) : e0j g := by
 unfold errG at h
 by_cases h1 : g.rad ≠ 2 ∧ g.rad ≠ 16
 · rw [if_pos h1] at h; simp at h
 · rw [if_neg h1] at h
   by_cases h2 : g.digs < 1 ∨ 120 < g.digs ∨ farG g g.lo ∨ farG g g.hi ∨ g.hi < g.lo
   · rw [if_pos h2] at h; simp at h
   · unfold farG most at h2
     split at h2 <;> constructor <;> omega
theorem b0f (g : Gd) : 1 ≤ wid g ∧ wid g ≤ 4 := by unfold wid; split <;> omega
def numP (num : Nat) (n : Int) : Nat := num * 2 ^ n.toNat
def denP (den : Nat) (n : Int) : Nat := den * 2 ^ (-n).toNat
def qP (num den : Nat) (n : Int) : Nat := numP num n / denP den n
def rP (num den : Nat) (n : Int) : Nat := numP num n % denP den n
theorem d0m {den : Nat} (h : 0 < den) (n : Int) : 0 < denP den n := Nat.mul_pos h (Nat.pow_pos (by omega))
def d0x (num den : Nat) (e : Int) (w D : Nat) (k : Int) : Prop := 2 ^ (w * (D - 1)) ≤ qP num den (e - w * k)
instance (num den : Nat) (e : Int) (w D : Nat) (k : Int) : Decidable (d0x num den e w D k) := by unfold d0x; exact inferInstance
theorem i0r {num den : Nat} (hd : 0 < den) (e : Int) (w D : Nat) (k : Int) (u v : Nat) (huv : (u : Int) - v = w * k + (w * (D - 1) : Nat) - e) :
 d0x num den e w D k ↔ den * 2 ^ u ≤ num * 2 ^ v := by
 unfold d0x qP
 rw [Nat.le_div_iff_mul_le (d0m hd _)]
 unfold numP denP
 have h2 : ∀ n : Nat, 0 < 2 ^ n := fun n => Nat.pow_pos (by omega)
 generalize hj : w * (D - 1) = j at *
 have e1 : ∃ c : Nat, (2 : Nat) ^ j * 2 ^ (-(e - w * k)).toNat * 2 ^ c = 2 ^ u * 2 ^ (c - 0) * 1 ∨ True := ⟨0, .inr trivial⟩
 clear e1
 by_cases hn : 0 ≤ e - w * k
 · obtain ⟨a, ha⟩ : ∃ a : Nat, e - w * k = a := ⟨(e - w * k).toNat, by omega⟩
   rw [ha]
   have t1 : (-(a : Int)).toNat = 0 := by omega
   have t2 : ((a : Int)).toNat = a := by omega
   rw [t1, t2]
   have t3 : u + a = v + j := by omega
   constructor
   · intro h
     have := Nat.mul_le_mul_right (2 ^ v) h
     have e2 : (2 ^ j * (den * 2 ^ 0)) * 2 ^ v = den * 2 ^ u * 2 ^ a := by
      have : 2 ^ j * 2 ^ v = 2 ^ u * 2 ^ a := by rw [← Nat.pow_add, ← Nat.pow_add]; congr 1; omega
      simp only [Nat.pow_zero, Nat.mul_one]
      grind
     rw [e2] at this
     have e3 : num * 2 ^ a * 2 ^ v = num * 2 ^ v * 2 ^ a := by grind
     rw [e3] at this
     exact Nat.le_of_mul_le_mul_right this (h2 a)
   · intro h
     have := Nat.mul_le_mul_right (2 ^ a) h
     have e2 : den * 2 ^ u * 2 ^ a = (2 ^ j * (den * 2 ^ 0)) * 2 ^ v := by
      have : 2 ^ j * 2 ^ v = 2 ^ u * 2 ^ a := by rw [← Nat.pow_add, ← Nat.pow_add]; congr 1; omega
      simp only [Nat.pow_zero, Nat.mul_one]
      grind
     rw [e2] at this
     have e3 : num * 2 ^ v * 2 ^ a = num * 2 ^ a * 2 ^ v := by grind
     rw [e3] at this
     exact Nat.le_of_mul_le_mul_right this (h2 v)
 · obtain ⟨a, ha⟩ : ∃ a : Nat, e - w * k = -(a : Int) := ⟨(-(e - w * k)).toNat, by omega⟩
   rw [ha]
   have t1 : (-(-(a : Int))).toNat = a := by omega
   have t2 : (-(a : Int)).toNat = 0 := by omega
   rw [t1, t2]
   have t3 : u = v + j + a := by omega
   subst t3
   have e2 : den * 2 ^ (v + j + a) = (2 ^ j * (den * 2 ^ a)) * 2 ^ v := by rw [Nat.pow_add, Nat.pow_add]; grind
   rw [e2, Nat.pow_zero, Nat.mul_one]
   constructor
   · intro h; exact Nat.mul_le_mul_right _ h
   · intro h; exact Nat.le_of_mul_le_mul_right h (h2 v)
theorem h0j {num den : Nat} (hd : 0 < den) {e : Int} {w D : Nat} {k k' : Int} (h : d0x num den e w D k) (hk : k' ≤ k) : d0x num den e w D k' := by
 have hw : (w : Int) * k' ≤ w * k := Int.mul_le_mul_of_nonneg_left hk (by omega)
 obtain ⟨v, hv⟩ : ∃ v : Nat, 0 ≤ (w : Int) * k' + (w * (D - 1) : Nat) - e + v := ⟨(-((w : Int) * k' + (w * (D - 1) : Nat) - e)).toNat, by omega⟩
 have h1 := (i0r hd e w D k ((w : Int) * k + (w * (D - 1) : Nat) - e + v).toNat v (by omega)).1 h
 refine (i0r hd e w D k' ((w : Int) * k' + (w * (D - 1) : Nat) - e + v).toNat v (by omega)).2 (Nat.le_trans ?_ h1)
 exact Nat.mul_le_mul_left _ (Nat.pow_le_pow_right (by omega) (by omega))
structure IsK (num den : Nat) (e : Int) (w D : Nat) (K : Int) : Prop where
 yes : d0x num den e w D K
 no : ¬ d0x num den e w D (K + 1)
theorem IsK.le {num den : Nat} (hd : 0 < den) {e : Int} {w D : Nat} {K k : Int} (h : IsK num den e w D K) (hk : d0x num den e w D k) : k ≤ K := by
 rcases Int.lt_or_le K k with h1 | h1
 · exact absurd (h0j hd hk (by omega)) h.no
 · exact h1
theorem IsK.iff {num den : Nat} (hd : 0 < den) {e : Int} {w D : Nat} {K k : Int} (h : IsK num den e w D K) : d0x num den e w D k ↔ k ≤ K :=
 ⟨h.le hd, fun hk => h0j hd h.yes hk⟩
theorem IsK.unique {num den : Nat} (hd : 0 < den) {e : Int} {w D : Nat} {K K' : Int} (h : IsK num den e w D K) (h' : IsK num den e w D K') : K = K' := by
 have h1 := h.le hd h'.yes
 have h2 := h'.le hd h.yes
 omega
theorem f0j (n : Int) (w : Nat) (hw : 0 < w) : (w : Int) * (n / w) ≤ n ∧ n < w * (n / w) + w := by
 have h1 := Int.emod_nonneg n (show (w : Int) ≠ 0 by omega)
 have h2 := Int.emod_lt_of_pos n (show (0 : Int) < w by omega)
 have h3 := Int.mul_ediv_add_emod n w
 omega
theorem t0a {num den : Nat} (hn : 0 < num) (hd : 0 < den) (e : Int) {w D : Nat} (hw : 0 < w) (hD : 1 ≤ D) (x : Int) (hx : x = (blen num : Int) - blen den + e) :
 d0x num den e w D (x / w - D) ∧ ¬ d0x num den e w D (x / w - D + 2) := by
 obtain ⟨b1, b2⟩ := f0j x w hw
 generalize x / (w : Int) = f at *
 have hn1 := h0v num hn
 have hn2 : num < 2 ^ blen num := (a0u num _).1 (Nat.le_refl _)
 have hd1 := h0v den hd
 have hd2 : den < 2 ^ blen den := (a0u den _).1 (Nat.le_refl _)
 have hbn := (e0h num).2 hn
 have hbd := (e0h den).2 hd
 have eD : (w : Int) * (f - D) + (w * (D - 1) : Nat) = w * f - w := by
  obtain ⟨d, rfl⟩ : ∃ d, D = d + 1 := ⟨D - 1, by omega⟩
  simp only [Nat.add_sub_cancel, Int.natCast_mul, Int.natCast_add]
  grind
 have eD2 : (w : Int) * (f - D + 2) + (w * (D - 1) : Nat) = w * f + w := by
  have : (w : Int) * (f - D + 2) = w * (f - D) + w * 2 := by grind
  omega
 constructor
 · obtain ⟨v, hv⟩ : ∃ v : Nat, 0 ≤ (w : Int) * f - w - e + v := ⟨(-((w : Int) * f - w - e)).toNat, by omega⟩
   refine (i0r hd e w D (f - D) ((w : Int) * f - w - e + v).toNat v (by omega)).2 ?_
   refine Nat.le_trans (Nat.mul_le_mul_right _ (Nat.le_of_lt hd2)) (Nat.le_trans ?_ (Nat.mul_le_mul_right _ hn1))
   rw [← Nat.pow_add, ← Nat.pow_add]
   exact Nat.pow_le_pow_right (by omega) (by omega)
 · obtain ⟨v, hv⟩ : ∃ v : Nat, 0 ≤ (w : Int) * f + w - e + v := ⟨(-((w : Int) * f + w - e)).toNat, by omega⟩
   intro h
   have h1 := (i0r hd e w D (f - D + 2) ((w : Int) * f + w - e + v).toNat v (by omega)).1 h
   have h2 : num * 2 ^ v < 2 ^ blen num * 2 ^ v := Nat.mul_lt_mul_of_pos_right hn2 (Nat.pow_pos (by omega))
   have h3 := Nat.mul_le_mul_right (2 ^ ((w : Int) * f + w - e + v).toNat) hd1
   rw [← Nat.pow_add] at h2 h3
   have h4 : 2 ^ (blen num + v) ≤ 2 ^ (blen den - 1 + ((w : Int) * f + w - e + v).toNat) := Nat.pow_le_pow_right (by omega) (by omega)
   omega
structure Pl where
 neg : Bool
 d : Nat
 pow : Int
 exact : Bool
 over : Bool
 under : Bool
def f0k (way : Int) (neg odd : Bool) (half : Int) : Bool :=
 if way = 1 then decide (0 < half) || (decide (half = 0) && odd) else if way = 2 then decide (0 ≤ half) else if way = 4 then !neg else if way = 5 then neg else false
def powK (g : Gd) (K : Int) : Int := if K < g.lo ∧ g.grad = true then g.lo else K
def upP (neg : Bool) (num den : Nat) (e : Int) (w : Nat) (way k : Int) : Bool :=
 decide (rP num den (e - w * k) ≠ 0) && f0k way neg (decide (qP num den (e - w * k) % 2 = 1)) (cmpN (rP num den (e - w * k) * 2) (denP den (e - w * k)))
def dUp (neg : Bool) (num den : Nat) (e : Int) (w : Nat) (way k : Int) : Nat := qP num den (e - w * k) + if upP neg num den e w way k then 1 else 0
def i0k (neg : Bool) (num den : Nat) (e : Int) (w D : Nat) (way k : Int) : Prop := upP neg num den e w way k = true ∧ w * D < blen (dUp neg num den e w way k)
instance (neg : Bool) (num den : Nat) (e : Int) (w D : Nat) (way k : Int) : Decidable (i0k neg num den e w D way k) := by unfold i0k; exact inferInstance
def digP (neg : Bool) (num den : Nat) (e : Int) (w D : Nat) (way k : Int) : Nat := if i0k neg num den e w D way k then 2 ^ (w * (D - 1)) else dUp neg num den e w way k
def powP (neg : Bool) (num den : Nat) (e : Int) (w D : Nat) (way k : Int) : Int := if i0k neg num den e w D way k then k + 1 else k
def fitK (neg : Bool) (num den : Nat) (e : Int) (g : Gd) (way K : Int) : Pl :=
 ⟨neg, digP neg num den e (wid g) g.digs.toNat way (powK g K),
  if digP neg num den e (wid g) g.digs.toNat way (powK g K) = 0 then 0 else powP neg num den e (wid g) g.digs.toNat way (powK g K),
  decide (rP num den (e - wid g * powK g K) = 0), decide (g.hi < powP neg num den e (wid g) g.digs.toNat way (powK g K)), decide (K < g.lo)⟩
theorem f0l {neg : Bool} {num den : Nat} {e : Int} {w D : Nat} {way k : Int} {X N : Nat} {ub : Bool} (h1 : upP neg num den e w way k = ub) (h2 : qP num den (e - w * k) = X) (h3 : N = w * (D - 1)) :
 digP neg num den e w D way k = (if ub = true ∧ w * D < blen (X + if ub then 1 else 0) then 2 ^ N else X + if ub then 1 else 0) ∧ powP neg num den e w D way k = if ub = true ∧ w * D < blen (X + if ub then 1 else 0) then k + 1 else k := by
 subst h1 h2 h3
 unfold digP powP
 by_cases h : i0k neg num den e w D way k
 · have h' : upP neg num den e w way k = true ∧ w * D < blen (qP num den (e - w * k) + if upP neg num den e w way k then 1 else 0) := h
   rw [if_pos h, if_pos h, if_pos h', if_pos h']; exact ⟨rfl, rfl⟩
 · have h' : ¬ (upP neg num den e w way k = true ∧ w * D < blen (qP num den (e - w * k) + if upP neg num den e w way k then 1 else 0)) := h
   rw [if_neg h, if_neg h, if_neg h', if_neg h']; exact ⟨rfl, rfl⟩
theorem t0b {neg : Bool} {num den : Nat} {e : Int} {g : Gd} {way K : Int} {wd D : Nat} {k1 : Int} {dd Y : Nat} {k2 : Int} (h5 : wid g = wd) (hD : g.digs.toNat = D) (h4 : powK g K = k1)
 (h2 : digP neg num den e wd D way k1 = dd) (h3 : powP neg num den e wd D way k1 = k2) (h8 : rP num den (e - wd * k1) = Y) :
 fitK neg num den e g way K = ⟨neg, dd, if dd = 0 then 0 else k2, decide (Y = 0), decide (g.hi < k2), decide (K < g.lo)⟩ := by
 subst h5 hD h4 h2 h3 h8
 rfl
def theK (num den : Nat) (e : Int) (w D : Nat) : Int :=
 if d0x num den e w D (((blen num : Int) - blen den + e) / w - D + 1) then ((blen num : Int) - blen den + e) / w - D + 1 else ((blen num : Int) - blen den + e) / w - D
theorem i0s {num den : Nat} (hn : 0 < num) (hd : 0 < den) (e : Int) {w D : Nat} (hw : 0 < w) (hD : 1 ≤ D) : IsK num den e w D (theK num den e w D) := by
 obtain ⟨h1, h2⟩ := t0a hn hd e hw hD _ rfl
 unfold theK
 by_cases h3 : d0x num den e w D (((blen num : Int) - blen den + e) / w - D + 1)
 · rw [if_pos h3]
   exact ⟨h3, by rw [show ∀ z : Int, z + 1 + 1 = z + 2 by omega]; exact h2⟩
 · rw [if_neg h3]
   exact ⟨h1, h3⟩
theorem o1u {num den : Nat} (hn : 0 < num) (hd : 0 < den) {e : Int} {w D : Nat} (hw : 0 < w) (hD : 1 ≤ D) {K : Int} (h : IsK num den e w D K) : theK num den e w D = K :=
 (i0s hn hd e hw hD).unique hd h
def a0m (neg : Bool) (num den : Nat) (e : Int) (g : Gd) (way : Int) : Pl :=
 if num = 0 then ⟨false, 0, 0, true, false, false⟩ else fitK neg num den e g way (theK num den e (wid g) g.digs.toNat)
theorem i0a {n : Nat} (h : n ≤ 480) : (dig B32 (2 ^ n)).length ≤ 16 := by
 have h1 := congrArg List.length (l0f (B := B32) (w := 32) (by decide) (by omega) n)
 rw [List.length_set, List.length_replicate] at h1
 omega
def norm (z e : Int) : Dv := bare (ofZ z e)
theorem i0t (g : Bool) (m : Nat) (e : Int) : norm (sg g m) e = bare ⟨g, m, e⟩ := by
 unfold norm ofZ
 by_cases h : m = 0
 · subst h
   have : sg g 0 = 0 := by unfold sg; cases g <;> rfl
   rw [this]; rfl
 · have h1 : (sg g m).natAbs = m := by unfold sg; cases g <;> simp
   have h2 : decide (sg g m < 0) = g := by unfold sg; cases g <;> simp <;> omega
   rw [h1, h2]
theorem y0f (z : Int) : sg (decide (z < 0)) z.natAbs = z := by
 unfold sg
 by_cases h : z < 0
 · simp [h]; omega
 · simp [h]; omega
theorem r0j (z : Int) (k : Nat) (e : Int) : norm (z * 2 ^ k) e = norm z (e + k) := by
 have h : z * 2 ^ k = sg (decide (z < 0)) (z.natAbs * 2 ^ k) := by
  rw [v0g, y0f]; simp
 rw [h, i0t, e0b]
 conv => rhs; rw [← y0f z]
 rw [i0t]
theorem f1f (e : Int) : norm 0 e = ⟨false, 0, 0⟩ := rfl
theorem a1k (z : Int) {e f : Int} (h : f ≤ e) : zOf (norm z e) f = z * 2 ^ (e - f).toNat := by
 by_cases h0 : z = 0
 · subst h0; rw [f1f]; simp [zOf, sg]
 · have hp : 0 < z.natAbs := by omega
   obtain ⟨s1, _⟩ := b0t z.natAbs hp
   unfold norm bare ofZ zOf
   rw [if_neg (by simp only; omega)]
   simp only
   have e1 : (e + (tz z.natAbs : Int) - f).toNat = tz z.natAbs + (e - f).toNat := by omega
   rw [e1, Nat.pow_add, ← Nat.mul_assoc, Nat.mul_comm (z.natAbs / _), s1, v0g, y0f]
   simp
theorem a1l {d : Dv} (hd : Bare d) {e : Int} (h : e ≤ d.e) : norm (zOf d e) e = d := by
 unfold zOf
 rw [v0g]
 have := r0j (sg d.neg d.m) (d.e - e).toNat e
 simp only [Int.natCast_pow] at this ⊢
 rw [show ((2 : Nat) : Int) = 2 from rfl, this, show e + ((d.e - e).toNat : Int) = d.e by omega, i0t]
 exact s0n hd
theorem a1m (g : Bool) (m : Nat) {x E e : Int} (h : m = 0 ∨ E ≤ x) (he : e ≤ E) : sg g (m * 2 ^ (x - E).toNat) * 2 ^ (E - e).toNat = sg g (m * 2 ^ (x - e).toNat) := by
 rcases h with h | h
 · subst h; simp [sg]
 · have : (x - e).toNat = (x - E).toNat + (E - e).toNat := by omega
   rw [this, Nat.pow_add, ← Nat.mul_assoc, v0g g (m * 2 ^ (x - E).toNat)]
   simp
theorem c1g (a b : Dv) {e : Int} (h1 : e ≤ a.e) (h2 : e ≤ b.e) : v0f a b = norm (zOf a e + zOf b e) e := by
 unfold v0f
 rw [e1e]
 have hE : e ≤ h0x a b := by unfold h0x; split; exact h1; split; exact h2; omega
 have ha : a.m = 0 ∨ h0x a b ≤ a.e := by
  unfold h0x
  by_cases hb0 : b.m = 0
  · rw [if_pos hb0]; exact .inr (by omega)
  · rw [if_neg hb0]
    by_cases ha0 : a.m = 0
    · exact .inl ha0
    · rw [if_neg ha0]; exact .inr (by omega)
 have hb : b.m = 0 ∨ h0x a b ≤ b.e := by
  unfold h0x
  by_cases hb0 : b.m = 0
  · exact .inl hb0
  · rw [if_neg hb0]
    by_cases ha0 : a.m = 0
    · rw [if_pos ha0]; exact .inr (by omega)
    · rw [if_neg ha0]; exact .inr (by omega)
 show norm _ _ = _
 generalize h0x a b = E at *
 have e1 : E = e + ((E - e).toNat : Int) := by omega
 have := r0j (sg a.neg (a.m * 2 ^ (a.e - E).toNat) + sg b.neg (b.m * 2 ^ (b.e - E).toNat)) (E - e).toNat e
 rw [← e1] at this
 rw [← this, Int.add_mul, a1m _ _ ha hE, a1m _ _ hb hE]
 rfl
theorem c1h (a : Dv) (e : Int) : zOf (d0c a) e = - zOf a e := by
 unfold zOf d0c sg
 by_cases h : a.m = 0
 · simp [h]
 · have : 0 < a.m := by omega
   cases hn : a.neg <;> simp [this]
theorem a1n (a b : Dv) {e : Int} (h1 : e ≤ a.e) (h2 : e ≤ b.e) : rCmp a b = Int.sign (zOf a e - zOf b e) := by
 unfold rCmp
 rw [c1g a (d0c b) h1 (show e ≤ (d0c b).e from h2), c1h]
 unfold norm
 rw [b1x, ← Int.sub_eq_add_neg]
theorem o1v (z : Int) {e : Int} (hz : z ≠ 0) : e ≤ (norm z e).e := by
 unfold norm bare ofZ
 simp only
 rw [if_neg (by omega)]
 simp only
 omega
def upK (a : Dv) (w D : Nat) : Int := (topD a - 1) / w - D + 1
theorem t0c {m : Nat} (hm : 0 < m) (e : Int) {w D : Nat} (hw : 1 ≤ w) (hD : 1 ≤ D) : IsK m 1 e w D ((e + blen m - 1) / w - D + 1) := by
 have key : ∀ k : Int, d0x m 1 e w D k ↔ k ≤ (e + blen m - 1) / w - D + 1 := by
  intro k
  have hb := f0j (e + blen m - 1) w hw
  have hbm := (e0h m).2 hm
  obtain ⟨v, hv⟩ : ∃ v : Nat, 0 ≤ (w : Int) * k + (w * (D - 1) : Nat) - e + v := ⟨(-((w : Int) * k + (w * (D - 1) : Nat) - e)).toNat, by omega⟩
  rw [i0r (by omega) e w D k ((w : Int) * k + (w * (D - 1) : Nat) - e + v).toNat v (by omega), Nat.one_mul]
  have h1 : 2 ^ ((w : Int) * k + (w * (D - 1) : Nat) - e + v).toNat ≤ m * 2 ^ v ↔ ((w : Int) * k + (w * (D - 1) : Nat) - e + v).toNat < blen m + v := by
   have h2 := h0e hm v
   have h3 := a0u (m * 2 ^ v) ((w : Int) * k + (w * (D - 1) : Nat) - e + v).toNat
   omega
  rw [h1]
  have e1 : ((w * (D - 1) : Nat) : Int) = w * D - w := by
   obtain ⟨d, rfl⟩ : ∃ d, D = d + 1 := ⟨D - 1, by omega⟩
   simp only [Nat.add_sub_cancel, Int.natCast_mul, Int.natCast_add]; grind
  generalize (e + blen m - 1) / (w : Int) = f at *
  have e2 : (w : Int) * (f - D + 1) = w * f - w * D + w := by grind
  have e3 : (w : Int) * (k - 1) = w * k - w := by grind
  constructor
  · intro h
    rcases Int.lt_or_le (f - D + 1) k with h4 | h4
    · have h5 : (w : Int) * (f - D + 1 + 1) ≤ w * k := Int.mul_le_mul_of_nonneg_left (by omega) (by omega)
      have e4 : (w : Int) * (f - D + 1 + 1) = w * f - w * D + w + w := by grind
      omega
    · exact h4
  · intro h
    have h5 : (w : Int) * k ≤ w * (f - D + 1) := Int.mul_le_mul_of_nonneg_left h (by omega)
    omega
 exact ⟨(key _).2 (Int.le_refl _), fun h => by have := (key _).1 h; omega⟩
def a0p (a : Dv) (g : Gd) : Bool :=
 if a.m = 0 then true else
 if a.e < wid g * g.lo ∨ wid g * (g.hi + g.digs) < topD a then false else
 if upK a (wid g) g.digs.toNat < g.lo then (if g.grad then decide (wid g * g.lo ≤ a.e) else false) else decide (wid g * upK a (wid g) g.digs.toNat ≤ a.e)
def i0u (a : Dv) (g : Gd) : Bool :=
 if a.m = 0 then true else
 (fitK a.neg a.m 1 a.e g 3 (upK a (wid g) g.digs.toNat)).exact && !(fitK a.neg a.m 1 a.e g 3 (upK a (wid g) g.digs.toNat)).over && (!(fitK a.neg a.m 1 a.e g 3 (upK a (wid g) g.digs.toNat)).under || g.grad)
theorem t0d (neg : Bool) (num den : Nat) (e : Int) (w : Nat) (k : Int) : upP neg num den e w 3 k = false := by
 unfold upP f0k
 simp
theorem l0q (neg : Bool) (num den : Nat) (e : Int) (w D : Nat) (k : Int) : powP neg num den e w D 3 k = k := by
 unfold powP
 rw [if_neg]
 unfold i0k
 rw [t0d]
 simp
theorem f1g (neg : Bool) (num den : Nat) (e : Int) (w D : Nat) (k : Int) : digP neg num den e w D 3 k = qP num den (e - w * k) := by
 unfold digP
 rw [if_neg]
 · unfold dUp; rw [t0d]; simp
 · unfold i0k; rw [t0d]; simp
theorem o0z {m : Nat} (hm : m % 2 = 1) (n : Int) : rP m 1 n = 0 ↔ 0 ≤ n := by
 unfold rP numP denP
 by_cases h : 0 ≤ n
 · have e1 : (-n).toNat = 0 := by omega
   rw [e1]
   simp [h, Nat.mod_one]
 · have e1 : n.toNat = 0 := by omega
   rw [e1, Nat.pow_zero, Nat.mul_one, Nat.one_mul]
   have := o1a (n := (-n).toNat) hm (by omega)
   constructor
   · intro h2; exact absurd h2 this
   · intro h2; exact absurd h2 h
theorem t0e {a : Dv} (ha : Bare a) {g : Gd} (G : e0j g) : i0u a g = a0p a g := by
 unfold i0u a0p
 by_cases h0 : a.m = 0
 · rw [if_pos h0, if_pos h0]
 · rw [if_neg h0, if_neg h0]
   have hodd : a.m % 2 = 1 := by
    rcases ha with h | h
    · exact h
    · rw [h] at h0; simp at h0
   have wp := b0f g
   have hd := G.d1
   have hle := G.le
   have hb := f0j (topD a - 1) (wid g) (by omega)
   obtain ⟨D, hD⟩ : ∃ D : Nat, g.digs = D := ⟨g.digs.toNat, by omega⟩
   have hDt : g.digs.toNat = D := by omega
   rw [hDt, hD]
   have eU : upK a (wid g) D = (topD a - 1) / (wid g : Int) - D + 1 := rfl
   obtain ⟨K, hK⟩ : ∃ K, upK a (wid g) D = K := ⟨_, rfl⟩
   rw [hK] at eU ⊢
   generalize (topD a - 1) / (wid g : Int) = f at *
   show (decide (rP a.m 1 (a.e - wid g * powK g K) = 0) && !decide (g.hi < powP a.neg a.m 1 a.e (wid g) g.digs.toNat 3 (powK g K)) && (!decide (K < g.lo) || g.grad)) = _
   rw [l0q]
   have hx : decide (rP a.m 1 (a.e - wid g * powK g K) = 0) = decide (wid g * powK g K ≤ a.e) := by
    have := o0z hodd (a.e - wid g * powK g K)
    by_cases h : (wid g : Int) * powK g K ≤ a.e
    · rw [decide_eq_true h, decide_eq_true (this.2 (by omega))]
    · rw [decide_eq_false h, decide_eq_false (fun h2 => h (by have := this.1 h2; omega))]
   rw [hx]
   have w0 : 0 ≤ (wid g : Int) := by omega
   have eh : (wid g : Int) * (g.hi + D) = wid g * g.hi + wid g * D := Int.mul_add _ _ _
   have eK : (wid g : Int) * K = wid g * f - wid g * D + wid g := by rw [eU]; grind
   have hll : (wid g : Int) * g.lo ≤ wid g * g.hi := Int.mul_le_mul_of_nonneg_left hle w0
   rw [eh]
   have hKh : K ≤ g.hi ↔ topD a ≤ wid g * g.hi + wid g * D := by
    constructor
    · intro h
      have := Int.mul_le_mul_of_nonneg_left h w0
      omega
    · intro h
      rcases Int.lt_or_le g.hi K with h1 | h1
      · have h2 : (wid g : Int) * (g.hi + 1) ≤ wid g * K := Int.mul_le_mul_of_nonneg_left (by omega) w0
        rw [Int.mul_add] at h2
        omega
      · exact h1
   unfold powK
   by_cases hu : K < g.lo
   · have hh := hKh.1 (by omega)
     cases hg : g.grad
     · simp [hu]
     · simp only [hu, true_and, if_true, decide_true, Bool.not_true, Bool.false_or, Bool.and_true]
       rw [decide_eq_false (by omega : ¬ g.hi < g.lo)]
       by_cases h1 : (wid g : Int) * g.lo ≤ a.e
       · rw [if_neg (by omega)]; simp [h1]
       · rw [if_pos (by omega)]; simp [h1]
   · rw [if_neg (by omega), if_neg hu, decide_eq_false hu]
     simp only [Bool.not_false, Bool.true_or, Bool.and_true]
     have h3 : (wid g : Int) * g.lo ≤ wid g * K := Int.mul_le_mul_of_nonneg_left (by omega) w0
     by_cases h1 : (wid g : Int) * K ≤ a.e
     · by_cases h2 : g.hi < K
       · rw [if_pos (.inr (by have := hKh.2; omega)), decide_eq_true h2]; simp
       · rw [if_neg (by have := hKh.1 (by omega); omega), decide_eq_false h2]; simp
     · rw [decide_eq_false h1]
       split <;> simp
theorem c1i {z : Int} (hz : z ≠ 0) (e : Int) : (norm z e).m ≠ 0 := by
 unfold norm ofZ bare
 simp only
 rw [if_neg (by omega)]
 have := (b0t z.natAbs (by omega)).2
 simp only
 omega
theorem j1q {z : Int} (hz : z ≠ 0) (e : Int) : topD (norm z e) = e + blen z.natAbs := by
 unfold norm ofZ bare topD
 simp only
 rw [if_neg (by omega)]
 have h := (b0t z.natAbs (by omega)).1
 have h2 := (b0t z.natAbs (by omega)).2
 have h4 : 0 < z.natAbs / 2 ^ tz z.natAbs := by
  generalize z.natAbs / 2 ^ tz z.natAbs = q at *
  omega
 have h3 := h0e h4 (tz z.natAbs)
 rw [Nat.mul_comm, h] at h3
 simp only
 omega
def c0e (a : Dv) (g : Gd) : Int := max g.lo (upK a (wid g) g.digs.toNat)
theorem k0q {g : Gd} (G : e0j g) {D : Nat} (hD : g.digs = D) {z : Int} {k : Int} (h1 : z.natAbs < 2 ^ (wid g * D)) (h2 : z = 0 ∨ 2 ^ (wid g * (D - 1)) ≤ z.natAbs ∨ (g.grad = true ∧ k = g.lo)) (hk : g.lo ≤ k) (hk2 : k ≤ g.hi) : a0p (norm z (wid g * k)) g = true := by
 by_cases hz : z = 0
 · subst hz; rfl
 · have wp := b0f g
   have hd := G.d1
   have w0 : 0 ≤ (wid g : Int) := by omega
   have ht := j1q hz (wid g * k)
   have he := o1v z (e := wid g * k) hz
   have hm := c1i hz (wid g * k)
   generalize norm z (wid g * k) = a at *
   have hDt : g.digs.toNat = D := by omega
   have hb1 : blen z.natAbs ≤ wid g * D := (a0u _ _).2 h1
   have hb0 := (e0h z.natAbs).2 (by omega)
   unfold a0p
   rw [if_neg hm, hDt, hD]
   have e1 : ((wid g * D : Nat) : Int) = wid g * D := Int.natCast_mul _ _
   have a1 : (wid g : Int) * g.lo ≤ wid g * k := Int.mul_le_mul_of_nonneg_left hk w0
   have a2 : (wid g : Int) * k ≤ wid g * g.hi := Int.mul_le_mul_of_nonneg_left hk2 w0
   have e2 : (wid g : Int) * (g.hi + D) = wid g * g.hi + wid g * D := Int.mul_add _ _ _
   rw [if_neg (by omega)]
   have hb := f0j (topD a - 1) (wid g) (by omega)
   have eU : upK a (wid g) D = (topD a - 1) / (wid g : Int) - D + 1 := rfl
   generalize upK a (wid g) D = K at *
   generalize (topD a - 1) / (wid g : Int) = f at *
   have eK : (wid g : Int) * K = wid g * f - wid g * D + wid g := by rw [eU]; grind
   have hKk : K ≤ k := by
    rcases Int.lt_or_le k K with h | h
    · have h3 : (wid g : Int) * (k + 1) ≤ wid g * K := Int.mul_le_mul_of_nonneg_left (by omega) w0
      rw [Int.mul_add] at h3
      omega
    · exact h
   have a3 : (wid g : Int) * K ≤ wid g * k := Int.mul_le_mul_of_nonneg_left hKk w0
   by_cases hu : K < g.lo
   · rw [if_pos hu]
     rcases h2 with h2 | h2 | ⟨h2, _⟩
     · exact absurd h2 hz
     · exfalso
       have h3 : wid g * (D - 1) < blen z.natAbs := by
        rcases Nat.lt_or_ge (wid g * (D - 1)) (blen z.natAbs) with h | h
        · exact h
        · have := (a0u _ _).1 h; omega
       have e3 : ((wid g * (D - 1) : Nat) : Int) = wid g * D - wid g := by
        obtain ⟨d, rfl⟩ : ∃ d, D = d + 1 := ⟨D - 1, by omega⟩
        simp only [Nat.add_sub_cancel, Int.natCast_mul, Int.natCast_add]; grind
       have h4 : (wid g : Int) * (K + 1) ≤ wid g * k := Int.mul_le_mul_of_nonneg_left (by omega) w0
       rw [Int.mul_add] at h4
       omega
     · rw [if_pos h2]; exact dTr (by omega)
   · rw [if_neg hu]; exact dTr (by omega)
theorem j1r {a : Dv} (ha : Bare a) {g : Gd} (G : e0j g) (hin : a0p a g = true) (h0 : a.m ≠ 0) {D : Nat} (hD : g.digs = D) {k : Int} (hk : c0e a g = k) :
 ∃ n d : Nat, a.e - wid g * k = n ∧ a.m * 2 ^ n = d ∧ 0 < d ∧ d < 2 ^ (wid g * D) ∧ (g.lo < k ∨ g.grad = false → 2 ^ (wid g * (D - 1)) ≤ d) ∧ g.lo ≤ k ∧ k ≤ g.hi := by
 have wp := b0f g
 have hd := G.d1
 have hDt : g.digs.toNat = D := by omega
 -- what being in the grid says
 have hodd : a.m % 2 = 1 := by
  rcases ha with h | h
  · exact h
  · rw [h] at h0; simp at h0
 have hm0 : 0 < a.m := by omega
 have hKis := t0c hm0 a.e (w := wid g) (D := D) wp.1 (by omega)
 have eU : upK a (wid g) D = (topD a - 1) / (wid g : Int) - D + 1 := rfl
 have hKis : IsK a.m 1 a.e (wid g) D (upK a (wid g) D) := by rw [eU]; exact hKis
 have hks : k = max g.lo (upK a (wid g) D) := by rw [← hk]; unfold c0e; rw [hDt]
 obtain ⟨K, hK⟩ : ∃ K, upK a (wid g) D = K := ⟨_, rfl⟩
 rw [hK] at hKis hks eU
 have hkin := hin
 rw [← t0e ha G] at hkin
 unfold i0u at hkin
 rw [if_neg h0, hDt, hK] at hkin
 have hkin2 : (decide (rP a.m 1 (a.e - wid g * powK g K) = 0) && !decide (g.hi < powP a.neg a.m 1 a.e (wid g) g.digs.toNat 3 (powK g K)) && (!decide (K < g.lo) || g.grad)) = true := hkin
 rw [l0q] at hkin2
 simp only [Bool.and_eq_true, decide_eq_true_eq, Bool.not_eq_true', decide_eq_false_iff_not, Bool.or_eq_true] at hkin2
 obtain ⟨⟨x1, x2⟩, x3⟩ := hkin2
 have hpk : powK g K = k := by
  unfold powK
  rw [hks]
  by_cases hu : K < g.lo
  · rcases x3 with x3 | x3
    · exact absurd hu x3
    · rw [if_pos ⟨hu, x3⟩]; omega
  · rw [if_neg (by omega)]; omega
 rw [hpk] at x1 x2
 have hke : (wid g : Int) * k ≤ a.e := by have := (o0z hodd (a.e - wid g * k)).1 x1; omega
 have hkl : g.lo ≤ k := by omega
 have hkh : k ≤ g.hi := by omega
 -- its digits
 obtain ⟨n, hn2⟩ : ∃ n : Nat, a.e - wid g * k = n := ⟨(a.e - wid g * k).toNat, by omega⟩
 obtain ⟨d, hdd⟩ : ∃ d, a.m * 2 ^ n = d := ⟨_, rfl⟩
 have hq : qP a.m 1 (a.e - wid g * k) = d := by
  rw [hn2]; unfold qP numP denP
  rw [show (-(n : Int)).toNat = 0 by omega]
  simp [hdd]
 have hd0 : 0 < d := by rw [← hdd]; exact Nat.mul_pos hm0 (Nat.pow_pos (by omega))
 have hdlt : d < 2 ^ (wid g * D) := by
  have h1 := hKis.no
  have h2 : ¬ d0x a.m 1 a.e (wid g) D (k + 1) := fun h => h1 (h0j (by omega) h (by omega))
  unfold d0x at h2
  have e1 : wid g * D = wid g * (D - 1) + wid g := by
   obtain ⟨c, rfl⟩ : ∃ c, D = c + 1 := ⟨D - 1, by omega⟩
   simp only [Nat.add_sub_cancel]; grind
  rw [e1, Nat.pow_add]
  by_cases hw : wid g ≤ n
  · have e2 : a.e - wid g * (k + 1) = ((n - wid g : Nat) : Int) := by rw [Int.mul_add]; omega
    have e3 : qP a.m 1 (a.e - wid g * (k + 1)) = a.m * 2 ^ (n - wid g) := by
     rw [e2]; unfold qP numP denP
     rw [show (-((n - wid g : Nat) : Int)).toNat = 0 by omega]
     simp
    rw [e3] at h2
    have e4 : d = a.m * 2 ^ (n - wid g) * 2 ^ wid g := by rw [← hdd, Nat.mul_assoc, ← Nat.pow_add]; congr 2; omega
    rw [e4]
    exact Nat.mul_lt_mul_of_pos_right (by omega) (Nat.pow_pos (by omega))
  · have e2 : a.e - wid g * (k + 1) = -((wid g - n : Nat) : Int) := by rw [Int.mul_add]; omega
    have e3 : qP a.m 1 (a.e - wid g * (k + 1)) = a.m / 2 ^ (wid g - n) := by
     rw [e2]; unfold qP numP denP
     rw [show (-((wid g - n : Nat) : Int)).toNat = 0 by omega, show (-(-((wid g - n : Nat) : Int))).toNat = wid g - n by omega]
     simp
    rw [e3] at h2
    have h3 : a.m / 2 ^ (wid g - n) < 2 ^ (wid g * (D - 1)) := by omega
    rw [Nat.div_lt_iff_lt_mul (Nat.pow_pos (by omega))] at h3
    have e4 : 2 ^ (wid g * (D - 1)) * 2 ^ (wid g - n) * 2 ^ n = 2 ^ (wid g * (D - 1)) * 2 ^ wid g := by rw [Nat.mul_assoc, ← Nat.pow_add]; congr 2; omega
    rw [← hdd, ← e4]
    exact Nat.mul_lt_mul_of_pos_right h3 (Nat.pow_pos (by omega))
 have hdge : g.lo < k ∨ g.grad = false → 2 ^ (wid g * (D - 1)) ≤ d := by
  intro h
  have h1 : k = K := by
   rcases h with h | h
   · omega
   · rcases x3 with x3 | x3
     · omega
     · rw [h] at x3; simp at x3
  have h2 := hKis.yes
  unfold d0x at h2
  rw [← h1, hq] at h2
  exact h2
 exact ⟨n, d, hn2, hdd, hd0, hdlt, hdge, hkl, hkh⟩
def le2 (a : Nat) (x : Int) (b : Nat) (y : Int) : Prop := a * 2 ^ (x - min x y).toNat ≤ b * 2 ^ (y - min x y).toNat
theorem d0y {a b : Nat} {x y : Int} (s : Int) (h1 : s ≤ x) (h2 : s ≤ y) : le2 a x b y ↔ a * 2 ^ (x - s).toNat ≤ b * 2 ^ (y - s).toNat := by
 unfold le2
 rw [show (x - s).toNat = (x - min x y).toNat + (min x y - s).toNat by omega, show (y - s).toNat = (y - min x y).toNat + (min x y - s).toNat by omega, Nat.pow_add, Nat.pow_add, ← Nat.mul_assoc, ← Nat.mul_assoc]
 have hp : 0 < 2 ^ (min x y - s).toNat := Nat.pow_pos (by omega)
 exact ⟨fun h => Nat.mul_le_mul_right _ h, fun h => Nat.le_of_mul_le_mul_right h hp⟩
theorem l0r {a b c : Nat} {x y z : Int} (h : le2 a x b y) (k : le2 b y c z) : le2 a x c z := by
 obtain ⟨s, h1, h2, h3⟩ : ∃ s : Int, s ≤ x ∧ s ≤ y ∧ s ≤ z := ⟨min x (min y z), by omega, by omega, by omega⟩
 rw [d0y s h1 h2] at h
 rw [d0y s h2 h3] at k
 rw [d0y s h1 h3]
 exact Nat.le_trans h k
theorem t0f {a b : Nat} {x : Int} : le2 a x b x ↔ a ≤ b := by
 unfold le2
 rw [show (x - min x x).toNat = 0 by omega]
 omega
theorem p0a {a : Nat} {x : Int} (n : Nat) : le2 (a * 2 ^ n) x a (x + n) ∧ le2 a (x + n) (a * 2 ^ n) x := by
 rw [d0y x (Int.le_refl _) (by omega), d0y x (by omega) (Int.le_refl _)]
 rw [show (x - x).toNat = 0 by omega, show (x + (n : Int) - x).toNat = n by omega]
 simp
theorem r0k {num den : Nat} (hd : 0 < den) (e k : Int) (m : Nat) : m ≤ qP num den (e - k) ↔ le2 (m * den) k num e := by
 unfold qP
 rw [Nat.le_div_iff_mul_le (d0m hd _)]
 unfold numP denP le2
 rcases Int.le_total k e with h | h
 · rw [show (-(e - k)).toNat = 0 by omega, show (k - min k e).toNat = 0 by omega, show (e - min k e).toNat = (e - k).toNat by omega]
   simp only [Nat.pow_zero, Nat.mul_one]
 · rw [show (e - k).toNat = 0 by omega, show (k - min k e).toNat = (-(e - k)).toNat by omega, show (e - min k e).toNat = 0 by omega]
   simp only [Nat.pow_zero, Nat.mul_one, Nat.mul_assoc]
theorem s1b {num den : Nat} (_hd : 0 < den) (e k : Int) : rP num den (e - k) = 0 ↔ le2 num e (qP num den (e - k) * den) k := by
 have h1 := Nat.div_add_mod (numP num (e - k)) (denP den (e - k))
 have e0 : le2 num e (qP num den (e - k) * den) k ↔ numP num (e - k) ≤ denP den (e - k) * qP num den (e - k) := by
  unfold le2 numP denP
  rcases Int.le_total k e with h | h
  · rw [show (-(e - k)).toNat = 0 by omega, show (k - min e k).toNat = 0 by omega, show (e - min e k).toNat = (e - k).toNat by omega]
    simp only [Nat.pow_zero, Nat.mul_one]
    rw [Nat.mul_comm (qP num den (e - k)) den]
  · rw [show (e - k).toNat = 0 by omega, show (k - min e k).toNat = (-(e - k)).toNat by omega, show (e - min e k).toNat = 0 by omega]
    simp only [Nat.pow_zero, Nat.mul_one]
    rw [show qP num den (e - k) * den * 2 ^ (-(e - k)).toNat = den * 2 ^ (-(e - k)).toNat * qP num den (e - k) by grind]
 rw [e0]
 unfold rP qP
 omega
theorem j1s {num den : Nat} (_hd : 0 < den) (e k : Int) :
 (denP den (e - k) ≤ 2 * rP num den (e - k) ↔ le2 ((2 * qP num den (e - k) + 1) * den) (k - 1) num e) ∧ (2 * rP num den (e - k) ≤ denP den (e - k) ↔ le2 num e ((2 * qP num den (e - k) + 1) * den) (k - 1)) := by
 have h1 := Nat.div_add_mod (numP num (e - k)) (denP den (e - k))
 have hq : qP num den (e - k) = numP num (e - k) / denP den (e - k) := rfl
 have hr : rP num den (e - k) = numP num (e - k) % denP den (e - k) := rfl
 rw [← hq, ← hr] at h1
 generalize qP num den (e - k) = Q at *
 generalize rP num den (e - k) = R at *
 clear hq hr
 have key : (2 * Q + 1) * denP den (e - k) = 2 * (denP den (e - k) * Q) + denP den (e - k) := by grind
 have e0 : (le2 ((2 * Q + 1) * den) (k - 1) num e ↔ (2 * Q + 1) * denP den (e - k) ≤ 2 * numP num (e - k)) ∧ (le2 num e ((2 * Q + 1) * den) (k - 1) ↔ 2 * numP num (e - k) ≤ (2 * Q + 1) * denP den (e - k)) := by
  unfold numP denP
  rcases Int.le_total k e with h | h
  · rw [d0y (k - 1) (Int.le_refl _) (by omega), d0y (k - 1) (by omega) (Int.le_refl _)]
    rw [show (-(e - k)).toNat = 0 by omega, show (k - 1 - (k - 1)).toNat = 0 by omega, show (e - (k - 1)).toNat = (e - k).toNat + 1 by omega, Nat.pow_succ]
    simp only [Nat.pow_zero, Nat.mul_one]
    rw [show num * (2 ^ (e - k).toNat * 2) = 2 * (num * 2 ^ (e - k).toNat) by grind]
    exact ⟨Iff.rfl, Iff.rfl⟩
  · rw [d0y (e - 1) (by omega) (by omega), d0y (e - 1) (by omega) (by omega)]
    rw [show (e - k).toNat = 0 by omega, show (k - 1 - (e - 1)).toNat = (-(e - k)).toNat by omega, show (e - (e - 1)).toNat = 1 by omega]
    simp only [Nat.pow_zero, Nat.mul_one, Nat.pow_one]
    rw [show (2 * Q + 1) * den * 2 ^ (-(e - k)).toNat = (2 * Q + 1) * (den * 2 ^ (-(e - k)).toNat) by grind, Nat.mul_comm num 2]
    exact ⟨Iff.rfl, Iff.rfl⟩
 rw [e0.1, e0.2, key]
 omega
theorem f1h {num den : Nat} (hd : 0 < den) (e : Int) (w D : Nat) (k : Int) : d0x num den e w D k ↔ le2 (2 ^ (w * (D - 1)) * den) (w * k) num e := by
 unfold d0x; exact r0k hd e _ _
theorem t0g {r D : Nat} : (0 < cmpN (r * 2) D ↔ ¬ 2 * r ≤ D) ∧ (0 ≤ cmpN (r * 2) D ↔ D ≤ 2 * r) ∧ (cmpN (r * 2) D = 0 ↔ 2 * r ≤ D ∧ D ≤ 2 * r) := by
 unfold cmpN
 refine ⟨?_, ?_, ?_⟩ <;> split <;> (try split) <;> omega
def ge10 (num den : Nat) (j : Int) : Prop := den * 10 ^ j.toNat ≤ num * 10 ^ (-j).toNat
instance (num den : Nat) (j : Int) : Decidable (ge10 num den j) := by unfold ge10; exact inferInstance
theorem c0q (n : Nat) : 0 < 10 ^ n := Nat.pow_pos (by omega)
theorem i0b {num den : Nat} {j : Int} {u v : Nat} (h : (u : Int) - v = j) : ge10 num den j ↔ den * 10 ^ u ≤ num * 10 ^ v := by
 unfold ge10
 rcases Int.le_total 0 j with hj | hj
 · rw [show (-j).toNat = 0 by omega, Nat.pow_zero, Nat.mul_one, show u = j.toNat + v by omega, Nat.pow_add, ← Nat.mul_assoc]
   exact ⟨fun h => Nat.mul_le_mul_right _ h, fun h => Nat.le_of_mul_le_mul_right h (c0q v)⟩
 · rw [show j.toNat = 0 by omega, Nat.pow_zero, Nat.mul_one, show v = (-j).toNat + u by omega, Nat.pow_add, ← Nat.mul_assoc]
   exact ⟨fun h => Nat.mul_le_mul_right _ h, fun h => Nat.le_of_mul_le_mul_right h (c0q u)⟩
theorem v0k {num den : Nat} {i j : Int} (h : ge10 num den j) (hij : i ≤ j) : ge10 num den i := by
 obtain ⟨v, hv⟩ : ∃ v : Nat, 0 ≤ i + v := ⟨(-i).toNat, by omega⟩
 refine (i0b (u := (i + v).toNat) (v := v) (by omega)).2 (Nat.le_trans ?_ ((i0b (u := (j + v).toNat) (v := v) (by omega)).1 h))
 exact Nat.mul_le_mul_left _ (Nat.pow_le_pow_right (by omega) (by omega))
def n10 (num : Nat) (u : Int) : Nat := num * 10 ^ u.toNat
def d10 (den : Nat) (u : Int) : Nat := den * 10 ^ (-u).toNat
def q10 (num den : Nat) (u : Int) : Nat := n10 num u / d10 den u
def r10 (num den : Nat) (u : Int) : Nat := n10 num u % d10 den u
theorem p0b {den : Nat} (h : 0 < den) (u : Int) : 0 < d10 den u := Nat.mul_pos h (c0q _)
theorem i0v {num den : Nat} (hd : 0 < den) (a : Nat) (u : Int) : 10 ^ a ≤ q10 num den u ↔ ge10 num den (a - u) := by
 unfold q10
 rw [Nat.le_div_iff_mul_le (p0b hd u), i0b (u := a + (-u).toNat) (v := u.toNat) (by omega)]
 unfold n10 d10
 rw [Nat.pow_add, show 10 ^ a * (den * 10 ^ (-u).toNat) = den * (10 ^ a * 10 ^ (-u).toNat) by grind]
structure IsP (num den : Nat) (P : Int) : Prop where
 yes : ge10 num den P
 no : ¬ ge10 num den (P + 1)
theorem IsP.iff {num den : Nat} {P : Int} (h : IsP num den P) (j : Int) : ge10 num den j ↔ j ≤ P :=
 ⟨fun k => by
   rcases Int.lt_or_le P j with h1 | h1
   · exact absurd (v0k k (by omega)) h.no
   · exact h1, fun k => v0k h.yes k⟩
theorem IsP.unique {num den : Nat} {P Q : Int} (h : IsP num den P) (k : IsP num den Q) : P = Q := by
 have h1 := (h.iff Q).1 k.yes
 have h2 := (k.iff P).1 h.yes
 omega
theorem b0e (n k : Nat) (hk : 1 ≤ k) : (a0t n).length ≤ k ↔ n < 10 ^ k := by
 unfold a0t
 split
 · rename_i h; subst h
   exact ⟨fun _ => c0q k, fun _ => by simpa using hk⟩
 · rw [List.length_map, List.length_reverse, a0h (by omega)]
theorem c0v (n : Nat) : 1 ≤ (a0t n).length := by have := (y0e n).1; omega
theorem t0h {n : Nat} (h : 0 < n) : 10 ^ ((a0t n).length - 1) ≤ n := by
 have h1 := c0v n
 by_cases h2 : (a0t n).length = 1
 · rw [h2]; exact h
 · have h3 := b0e n ((a0t n).length - 1) (by omega)
   omega
def theP (num den : Nat) : Int := (a0t (q10 num den (a0t den).length)).length - 1 - (a0t den).length
theorem k0r {num den : Nat} (hn : 0 < num) (hd : 0 < den) : IsP num den (theP num den) := by
 unfold theP
 obtain ⟨b, hb⟩ : ∃ b, b = (a0t den).length := ⟨_, rfl⟩
 rw [← hb]
 have h1 : den < 10 ^ b := (b0e den b (by rw [hb]; exact c0v den)).1 (by omega)
 have hq : 0 < q10 num den b := by
  have h2 := (i0v (num := num) hd 0 b).2 ((i0b (u := 0) (v := b) (by omega)).2 (by
    rw [Nat.pow_zero, Nat.mul_one]
    exact Nat.le_trans (Nat.le_of_lt h1) (Nat.le_mul_of_pos_left _ hn)))
  rw [Nat.pow_zero] at h2; exact h2
 have hl := c0v (q10 num den b)
 have h3 := t0h hq
 have h4 := (b0e (q10 num den b) _ hl).1 (Nat.le_refl _)
 rw [i0v hd] at h3
 have h5 : ¬ 10 ^ (a0t (q10 num den b)).length ≤ q10 num den b := by omega
 rw [i0v hd] at h5
 generalize (a0t (q10 num den b)).length = L at *
 exact ⟨by rw [show (L : Int) - 1 - b = ((L - 1 : Nat) : Int) - b by omega]; exact h3, by rw [show (L : Int) - 1 - b + 1 = (L : Int) - b by omega]; exact h5⟩
theorem IsP.bd {num den : Nat} {P : Int} (h : IsP num den P) (hd : 0 < den) : 3 * P < blen num + 1 ∧ -(blen den : Int) < 3 * (P + 1) := by
 have h8 : ∀ n : Nat, 2 ^ (3 * n) ≤ 10 ^ n := fun n => by rw [Nat.pow_mul]; exact Nat.pow_le_pow_left (by omega) n
 have hN := (a0u num _).1 (Nat.le_refl _)
 have hD := (a0u den _).1 (Nat.le_refl _)
 constructor
 · rcases Int.lt_or_le P 0 with h0 | h0
   · omega
   · have h1 := (i0b (u := P.toNat) (v := 0) (by omega)).1 h.yes
     rw [Nat.pow_zero, Nat.mul_one] at h1
     have h2 : 10 ^ P.toNat ≤ num := Nat.le_trans (Nat.le_mul_of_pos_left _ hd) h1
     have h3 : 2 ^ (3 * P.toNat) < 2 ^ blen num := Nat.lt_of_le_of_lt (Nat.le_trans (h8 _) h2) hN
     have h4 := (Nat.pow_lt_pow_iff_right (by omega)).1 h3
     omega
 · rcases Int.lt_or_le 0 (P + 1) with h0 | h0
   · omega
   · have h1 : ¬ den * 10 ^ 0 ≤ num * 10 ^ (-(P + 1)).toNat := fun k => h.no ((i0b (by omega)).2 k)
     rw [Nat.pow_zero, Nat.mul_one] at h1
     by_cases hn : num = 0
     · have := h.yes
       rw [hn] at this
       unfold ge10 at this
       have k1 := Nat.mul_pos hd (c0q P.toNat)
       omega
     · have h2 : 10 ^ (-(P + 1)).toNat < den := by
        have := Nat.le_mul_of_pos_left (10 ^ (-(P + 1)).toNat) (Nat.pos_of_ne_zero hn)
        omega
       have h3 : 2 ^ (3 * (-(P + 1)).toNat) < 2 ^ blen den := Nat.lt_of_le_of_lt (h8 _) (Nat.lt_trans h2 hD)
       have h4 := (Nat.pow_lt_pow_iff_right (by omega)).1 h3
       omega
theorem IsP.long {num den : Nat} {P : Int} (h : IsP num den P) (hd : 0 < den) {k : Nat} (hk : 1 ≤ k) (p : Int) : k < (a0t (q10 num den (k - 1 - p))).length ↔ p < P := by
 have h1 := b0e (q10 num den (k - 1 - p)) k hk
 have h2 := (i0v (num := num) hd k (k - 1 - p)).trans ((h.iff _).trans (show (k : Int) - (k - 1 - p) ≤ P ↔ p < P by omega))
 omega
theorem IsP.short {num den : Nat} {P : Int} (h : IsP num den P) (hd : 0 < den) {k : Nat} (hk : 1 ≤ k) (p : Int) : ((a0t (q10 num den (k - 1 - p))).length < k ∨ q10 num den (k - 1 - p) = 0) ↔ P < p := by
 have h2 := (i0v (num := num) hd (k - 1) (k - 1 - p)).trans ((h.iff _).trans (show ((k - 1 : Nat) : Int) - (k - 1 - p) ≤ P ↔ p ≤ P by omega))
 generalize q10 num den (k - 1 - p) = q at *
 have hz : q = 0 → q < 10 ^ (k - 1) := fun e => by rw [e]; exact c0q _
 by_cases h3 : k = 1
 · subst h3
   have := c0v q
   rw [Nat.sub_self, Nat.pow_zero] at h2
   omega
 · have h1 := b0e q (k - 1) (by omega)
   omega
def upT (num den : Nat) (u : Int) : Bool := decide (0 < cmpN (r10 num den u * 2) (d10 den u)) || (decide (cmpN (r10 num den u * 2) (d10 den u) = 0) && decide (q10 num den u % 2 = 1))
def dT (num den : Nat) (u : Int) : Nat := q10 num den u + if upT num den u then 1 else 0
def decM (num den k : Nat) : List Nat × Int :=
 if k < (a0t (dT num den (k - 1 - theP num den))).length then ((a0t (dT num den (k - 1 - theP num den))).take k, theP num den + 1) else (a0t (dT num den (k - 1 - theP num den)), theP num den)
theorem o1w {num den : Nat} (hd : 0 < den) (u : Int) : 2 * (dT num den u * d10 den u) ≤ 2 * n10 num u + d10 den u ∧ 2 * n10 num u ≤ 2 * (dT num den u * d10 den u) + d10 den u := by
 have h1 := Nat.div_add_mod (n10 num u) (d10 den u)
 have h2 := Nat.mod_lt (n10 num u) (p0b hd u)
 have hr : r10 num den u = n10 num u % d10 den u := rfl
 have hq : q10 num den u = n10 num u / d10 den u := rfl
 have hc := @t0g (r10 num den u) (d10 den u)
 unfold dT upT
 rw [← hr, ← hq] at h1
 rw [← hr] at h2
 generalize r10 num den u = r at *
 generalize q10 num den u = q at *
 generalize d10 den u = D at *
 generalize cmpN (r * 2) D = c at *
 rw [Nat.mul_comm] at h1
 by_cases c1 : 0 < c
 · have := hc.1.1 c1
   rw [decide_eq_true c1, Bool.true_or, if_pos rfl, Nat.add_mul, Nat.one_mul]
   omega
 · rw [decide_eq_false c1, Bool.false_or]
   have c2 : 2 * r ≤ D := by
    rcases Nat.lt_or_ge D (2 * r) with k | k
    · exact absurd (hc.1.2 (by omega)) c1
    · exact k
   by_cases c3 : c = 0
   · have := hc.2.2.1 c3
     split
     · rw [Nat.add_mul, Nat.one_mul]; omega
     · rw [Nat.add_zero]; omega
   · rw [decide_eq_false c3, Bool.false_and, if_neg (by simp), Nat.add_zero]; omega
theorem p0c {num den : Nat} (hn : 0 < num) (hd : 0 < den) {k : Nat} (hk : 1 ≤ k) {s : List Nat} {p : Int} (h : decM num den k = (s, p)) :
 s.length = k ∧ (∀ x ∈ s, 48 ≤ x ∧ x ≤ 57) ∧ 10 ^ (k - 1) ≤ a0l s ∧ theP num den ≤ p ∧ p ≤ theP num den + 1 ∧
 (dT num den (k - 1 - theP num den) = a0l s ∧ p = theP num den ∨ dT num den (k - 1 - theP num den) = a0l s * 10 ∧ p = theP num den + 1) := by
 have hP := k0r hn hd
 have hlo : 10 ^ (k - 1) ≤ q10 num den (k - 1 - theP num den) := (i0v hd _ _).2 ((hP.iff _).2 (by omega))
 have hhi : q10 num den (k - 1 - theP num den) < 10 ^ k := by
  have h1 := hP.long hd hk (theP num den)
  have h2 := b0e (q10 num den (k - 1 - theP num den)) k hk
  omega
 unfold decM at h
 have hd1 : q10 num den (k - 1 - theP num den) ≤ dT num den (k - 1 - theP num den) ∧ dT num den (k - 1 - theP num den) ≤ q10 num den (k - 1 - theP num den) + 1 := by unfold dT; split <;> omega
 generalize dT num den (k - 1 - theP num den) = d at *
 generalize q10 num den (k - 1 - theP num den) = q at *
 generalize theP num den = P at *
 have hl := b0e d k hk
 have hn := v0j d
 have hg := h0h d
 by_cases h1 : k < (a0t d).length
 · rw [if_pos h1] at h
   injection h with h3 h4
   have e1 : d = 10 ^ k := by omega
   have hl2 : (a0t d).length ≤ k + 1 := (b0e d (k + 1) (by omega)).2 (by rw [e1]; exact Nat.pow_lt_pow_right (by omega) (by omega))
   have e4 : a0l (a0t d) = a0l ((a0t d).take k) * 10 ^ ((a0t d).drop k).length + a0l ((a0t d).drop k) := by rw [← n0k, List.take_append_drop]
   have e5 : ((a0t d).drop k).length = 1 := by rw [List.length_drop]; omega
   have e6 : a0l ((a0t d).drop k) < 10 ^ ((a0t d).drop k).length := g0k _ fun j hj => by rw [a0s hj]; exact (hg _ (List.mem_of_mem_drop (List.getElem_mem hj))).2
   rw [hn, e5, Nat.pow_one, e1] at e4
   rw [e5, Nat.pow_one] at e6
   rw [← e1] at e4
   rw [h3] at e4
   obtain ⟨j, rfl⟩ : ∃ j, k = j + 1 := ⟨k - 1, by omega⟩
   rw [Nat.pow_succ] at e1
   rw [Nat.add_sub_cancel]
   refine ⟨by rw [← h3, List.length_take]; omega, fun x hx => hg x (List.mem_of_mem_take (h3 ▸ hx)), by omega, by omega, by omega, .inr ⟨by omega, by omega⟩⟩
 · rw [if_neg h1] at h
   injection h with h3 h4
   have hk1 : ¬ (a0t d).length ≤ k - 1 := by
    by_cases h5 : k = 1
    · have := c0v d; omega
    · rw [b0e d (k - 1) (by omega)]; omega
   subst h3 h4
   rw [hn]
   exact ⟨by omega, hg, by omega, by omega, by omega, .inl ⟨rfl, rfl⟩⟩
theorem f1i {num den : Nat} (hn : 0 < num) (hd : 0 < den) {k : Nat} (hk : 1 ≤ k) {s : List Nat} {p : Int} (h : decM num den k = (s, p)) {M : Nat} (hM : M < 10 ^ (k - 1)) {a b : Nat} (hab : (a : Int) - b = p - (k - 1)) :
 2 * M * (a0l s * den * 10 ^ a) < (2 * M + 1) * (num * 10 ^ b) ∧ 2 * M * (num * 10 ^ b) < 2 * M * (a0l s * den * 10 ^ a) + num * 10 ^ b := by
 obtain ⟨_, _, hS, _, _, hd2⟩ := p0c hn hd hk h
 have hP := k0r hn hd
 have hlo : ge10 num den (theP num den) := hP.yes
 have hne := o1w (num := num) hd (k - 1 - theP num den)
 unfold n10 d10 at hne
 generalize dT num den (k - 1 - theP num den) = d at *
 generalize theP num den = P at *
 -- above and below, as they stand
 have key : ∀ a b : Nat, (a : Int) - b = P - (k - 1) → 2 * (d * (den * 10 ^ a)) ≤ 2 * (num * 10 ^ b) + den * 10 ^ a ∧ 2 * (num * 10 ^ b) ≤ 2 * (d * (den * 10 ^ a)) + den * 10 ^ a ∧ 10 ^ (k - 1) * (den * 10 ^ a) ≤ num * 10 ^ b := by
  intro a b hab
  have h1 := (i0b (u := k - 1 + a) (v := b) (by omega)).1 hlo
  rw [Nat.pow_add] at h1
  obtain ⟨c, hc1, hc2⟩ : ∃ c : Nat, a = (-((k : Int) - 1 - P)).toNat + c ∧ b = ((k : Int) - 1 - P).toNat + c := ⟨a - (-((k : Int) - 1 - P)).toNat, by omega, by omega⟩
  refine ⟨?_, ?_, by rw [show 10 ^ (k - 1) * (den * 10 ^ a) = den * (10 ^ (k - 1) * 10 ^ a) by grind]; exact h1⟩
  · have := Nat.mul_le_mul_right (10 ^ c) hne.1
    rw [hc1, hc2, Nat.pow_add, Nat.pow_add]
    grind
  · have := Nat.mul_le_mul_right (10 ^ c) hne.2
    rw [hc1, hc2, Nat.pow_add, Nat.pow_add]
    grind
 have fin : ∀ X D N : Nat, 0 < D → 2 * (d * D) ≤ 2 * N + D → 2 * N ≤ 2 * (d * D) + D → 10 ^ (k - 1) * D ≤ N → X = d * D → 2 * M * X < (2 * M + 1) * N ∧ 2 * M * N < 2 * M * X + N := by
  intro X D N hD a1 a2 a3 e
  subst e
  have a4 : M * D < N := Nat.lt_of_lt_of_le (Nat.mul_lt_mul_of_pos_right hM hD) a3
  have a5 := Nat.mul_le_mul_left M a1
  have a6 := Nat.mul_le_mul_left M a2
  have e1 : M * (2 * (d * D)) = 2 * M * (d * D) := by grind
  have e2 : M * (2 * N + D) = 2 * M * N + M * D := by grind
  have e3 : M * (2 * N) = 2 * M * N := by grind
  have e4 : M * (2 * (d * D) + D) = 2 * M * (d * D) + M * D := by grind
  have e5 : (2 * M + 1) * N = 2 * M * N + N := by grind
  omega
 rcases hd2 with ⟨e1, e2⟩ | ⟨e1, e2⟩
 · obtain ⟨k1, k2, k3⟩ := key a b (by omega)
   exact fin _ _ _ (Nat.mul_pos hd (c0q a)) k1 k2 k3 (by rw [e1]; grind)
 · obtain ⟨k1, k2, k3⟩ := key a (b + 1) (by omega)
   have hf := fin (a0l s * 10 * (den * 10 ^ a)) _ _ (Nat.mul_pos hd (c0q a)) k1 k2 k3 (by rw [e1])
   have g1 : a0l s * 10 * (den * 10 ^ a) = a0l s * den * 10 ^ a * 10 := by grind
   have g2 : num * 10 ^ (b + 1) = num * 10 ^ b * 10 := by rw [Nat.pow_succ]; grind
   rw [g1, g2] at hf
   have g3 : ∀ x y : Nat, x * (y * 10) = x * y * 10 := fun x y => by grind
   rw [g3, g3, g3] at hf
   omega
theorem r0l {num den c : Nat} (hn : 0 < num) (hd : 0 < den) (hc : 0 < c) (k : Nat) : decM (num * c) (den * c) k = decM num den k := by
 have hg : ∀ j, ge10 (num * c) (den * c) j ↔ ge10 num den j := fun j => by
  unfold ge10
  rw [show den * c * 10 ^ j.toNat = den * 10 ^ j.toNat * c by grind, show num * c * 10 ^ (-j).toNat = num * 10 ^ (-j).toNat * c by grind]
  exact ⟨fun h => Nat.le_of_mul_le_mul_right h hc, fun h => Nat.mul_le_mul_right _ h⟩
 have hP : theP (num * c) (den * c) = theP num den := by
  have h1 := k0r hn hd
  exact (k0r (Nat.mul_pos hn hc) (Nat.mul_pos hd hc)).unique ⟨(hg _).2 h1.yes, fun h => h1.no ((hg _).1 h)⟩
 have hq : ∀ u, q10 (num * c) (den * c) u = q10 num den u ∧ r10 (num * c) (den * c) u = c * r10 num den u ∧ d10 (den * c) u = c * d10 den u := fun u => by
  unfold q10 r10 n10 d10
  rw [show num * c * 10 ^ u.toNat = c * (num * 10 ^ u.toNat) by grind, show den * c * 10 ^ (-u).toNat = c * (den * 10 ^ (-u).toNat) by grind]
  exact ⟨Nat.mul_div_mul_left _ _ hc, Nat.mul_mod_mul_left _ _ _, rfl⟩
 have hcm : ∀ a b : Nat, cmpN (c * a) (c * b) = cmpN a b := fun a b => by
  unfold cmpN
  have h1 : c * a < c * b ↔ a < b := Nat.mul_lt_mul_left hc
  have h2 : c * b < c * a ↔ b < a := Nat.mul_lt_mul_left hc
  simp only [h1, h2]
 have hdT : ∀ u, dT (num * c) (den * c) u = dT num den u := fun u => by
  obtain ⟨a1, a2, a3⟩ := hq u
  unfold dT upT
  rw [a1, a2, a3, show c * r10 num den u * 2 = c * (r10 num den u * 2) by grind, hcm]
 unfold decM
 rw [hP, hdT]
theorem f1j {n1 d1 n2 d2 : Nat} (h1 : 0 < n1) (h2 : 0 < d1) (h3 : 0 < n2) (h4 : 0 < d2) (h : n1 * d2 = n2 * d1) (k : Nat) : decM n1 d1 k = decM n2 d2 k := by
 rw [← r0l h1 h2 h4, ← r0l h3 h4 h2, h, Nat.mul_comm d1 d2]
theorem f1k {a : Dv} {g : Gd} (G : e0j g) (hin : a0p a g = true) (h0 : a.m ≠ 0) :
 wid g * c0e a g ≤ a.e ∧ a.e ≤ wid g * c0e a g + 484 ∧ g.lo ≤ c0e a g ∧ c0e a g ≤ g.hi := by
 have wp := b0f g
 have hd := G.d1
 have hd2 := G.d2
 have hle := G.le
 have w0 : (0 : Int) ≤ wid g := by omega
 obtain ⟨D, hD⟩ : ∃ D : Nat, g.digs = D := ⟨g.digs.toNat, by omega⟩
 have hDt : g.digs.toNat = D := by omega
 have hwD : wid g * D ≤ 4 * 120 := Nat.mul_le_mul wp.2 (by omega)
 have ewD : ((wid g * D : Nat) : Int) = wid g * D := Int.natCast_mul _ _
 unfold c0e
 unfold a0p at hin
 rw [if_neg h0, hDt, hD] at hin
 rw [hDt]
 have hb := f0j (topD a - 1) (wid g) (by omega)
 have eU : upK a (wid g) D = (topD a - 1) / (wid g : Int) - D + 1 := rfl
 have etop : topD a = a.e + blen a.m := rfl
 have hbm := (e0h a.m).2 (by omega)
 generalize topD a = T at *
 generalize upK a (wid g) D = K at *
 generalize (T - 1) / (wid g : Int) = f at *
 have eK : (wid g : Int) * K = wid g * f - wid g * D + wid g := by rw [eU]; grind
 have ehi : (wid g : Int) * (g.hi + D) = wid g * g.hi + wid g * D := Int.mul_add _ _ _
 by_cases h1 : a.e < wid g * g.lo ∨ wid g * (g.hi + D) < T
 · rw [if_pos h1] at hin; simp at hin
 · rw [if_neg h1] at hin
   by_cases hu : K < g.lo
   · rw [if_pos hu] at hin
     have hm : max g.lo K = g.lo := by omega
     rw [hm]
     have h2 : (wid g : Int) * (K + 1) ≤ wid g * g.lo := Int.mul_le_mul_of_nonneg_left (by omega) w0
     rw [Int.mul_add] at h2
     exact ⟨by omega, by omega, by omega, by omega⟩
   · rw [if_neg hu] at hin
     have hm : max g.lo K = K := by omega
     have h2 := oTr hin
     rw [hm]
     have h3 : K ≤ g.hi := by
      rcases Int.lt_or_le g.hi K with h | h
      · have h4 : (wid g : Int) * (g.hi + 1) ≤ wid g * K := Int.mul_le_mul_of_nonneg_left (by omega) w0
        rw [Int.mul_add] at h4
        omega
      · exact h
     exact ⟨by omega, by omega, by omega, h3⟩
theorem q_lt {num den : Nat} (hd : 0 < den) {e : Int} {w D : Nat} (hD : 1 ≤ D) {k : Int} (h : ¬ d0x num den e w D (k + 1)) : qP num den (e - w * k) < 2 ^ (w * D) := by
 rcases Nat.lt_or_ge (qP num den (e - w * k)) (2 ^ (w * D)) with h1 | h1
 · exact h1
 · exfalso
   refine h ((f1h hd e w D (k + 1)).2 ?_)
   have h2 := (r0k hd e ((w : Int) * k) _).1 h1
   have e1 : w * D = w * (D - 1) + w := by
    obtain ⟨c, rfl⟩ : ∃ c, D = c + 1 := ⟨D - 1, by omega⟩
    simp only [Nat.add_sub_cancel]; grind
   have e2 : 2 ^ (w * D) * den = 2 ^ (w * (D - 1)) * den * 2 ^ w := by rw [e1, Nat.pow_add]; grind
   rw [e2] at h2
   have h3 := (p0a (a := 2 ^ (w * (D - 1)) * den) (x := (w : Int) * k) w).2
   rw [show (w : Int) * (k + 1) = w * k + w by rw [Int.mul_add]; simp]
   exact l0r h3 h2
theorem y0g (g : Gd) (K : Int) : K ≤ powK g K := by unfold powK; split <;> omega
theorem y0h {num den : Nat} (hd : 0 < den) {e : Int} {w D : Nat} {K : Int} (hK : IsK num den e w D K) {k : Int} (hk : K ≤ k) : ¬ d0x num den e w D (k + 1) := fun h => by
 have := hK.le hd h
 omega
theorem j0p {g : Gd} (h : errG g = 0) : -17000 ≤ wid g * g.lo ∧ wid g * g.hi ≤ 17000 ∧ (wid g : Int) * g.digs ≤ 480 := by
 have G := b0o h
 have d1 := G.d1
 have d2 := G.d2
 unfold errG at h
 by_cases h1 : g.rad ≠ 2 ∧ g.rad ≠ 16
 · rw [if_pos h1] at h; simp at h
 · rw [if_neg h1] at h
   by_cases h2 : g.digs < 1 ∨ 120 < g.digs ∨ farG g g.lo ∨ farG g g.hi ∨ g.hi < g.lo
   · rw [if_pos h2] at h; simp at h
   · unfold farG most at h2
     unfold wid
     by_cases h3 : g.rad = 16
     · simp only [if_pos h3] at *; omega
     · simp only [if_neg h3] at *; omega
theorem j1t {neg : Bool} {num den : Nat} {e : Int} {g : Gd} {way K : Int} (hd : 0 < den) (G : e0j g) (hK : IsK num den e (wid g) g.digs.toNat K) : (fitK neg num den e g way K).d < 2 ^ (wid g * g.digs.toNat) := by
 have hD : 1 ≤ g.digs.toNat := by have := G.d1; omega
 have hq := q_lt hd hD (y0h hd hK (y0g g K))
 have hww : wid g * (g.digs.toNat - 1) < wid g * g.digs.toNat := Nat.mul_lt_mul_of_pos_left (by omega) (b0f g).1
 show digP neg num den e (wid g) g.digs.toNat way (powK g K) < _
 unfold digP
 by_cases hl : i0k neg num den e (wid g) g.digs.toNat way (powK g K)
 · rw [if_pos hl]; exact Nat.pow_lt_pow_right (by omega) hww
 · rw [if_neg hl]
   unfold i0k at hl
   by_cases hu : upP neg num den e (wid g) way (powK g K) = true
   · exact (a0u _ _).1 (by have : ¬ wid g * g.digs.toNat < blen (dUp neg num den e (wid g) way (powK g K)) := fun h => hl ⟨hu, h⟩; omega)
   · have : upP neg num den e (wid g) way (powK g K) = false := by simpa using hu
     unfold dUp; rw [this]; simpa using hq
theorem a1o {a : Dv} {g : Gd} (hg : errG g = 0) (hB : Bare a) (hin : a0p a g = true) : -17000 ≤ a.e ∧ a.e ≤ 17480 := by
 have G := b0o hg
 obtain ⟨w1, w2, w3⟩ := j0p hg
 by_cases h0 : a.m = 0
 · rw [hB.zero h0]; simp
 · unfold a0p at hin
   rw [if_neg h0] at hin
   by_cases h1 : a.e < wid g * g.lo ∨ wid g * (g.hi + g.digs) < topD a
   · rw [if_pos h1] at hin; simp at hin
   · have ht : topD a = a.e + blen a.m := rfl
     rw [Int.mul_add] at h1
     omega
/-! ### roots -/
def l0s (m R : Nat) : Prop := R * R ≤ m ∧ m < (R + 1) * (R + 1)
theorem l0s.unique {m R S : Nat} (h : l0s m R) (k : l0s m S) : R = S := by
 rcases Nat.lt_trichotomy R S with c | c | c
 · have := Nat.mul_le_mul c c
   have h1 := h.2; have h2 := k.1
   simp only [Nat.succ_eq_add_one] at this
   omega
 · exact c
 · have := Nat.mul_le_mul c c
   have h1 := k.2; have h2 := h.1
   simp only [Nat.succ_eq_add_one] at this
   omega
theorem l0s.half {m R : Nat} (h : l0s (m * 4) R) : l0s m (R / 2) := by
 obtain ⟨h1, h2⟩ := h
 have h3 : R = 2 * (R / 2) + R % 2 := by omega
 have h4 : R % 2 < 2 := Nat.mod_lt _ (by omega)
 generalize R / 2 = u at *
 generalize R % 2 = v at *
 subst h3
 constructor
 · have : (2 * u) * (2 * u) ≤ (2 * u + v) * (2 * u + v) := Nat.mul_le_mul (by omega) (by omega)
   have e : (2 * u) * (2 * u) = 4 * (u * u) := by grind
   omega
 · have : (2 * u + v + 1) * (2 * u + v + 1) ≤ (2 * (u + 1)) * (2 * (u + 1)) := Nat.mul_le_mul (by omega) (by omega)
   have e : (2 * (u + 1)) * (2 * (u + 1)) = 4 * ((u + 1) * (u + 1)) := by grind
   omega
theorem l0s.mono {m m' R R' : Nat} (h : l0s m R) (k : l0s m' R') (hm : m ≤ m') : R ≤ R' := by
 rcases Nat.lt_or_ge R' R with c | c
 · have := Nat.mul_le_mul c c
   have h1 := h.1; have h2 := k.2
   simp only [Nat.succ_eq_add_one] at this
   omega
 · exact c
theorem a1p (m n : Nat) (h : blen m ≤ n) : (dig B32 m).length ≤ n / 32 + 1 := by
 rw [a0h a0a]
 have h1 := (a0u m n).1 h
 refine Nat.lt_of_lt_of_le h1 ?_
 rw [show B32 = 2 ^ 32 from rfl, ← Nat.pow_mul]
 exact Nat.pow_le_pow_right (by omega) (by omega)
def leD (a b : Dv) : Prop := rCmp a b ≤ 0
theorem f1l {a b : Dv} {e : Int} (h1 : e ≤ a.e) (h2 : e ≤ b.e) : leD a b ↔ zOf a e ≤ zOf b e := by
 unfold leD
 rw [a1n a b h1 h2, Int.sign_nonpos_iff]
 omega
theorem a1q (a : Dv) : leD a a := (f1l (Int.le_refl _) (Int.le_refl _)).2 (Int.le_refl _)
theorem j1u {z u e f : Int} (g : Int) (h1 : g ≤ e) (h2 : g ≤ f) : leD (norm z e) (norm u f) ↔ z * 2 ^ (e - g).toNat ≤ u * 2 ^ (f - g).toNat := by
 obtain ⟨k, hk, k1, k2⟩ : ∃ k : Int, k ≤ g ∧ k ≤ (norm z e).e ∧ k ≤ (norm u f).e := ⟨min g (min (norm z e).e (norm u f).e), by omega, by omega, by omega⟩
 rw [f1l k1 k2, a1k z (by omega), a1k u (by omega)]
 rw [show (e - k).toNat = (e - g).toNat + (g - k).toNat by omega, show (f - k).toNat = (f - g).toNat + (g - k).toNat by omega, Int.pow_add, Int.pow_add, ← Int.mul_assoc, ← Int.mul_assoc]
 have hp : (0 : Int) < 2 ^ (g - k).toNat := Int.pow_pos (by omega)
 exact ⟨fun h => Int.le_of_mul_le_mul_right h hp, fun h => Int.mul_le_mul_of_nonneg_right h (by omega)⟩
theorem u1f {g : Bool} {m n : Nat} : sg g m ≤ sg g n ↔ if g then n ≤ m else m ≤ n := by
 unfold sg; cases g <;> simp <;> omega
theorem n1f (g : Bool) (m t : Nat) : sg g m * 2 ^ t = sg g (m * 2 ^ t) := by
 rw [v0g]; simp
theorem o1x {m n : Nat} {x y : Int} (g : Bool) : leD (bare ⟨g, m, x⟩) (bare ⟨g, n, y⟩) ↔ if g then le2 n y m x else le2 m x n y := by
 rw [← i0t, ← i0t, j1u (min x y) (by omega) (by omega), n1f, n1f, u1f, d0y (min x y) (by omega) (by omega), d0y (min x y) (by omega) (by omega)]
theorem l0t (g : Bool) (x : Int) : bare ⟨g, 0, x⟩ = ⟨false, 0, 0⟩ := by unfold bare; simp
theorem f1m {neg : Bool} {num den : Nat} {e : Int} {g : Gd} {way K : Int} (hd : 0 < den) (G : e0j g) (hK : IsK num den e (wid g) g.digs.toNat K) :
 bare ⟨neg, (fitK neg num den e g way K).d, wid g * (fitK neg num den e g way K).pow⟩ = bare ⟨neg, dUp neg num den e (wid g) way (powK g K), wid g * powK g K⟩ ∧ dUp neg num den e (wid g) way (powK g K) ≤ 2 ^ (wid g * g.digs.toNat) := by
 have hD : 1 ≤ g.digs.toNat := by have := G.d1; omega
 have hq := q_lt hd hD (y0h hd hK (y0g g K))
 show bare ⟨neg, digP neg num den e (wid g) g.digs.toNat way (powK g K), wid g * (if digP neg num den e (wid g) g.digs.toNat way (powK g K) = 0 then 0 else powP neg num den e (wid g) g.digs.toNat way (powK g K))⟩ = _ ∧ _
 generalize powK g K = k at *
 generalize g.digs.toNat = D at *
 generalize wid g = w at *
 have hdu : dUp neg num den e w way k ≤ 2 ^ (w * D) := by unfold dUp; split <;> omega
 refine ⟨?_, hdu⟩
 unfold digP powP
 by_cases hl : i0k neg num den e w D way k
 · simp only [if_pos hl]
   have hp : 0 < 2 ^ (w * (D - 1)) := Nat.pow_pos (by omega)
   rw [if_neg (by omega)]
   have h1 : 2 ^ (w * D) ≤ dUp neg num den e w way k := by
    rcases Nat.lt_or_ge (dUp neg num den e w way k) (2 ^ (w * D)) with h | h
    · have := (a0u _ _).2 h; have := hl.2; omega
    · exact h
   have h2 : dUp neg num den e w way k = 2 ^ (w * (D - 1)) * 2 ^ w := by
    rw [← Nat.pow_add, ← show w * D = w * (D - 1) + w by
     obtain ⟨c, rfl⟩ : ∃ c, D = c + 1 := ⟨D - 1, by omega⟩
     simp only [Nat.add_sub_cancel]; grind]
    omega
   rw [h2, e0b]
   congr 2
   rw [Int.mul_add]; simp
 · simp only [if_neg hl]
   by_cases h0 : dUp neg num den e w way k = 0
   · rw [h0, l0t, l0t]
   · rw [if_neg h0]
def rv (neg : Bool) (num den : Nat) (e : Int) (g : Gd) (way : Int) : Dv := bare ⟨(a0m neg num den e g way).neg, (a0m neg num den e g way).d, wid g * (a0m neg num den e g way).pow⟩
theorem y0i (neg : Bool) (den : Nat) (e : Int) (g : Gd) (way : Int) : rv neg 0 den e g way = ⟨false, 0, 0⟩ := by
 unfold rv a0m
 rw [if_pos rfl]
 exact l0t _ _
theorem f1n {neg : Bool} {num den : Nat} {e : Int} {g : Gd} {way : Int} (hn : 0 < num) (hd : 0 < den) (G : e0j g) :
 rv neg num den e g way = bare ⟨neg, dUp neg num den e (wid g) way (powK g (theK num den e (wid g) g.digs.toNat)), wid g * powK g (theK num den e (wid g) g.digs.toNat)⟩ := by
 have hK := i0s hn hd e (w := wid g) (D := g.digs.toNat) (b0f g).1 (by have := G.d1; omega)
 unfold rv a0m
 rw [if_neg (by omega)]
 exact (f1m hd G hK).1
def okP (p : Pl) (g : Gd) : Bool := !p.over && (!p.under || g.grad)
theorem s1c {neg : Bool} {num den : Nat} {e : Int} {g : Gd} {way : Int} (hd : 0 < den) (G : e0j g) (hok : okP (a0m neg num den e g way) g = true) : a0p (rv neg num den e g way) g = true := by
 by_cases h0 : num = 0
 · subst h0; rw [y0i]; rfl
 · have hK := i0s (num := num) (by omega) hd e (w := wid g) (D := g.digs.toNat) (b0f g).1 (by have := G.d1; omega)
   have hD : 1 ≤ g.digs.toNat := by have := G.d1; omega
   unfold rv a0m at *
   rw [if_neg h0] at *
   generalize theK num den e (wid g) g.digs.toNat = K at *
   have hq := q_lt hd hD (y0h hd hK (y0g g K))
   have hover : powP neg num den e (wid g) g.digs.toNat way (powK g K) ≤ g.hi := by
    unfold okP at hok
    have : (fitK neg num den e g way K).over = decide (g.hi < powP neg num den e (wid g) g.digs.toNat way (powK g K)) := rfl
    rw [this] at hok
    simp only [Bool.and_eq_true, Bool.not_eq_true', decide_eq_false_iff_not] at hok
    omega
   have hunder : g.lo ≤ K ∨ g.grad = true := by
    unfold okP at hok
    have : (fitK neg num den e g way K).under = decide (K < g.lo) := rfl
    rw [this] at hok
    simp only [Bool.and_eq_true, Bool.or_eq_true, Bool.not_eq_true', decide_eq_false_iff_not] at hok
    rcases hok.2 with h | h
    · left; omega
    · right; exact h
   show a0p (bare ⟨neg, digP neg num den e (wid g) g.digs.toNat way (powK g K), wid g * (if digP neg num den e (wid g) g.digs.toNat way (powK g K) = 0 then 0 else powP neg num den e (wid g) g.digs.toNat way (powK g K))⟩) g = true
   by_cases hd0 : digP neg num den e (wid g) g.digs.toNat way (powK g K) = 0
   · rw [hd0, l0t]; rfl
   · rw [if_neg hd0, ← i0t]
     have hDD : g.digs = (g.digs.toNat : Int) := by have := G.d1; omega
     have habs : (sg neg (digP neg num den e (wid g) g.digs.toNat way (powK g K))).natAbs = digP neg num den e (wid g) g.digs.toNat way (powK g K) := by unfold sg; cases neg <;> simp
     have hlow : g.lo ≤ powK g K ∧ (2 ^ (wid g * (g.digs.toNat - 1)) ≤ qP num den (e - wid g * powK g K) ∨ (g.grad = true ∧ powK g K = g.lo)) := by
      by_cases hu : K < g.lo
      · have hg : g.grad = true := by rcases hunder with h | h; omega; exact h
        have : powK g K = g.lo := by unfold powK; rw [if_pos ⟨hu, hg⟩]
        exact ⟨by omega, .inr ⟨hg, this⟩⟩
      · have : powK g K = K := by unfold powK; rw [if_neg (fun h => hu h.1)]
        rw [this]
        exact ⟨by omega, .inl hK.yes⟩
     have hww : wid g * (g.digs.toNat - 1) < wid g * g.digs.toNat := Nat.mul_lt_mul_of_pos_left (by omega) (b0f g).1
     refine k0q G hDD ?_ ?_ ?_ hover
     · rw [habs]
       unfold digP
       by_cases hl : i0k neg num den e (wid g) g.digs.toNat way (powK g K)
       · rw [if_pos hl]; exact Nat.pow_lt_pow_right (by omega) hww
       · rw [if_neg hl]
         unfold i0k at hl
         by_cases hu : upP neg num den e (wid g) way (powK g K) = true
         · exact (a0u _ _).1 (by have : ¬ wid g * g.digs.toNat < blen (dUp neg num den e (wid g) way (powK g K)) := fun h => hl ⟨hu, h⟩; omega)
         · have : upP neg num den e (wid g) way (powK g K) = false := by simpa using hu
           unfold dUp; rw [this]; simpa using hq
     · rw [habs]
       unfold digP powP
       by_cases hl : i0k neg num den e (wid g) g.digs.toNat way (powK g K)
       · rw [if_pos hl, if_pos hl]; exact .inr (.inl (Nat.le_refl _))
       · rw [if_neg hl, if_neg hl]
         rcases hlow.2 with h | h
         · exact .inr (.inl (by unfold dUp; omega))
         · exact .inr (.inr h)
     · unfold powP; split <;> omega
theorem j1v {w D : Nat} (hD : 1 ≤ D) : w * D = w * (D - 1) + w := by
 obtain ⟨c, rfl⟩ : ∃ c, D = c + 1 := ⟨D - 1, by omega⟩
 simp only [Nat.add_sub_cancel]; grind
theorem t0i {s : Bool} {m : Nat} {e : Int} {g : Gd} {way : Int} (G : e0j g) (hin : a0p (bare ⟨s, m, e⟩) g = true) : rv s m 1 e g way = bare ⟨s, m, e⟩ ∧ okP (a0m s m 1 e g way) g = true := by
 by_cases h0 : m = 0
 · subst h0
   rw [y0i, l0t]
   refine ⟨rfl, ?_⟩
   unfold a0m okP
   rw [if_pos rfl]
   rfl
 · have hm : 0 < m := by omega
   have hD : 1 ≤ g.digs.toNat := by have := G.d1; omega
   obtain ⟨s1, s2⟩ := b0t m hm
   have hb : bare ⟨s, m, e⟩ = ⟨s, m / 2 ^ tz m, e + tz m⟩ := n0y hm
   generalize tz m = t at *
   generalize m / 2 ^ t = m' at *
   have hm' : 0 < m' := by omega
   have em : m = m' * 2 ^ t := by rw [← s1, Nat.mul_comm]
   have hbl : blen m = blen m' + t := by rw [em]; exact h0e hm' t
   have hK := t0c hm e (w := wid g) (D := g.digs.toNat) (b0f g).1 hD
   have hthe := o1u hm (show 0 < 1 by omega) (b0f g).1 hD hK
   have hup : upK (⟨s, m', e + t⟩ : Dv) (wid g) g.digs.toNat = (e + blen m - 1) / wid g - g.digs.toNat + 1 := by
    unfold upK topD
    simp only
    rw [hbl]
    congr 3
    push_cast
    omega
   rw [hb] at hin ⊢
   have hbare : Bare (⟨s, m', e + t⟩ : Dv) := .inl s2
   rw [← t0e hbare G] at hin
   unfold i0u at hin
   rw [if_neg (by simp only; omega), hup] at hin
   unfold rv a0m okP
   rw [if_neg h0, hthe]
   generalize (e + (blen m : Int) - 1) / (wid g : Int) - g.digs.toNat + 1 = K at *
   have hf1 : (fitK s m' 1 (e + t) g 3 K).exact = decide (rP m' 1 (e + t - wid g * powK g K) = 0) := rfl
   have hf2 : (fitK s m' 1 (e + t) g 3 K).over = decide (g.hi < powK g K) := by
    show decide (g.hi < powP s m' 1 (e + t) (wid g) g.digs.toNat 3 (powK g K)) = _
    rw [l0q]
   have hf3 : (fitK s m' 1 (e + t) g 3 K).under = decide (K < g.lo) := rfl
   simp only at hin
   rw [hf1, hf2, hf3] at hin
   simp only [Bool.and_eq_true, decide_eq_true_eq, Bool.not_eq_true', decide_eq_false_iff_not] at hin
   obtain ⟨⟨i1, i2⟩, i3⟩ := hin
   rw [o0z s2] at i1
   generalize hk : powK g K = k at *
   obtain ⟨n, hn⟩ : ∃ n : Nat, (n : Int) = e + t - wid g * k := ⟨(e + t - wid g * k).toNat, by omega⟩
   have c1 : le2 (m' * 2 ^ n) (wid g * k) m e := by
    have a := (p0a (a := m') (x := (wid g : Int) * k) n).1
    rw [show (wid g : Int) * k + n = e + t by omega] at a
    have b := (p0a (a := m') (x := e) t).2
    rw [← em] at b
    exact l0r a b
   have c2 : le2 m e (m' * 2 ^ n) (wid g * k) := by
    have a := (p0a (a := m') (x := (wid g : Int) * k) n).2
    rw [show (wid g : Int) * k + n = e + t by omega] at a
    have b := (p0a (a := m') (x := e) t).1
    rw [← em] at b
    exact l0r b a
   have hq : qP m 1 (e - wid g * k) = m' * 2 ^ n := by
    have q1 := (r0k (show 0 < 1 by omega) e ((wid g : Int) * k) (m' * 2 ^ n) (num := m)).2 (by rw [Nat.mul_one]; exact c1)
    have q2 := (r0k (show 0 < 1 by omega) e ((wid g : Int) * k) (qP m 1 (e - wid g * k)) (num := m)).1 (Nat.le_refl _)
    rw [Nat.mul_one] at q2
    have q3 := t0f.1 (l0r q2 c2)
    omega
   have hr : rP m 1 (e - wid g * k) = 0 := (s1b (show 0 < 1 by omega) e ((wid g : Int) * k)).2 (by rw [hq, Nat.mul_one]; exact c2)
   have hu : upP s m 1 e (wid g) way k = false := by unfold upP; rw [hr]; simp
   have hnl : ¬ i0k s m 1 e (wid g) g.digs.toNat way k := fun h => by have := h.1; rw [hu] at this; simp at this
   have hdp : digP s m 1 e (wid g) g.digs.toNat way k = m' * 2 ^ n := by unfold digP dUp; rw [if_neg hnl, hu, hq]; simp
   have hpp : powP s m 1 e (wid g) g.digs.toNat way k = k := by unfold powP; rw [if_neg hnl]
   have hpos : 0 < m' * 2 ^ n := Nat.mul_pos hm' (Nat.pow_pos (by omega))
   constructor
   · show bare ⟨s, digP s m 1 e (wid g) g.digs.toNat way (powK g K), wid g * (if digP s m 1 e (wid g) g.digs.toNat way (powK g K) = 0 then 0 else powP s m 1 e (wid g) g.digs.toNat way (powK g K))⟩ = _
     rw [hk, hdp, hpp, if_neg (by omega), e0b, show (wid g : Int) * k + n = e + t by omega, s0n hbare]
   · show (!decide (g.hi < powP s m 1 e (wid g) g.digs.toNat way (powK g K)) && (!decide (K < g.lo) || g.grad)) = true
     rw [hk, hpp, decide_eq_false i2]
     simpa using i3
theorem up5 (neg : Bool) (num den : Nat) (e : Int) (w : Nat) (k : Int) : upP neg num den e w 5 k = (decide (rP num den (e - w * k) ≠ 0) && neg) := by unfold upP f0k; simp
theorem up4 (neg : Bool) (num den : Nat) (e : Int) (w : Nat) (k : Int) : upP neg num den e w 4 k = (decide (rP num den (e - w * k) ≠ 0) && !neg) := by unfold upP f0k; simp
theorem j1w {g : Bool} {m n : Nat} {x : Int} (h : (bare ⟨g, m, x⟩ : Dv) = bare ⟨g, n, x⟩) : m = n := by
 have h1 : leD (bare ⟨g, m, x⟩) (bare ⟨g, n, x⟩) := by rw [h]; exact a1q _
 have h2 : leD (bare ⟨g, n, x⟩) (bare ⟨g, m, x⟩) := by rw [h]; exact a1q _
 rw [o1x] at h1 h2
 cases g
 · simp only [Bool.false_eq_true, if_false, t0f] at h1 h2; omega
 · simp only [if_true, t0f] at h1 h2; omega
theorem v0l {neg : Bool} {num den : Nat} {e : Int} {g : Gd} (hd : 0 < den) (G : e0j g) (h : rv neg num den e g 5 = rv neg num den e g 4) (way : Int) : (a0m neg num den e g way).exact = true := by
 unfold a0m
 by_cases h0 : num = 0
 · rw [if_pos h0]
 · rw [if_neg h0]
   rw [f1n (by omega) hd G, f1n (by omega) hd G] at h
   generalize theK num den e (wid g) g.digs.toNat = K at *
   have h1 := j1w h
   unfold dUp at h1
   rw [up5, up4] at h1
   show decide (rP num den (e - wid g * powK g K) = 0) = true
   by_cases hr : rP num den (e - wid g * powK g K) = 0
   · exact dTr hr
   · exfalso
     rw [decide_eq_true hr] at h1
     cases neg <;> simp at h1
theorem c1j {neg : Bool} {num den : Nat} {e : Int} {g : Gd} (hd : 0 < den) (G : e0j g) {z : Nat} {k : Int} (hz0 : 0 < z) (hz : z < 2 ^ (wid g * g.digs.toNat))
 (hfull : g.lo < k ∨ g.grad = false → 2 ^ (wid g * (g.digs.toNat - 1)) ≤ z) (hlo : g.lo ≤ k) (hhi : k ≤ g.hi) {t : Nat} (ht1 : 0 ≤ e + t) (ht2 : 0 ≤ wid g * k + t) (ht3 : 0 ≤ wid g * (k - 1) + t)
 (h1 : 2 * 2 ^ (wid g * g.digs.toNat) * (num * 2 ^ (e + t).toNat) < (2 * 2 ^ (wid g * g.digs.toNat) + 1) * (z * (den * 2 ^ (wid g * k + t).toNat)))
 (h2 : 2 * 2 ^ (wid g * g.digs.toNat) * (z * (den * 2 ^ (wid g * k + t).toNat)) < 2 * 2 ^ (wid g * g.digs.toNat) * (num * 2 ^ (e + t).toNat) + z * (den * 2 ^ (wid g * k + t).toNat)) :
 (a0m neg num den e g 1).neg = neg ∧ (a0m neg num den e g 1).d = z ∧ (a0m neg num den e g 1).pow = k ∧ (a0m neg num den e g 1).over = false := by
 have wp := b0f g
 have hd1 := G.d1
 have hD1 : 1 ≤ g.digs.toNat := by omega
 generalize hw : wid g = w at *
 generalize hD : g.digs.toNat = D at *
 obtain ⟨M, hM⟩ : ∃ M, M = 2 ^ (w * D) := ⟨_, rfl⟩
 obtain ⟨H, hH⟩ : ∃ H, H = 2 ^ (w * (D - 1)) := ⟨_, rfl⟩
 have hMH : M = H * 2 ^ w := by rw [hM, hH, ← Nat.pow_add, j1v (by omega)]
 have hH0 : 0 < H := by rw [hH]; exact Nat.pow_pos (by omega)
 have hw2 : 2 ≤ 2 ^ w := Nat.le_trans (by decide : 2 ≤ 2 ^ 1) (Nat.pow_le_pow_right (by omega) wp.1)
 have hM2 : 2 * H ≤ M := by rw [hMH, Nat.mul_comm 2 H]; exact Nat.mul_le_mul_left H hw2
 obtain ⟨A, hA⟩ : ∃ A, A = num * 2 ^ (e + t).toNat := ⟨_, rfl⟩
 obtain ⟨B, hB⟩ : ∃ B, B = den * 2 ^ (w * k + t).toNat := ⟨_, rfl⟩
 rw [← hM, ← hA, ← hB] at h1 h2
 rw [← hM] at hz
 rw [← hH] at hfull
 have hB0 : 0 < B := by rw [hB]; exact Nat.mul_pos hd (Nat.pow_pos (by omega))
 have hzB : z * B < M * B := Nat.mul_lt_mul_of_pos_right hz hB0
 -- twice what came lies between 2 z - 1 and 2 z + 1
 have up : 2 * A < 2 * (z * B) + B := by
  have e1 : 2 * M * A = M * (2 * A) := by grind
  have e2 : (2 * M + 1) * (z * B) = M * (2 * (z * B)) + z * B := by grind
  have e3 : M * (2 * (z * B) + B) = M * (2 * (z * B)) + M * B := by grind
  refine Nat.lt_of_mul_lt_mul_left (a := M) ?_
  omega
 have dn : 2 * (z * B) < 2 * A + B := by
  have e1 : 2 * M * (z * B) = M * (2 * (z * B)) := by grind
  have e2 : 2 * M * A = M * (2 * A) := by grind
  have e3 : M * (2 * A + B) = M * (2 * A) + M * B := by grind
  refine Nat.lt_of_mul_lt_mul_left (a := M) ?_
  omega
 have hn : 0 < num := by
  rcases Nat.eq_zero_or_pos num with h | h
  · rw [h, Nat.zero_mul] at hA
    have : B ≤ z * B := Nat.le_mul_of_pos_left _ hz0
    omega
  · exact h
 -- whole part and half, at power k
 have cell : ∀ (j : Int) (c : Nat), 0 ≤ w * j + t → 2 ^ (w * k + t).toNat = 2 ^ (w * j + t).toNat * c → 0 < c → ∀ m : Nat, m ≤ qP num den (e - w * j) ↔ m * B ≤ A * c := by
  intro j c hj hc hc0 m
  rw [r0k hd, d0y (-(t : Int)) (by omega) (by omega), show (w : Int) * j - -(t : Int) = w * j + t by omega, show e - -(t : Int) = e + t by omega, ← hA, hB, hc]
  rw [show m * (den * (2 ^ (w * j + t).toNat * c)) = m * den * 2 ^ (w * j + t).toNat * c by grind]
  exact ⟨fun h => Nat.mul_le_mul_right _ h, fun h => Nat.le_of_mul_le_mul_right h hc0⟩
 have half : ∀ (j : Int) (c : Nat), 0 ≤ w * j + t → 2 ^ (w * k + t).toNat = 2 ^ (w * j + t).toNat * c → 0 < c → (2 * rP num den (e - w * j) ≤ denP den (e - w * j) ↔ 2 * (A * c) ≤ (2 * qP num den (e - w * j) + 1) * B) ∧ (denP den (e - w * j) ≤ 2 * rP num den (e - w * j) ↔ (2 * qP num den (e - w * j) + 1) * B ≤ 2 * (A * c)) := by
  intro j c hj hc hc0
  obtain ⟨f1, f2⟩ := j1s (num := num) hd e (w * j)
  generalize qP num den (e - w * j) = Q at *
  rw [f1, f2, d0y (-(t : Int) - 1) (by omega) (by omega), d0y (-(t : Int) - 1) (by omega) (by omega)]
  rw [show (w : Int) * j - 1 - (-(t : Int) - 1) = w * j + t by omega, show (e - (-(t : Int) - 1)).toNat = (e + t).toNat + 1 by omega, Nat.pow_succ, hB, hc]
  rw [show num * (2 ^ (e + t).toNat * 2) = 2 * (num * 2 ^ (e + t).toNat) by grind, ← hA]
  rw [show (2 * Q + 1) * (den * (2 ^ (w * j + t).toNat * c)) = (2 * Q + 1) * den * 2 ^ (w * j + t).toNat * c by grind, show 2 * (A * c) = 2 * A * c by grind]
  exact ⟨⟨fun h => Nat.mul_le_mul_right _ h, fun h => Nat.le_of_mul_le_mul_right h hc0⟩, ⟨fun h => Nat.mul_le_mul_right _ h, fun h => Nat.le_of_mul_le_mul_right h hc0⟩⟩
 have full : ∀ (j : Int) (c : Nat), 0 ≤ w * j + t → 2 ^ (w * k + t).toNat = 2 ^ (w * j + t).toNat * c → 0 < c → (d0x num den e w D j ↔ H * B ≤ A * c) := by
  intro j c hj hc hc0
  rw [hH]; exact cell j c hj hc hc0 _
 have c1 := cell k 1 ht2 (by rw [Nat.mul_one]) (by omega)
 have c2 := half k 1 ht2 (by rw [Nat.mul_one]) (by omega)
 have c3 := full k 1 ht2 (by rw [Nat.mul_one]) (by omega)
 rw [Nat.mul_one] at c2 c3
 simp only [Nat.mul_one] at c1
 -- one power more: never full
 have c4 : ¬ d0x num den e w D (k + 1) := by
  intro h
  unfold d0x at h
  rw [r0k hd, d0y (-(t : Int)) (by rw [Int.mul_add]; omega) (by omega), show e - -(t : Int) = e + t by omega, ← hA, show ((w : Int) * (k + 1) - -(t : Int)).toNat = w + (w * k + t).toNat by rw [Int.mul_add]; omega, Nat.pow_add, ← hH] at h
  rw [show H * den * (2 ^ w * 2 ^ (w * k + t).toNat) = H * 2 ^ w * (den * 2 ^ (w * k + t).toNat) by grind, ← hB, ← hMH] at h
  have : (z + 1) * B ≤ M * B := Nat.mul_le_mul_right B hz
  rw [Nat.add_mul, Nat.one_mul] at this
  omega
 have bz : blen z ≤ w * D := (a0u z _).2 (by rw [← hM]; exact hz)
 have bM : w * D < blen M := by
  rcases Nat.lt_or_ge (w * D) (blen M) with h | h
  · exact h
  · have := (a0u M _).1 h; omega
 have hK := i0s hn hd e (w := w) (D := D) (by omega) (by omega)
 obtain ⟨K, hKe⟩ : ∃ K, theK num den e w D = K := ⟨_, rfl⟩
 rw [hKe] at hK
 have hRP : a0m neg num den e g 1 = fitK neg num den e g 1 K := by
  unfold a0m
  rw [if_neg (by omega), hw, hD, hKe]
 -- what comes where the power is k and the digits come to z
 have done : powK g K = k → dUp neg num den e w 1 k = z → (a0m neg num den e g 1).neg = neg ∧ (a0m neg num den e g 1).d = z ∧ (a0m neg num den e g 1).pow = k ∧ (a0m neg num den e g 1).over = false := by
  intro h3 h4
  have hl : ¬ i0k neg num den e w D 1 k := fun h => by
   have := h.2
   rw [h4] at this
   omega
  have hg : digP neg num den e w D 1 k = z := by unfold digP; rw [if_neg hl, h4]
  have hp : powP neg num den e w D 1 k = k := by unfold powP; rw [if_neg hl]
  rw [hRP, t0b hw hD h3 hg hp rfl]
  exact ⟨rfl, rfl, by show (if z = 0 then 0 else k) = k; rw [if_neg (by omega)], decide_eq_false (by omega)⟩
 have rr : ∀ j, upP neg num den e w 1 j = (decide (rP num den (e - w * j) ≠ 0) && (decide (0 < cmpN (rP num den (e - w * j) * 2) (denP den (e - w * j))) || (decide (cmpN (rP num den (e - w * j) * 2) (denP den (e - w * j)) = 0) && decide (qP num den (e - w * j) % 2 = 1)))) := fun j => by
  unfold upP f0k
  rw [if_pos rfl]
 have no_up : ∀ j, ¬ denP den (e - w * j) ≤ 2 * rP num den (e - w * j) → upP neg num den e w 1 j = false := fun j h => by
  have := @t0g (rP num den (e - w * j)) (denP den (e - w * j))
  rw [rr, decide_eq_false (p := 0 < _) (fun k => (this.1.1 k) (by omega)), decide_eq_false (p := _ = (0 : Int)) (fun k => h (this.2.2.1 k).2)]
  simp
 have yes_up : ∀ j, ¬ 2 * rP num den (e - w * j) ≤ denP den (e - w * j) → upP neg num den e w 1 j = true := fun j h => by
  have := @t0g (rP num den (e - w * j)) (denP den (e - w * j))
  rw [rr, decide_eq_true (p := 0 < _) (this.1.2 h), decide_eq_true (p := _ ≠ 0) (by omega)]
  rfl
 have pk : (H ≤ z ∧ H * B ≤ A) ∨ (A < H * B ∧ k = g.lo ∧ g.grad = true) → powK g K = k := by
  intro h
  unfold powK
  rcases h with ⟨_, h⟩ | ⟨h, h5, h6⟩
  · have : K = k := (hK.unique hd ⟨c3.2 h, c4⟩)
    subst this
    split
    · omega
    · rfl
  · have h7 : ¬ k ≤ K := fun h8 => by have := c3.1 ((hK.iff hd).2 h8); omega
    rw [if_pos ⟨by omega, h6⟩, h5]
 by_cases hAz : z * B ≤ A
 · -- at or above
   have q1 : qP num den (e - w * k) = z := by
    have a1 := (c1 z).2 hAz
    have a2 : ¬ z + 1 ≤ qP num den (e - w * k) := fun h => by have := (c1 _).1 h; rw [Nat.add_mul, Nat.one_mul] at this; omega
    omega
   refine done (pk ?_) ?_
   · by_cases h : H ≤ z
     · exact .inl ⟨h, Nat.le_trans (Nat.mul_le_mul_right B h) hAz⟩
     · refine .inr ⟨?_, ?_⟩
       · have : (z + 1) * B ≤ H * B := Nat.mul_le_mul_right B (by omega)
         rw [Nat.add_mul, Nat.one_mul] at this
         omega
       · have h6 : ¬ (g.lo < k ∨ g.grad = false) := fun h7 => h (hfull h7)
         exact ⟨by omega, by cases hg : g.grad with | true => rfl | false => exact absurd (.inr hg) h6⟩
   · unfold dUp
     rw [no_up k, q1]
     · simp
     · rw [c2.2, q1, Nat.add_mul, Nat.mul_assoc, Nat.one_mul]; omega
 · -- below
   obtain ⟨y, rfl⟩ : ∃ y, z = y + 1 := ⟨z - 1, by omega⟩
   rw [Nat.add_mul, Nat.one_mul] at dn hAz
   have q1 : qP num den (e - w * k) = y := by
    have a1 := (c1 y).2 (by omega)
    have a2 : ¬ y + 1 ≤ qP num den (e - w * k) := fun h => by have := (c1 _).1 h; rw [Nat.add_mul, Nat.one_mul] at this; omega
    omega
   have hup : upP neg num den e w 1 k = true := yes_up k (by rw [c2.1, q1, Nat.add_mul, Nat.mul_assoc, Nat.one_mul]; omega)
   have hdU : dUp neg num den e w 1 k = y + 1 := by unfold dUp; rw [hup, q1, if_pos rfl]
   by_cases h : H ≤ y
   · exact done (pk (.inl ⟨by omega, Nat.le_trans (Nat.mul_le_mul_right B h) (by omega)⟩)) hdU
   · have hAH : A < H * B := by
      have : (y + 1) * B ≤ H * B := Nat.mul_le_mul_right B (by omega)
      rw [Nat.add_mul, Nat.one_mul] at this
      omega
     by_cases h5 : k = g.lo ∧ g.grad = true
     · exact done (pk (.inr ⟨hAH, h5.1, h5.2⟩)) hdU
     · -- the least of its power: rounded up to it out of the power below
       have hyH : y + 1 = H := by
        have h6 : g.lo < k ∨ g.grad = false := by
         cases hg : g.grad with
         | true => exact .inl (by rcases Int.lt_or_le g.lo k with h7 | h7; exact h7; exact absurd ⟨by omega, hg⟩ h5)
         | false => exact .inr rfl
        have := hfull h6
        omega
       have ew : (w * k + t : Int).toNat = (w * (k - 1) + t : Int).toNat + w := by
        have : (w : Int) * k = w * (k - 1) + w := by rw [Int.mul_sub]; omega
        omega
       have eB : 2 ^ (w * k + t : Int).toNat = 2 ^ (w * (k - 1) + t : Int).toNat * 2 ^ w := by rw [ew, Nat.pow_add]
       have p0 : 0 < 2 ^ w := Nat.pow_pos (by omega)
       have d1 := cell (k - 1) (2 ^ w) ht3 eB p0
       have d2 := half (k - 1) (2 ^ w) ht3 eB p0
       have d3 := full (k - 1) (2 ^ w) ht3 eB p0
       obtain ⟨C, hC⟩ : ∃ C, C = A * 2 ^ w := ⟨_, rfl⟩
       rw [← hC] at d2 d3
       rw [hyH] at h2
       have lowB : 2 * (M * B) < 2 * C + B := by
        have k1 := Nat.mul_lt_mul_of_pos_right h2 p0
        have e1 : 2 * M * (H * B) * 2 ^ w = M * (2 * (H * 2 ^ w * B)) := by grind
        have e2 : (2 * M * A + H * B) * 2 ^ w = M * (2 * (A * 2 ^ w)) + H * 2 ^ w * B := by grind
        rw [e1, e2, ← hMH, ← hC] at k1
        have e3 : M * (2 * C + B) = M * (2 * C) + M * B := by grind
        refine Nat.lt_of_mul_lt_mul_left (a := M) ?_
        omega
       have highB : C < M * B := by
        rw [hC, hMH, show H * 2 ^ w * B = H * B * 2 ^ w by grind]
        exact Nat.mul_lt_mul_of_pos_right hAH p0
       obtain ⟨x, hx⟩ : ∃ x, M = x + 1 := ⟨M - 1, by omega⟩
       have hxB : M * B = x * B + B := by rw [hx, Nat.add_mul, Nat.one_mul]
       have q2 : qP num den (e - w * (k - 1)) = x := by
        have a1 := (d1 x).2 (by rw [← hC]; omega)
        have a2 : ¬ x + 1 ≤ qP num den (e - w * (k - 1)) := fun h => by have := (d1 _).1 h; rw [← hC, ← hx] at this; omega
        omega
       have hup2 : upP neg num den e w 1 (k - 1) = true := yes_up (k - 1) (by rw [d2.1, q2, Nat.add_mul, Nat.mul_assoc, Nat.one_mul]; omega)
       have hdU2 : dUp neg num den e w 1 (k - 1) = M := by unfold dUp; rw [hup2, q2, if_pos rfl, hx]
       have hK1 : K = k - 1 := hK.unique hd ⟨d3.2 (by
         have : H * B ≤ x * B := Nat.mul_le_mul_right B (by omega)
         omega), by rw [show k - 1 + 1 = k by omega, c3]; omega⟩
       have hpk : powK g K = k - 1 := by
        unfold powK
        rw [if_neg (fun h => h5 ⟨by omega, h.2⟩), hK1]
       have hl : i0k neg num den e w D 1 (k - 1) := ⟨hup2, by rw [hdU2]; exact bM⟩
       have hg : digP neg num den e w D 1 (k - 1) = y + 1 := by unfold digP; rw [if_pos hl, ← hH, hyH]
       have hp : powP neg num den e w D 1 (k - 1) = k := by unfold powP; rw [if_pos hl]; omega
       rw [hRP, t0b hw hD hpk hg hp rfl]
       exact ⟨rfl, rfl, by show (if y + 1 = 0 then 0 else k) = k; rw [if_neg (by omega)], decide_eq_false (by omega)⟩
def be (l : List Nat) : Nat := l.foldl (fun a c => a * 256 + c) 0
def vb (l : List Bool) : Nat := l.foldl (fun a b => 2 * a + b.toNat) 0
def e0u (c : Nat) : List Bool := [c / 128 % 2 == 1, c / 64 % 2 == 1, c / 32 % 2 == 1, c / 16 % 2 == 1, c / 8 % 2 == 1, c / 4 % 2 == 1, c / 2 % 2 == 1, c / 1 % 2 == 1]
def g0x : List Nat → List Bool
 | [] => []
 | c :: r => e0u c ++ g0x r
theorem f1o (l : List Bool) : ∀ a : Nat, l.foldl (fun a b => 2 * a + b.toNat) a = a * 2 ^ l.length + vb l := by
 induction l with
 | nil => intro a; simp [vb]
 | cons x r ih =>
  intro a
  unfold vb
  simp only [List.foldl_cons, List.length_cons]
  rw [ih, ih (2 * 0 + x.toNat), Nat.pow_succ, Nat.mul_zero, Nat.zero_add, Nat.add_mul]
  have h1 : 2 * a * 2 ^ r.length = a * (2 ^ r.length * 2) := by rw [Nat.mul_comm 2 a, Nat.mul_assoc, Nat.mul_comm 2]
  omega
theorem f1p : vb [] = 0 := rfl
theorem m0y (x : Bool) (r : List Bool) : vb (x :: r) = x.toNat * 2 ^ r.length + vb r := by
 show List.foldl _ _ r = _
 rw [f1o]
 simp
theorem i0w (x y : List Bool) : vb (x ++ y) = vb x * 2 ^ y.length + vb y := by
 show List.foldl _ _ (x ++ y) = _
 rw [List.foldl_append, f1o]
 rfl
theorem f1q (x : List Bool) (b : Bool) : vb (x ++ [b]) = 2 * vb x + b.toNat := by
 rw [i0w, m0y, f1p]
 simp
 omega
theorem m0z : ∀ l : List Bool, vb l < 2 ^ l.length
 | [] => by simp [vb]
 | x :: r => by
  have h := m0z r
  rw [m0y, List.length_cons, Nat.pow_succ]
  have h2 : x.toNat ≤ 1 := by cases x <;> decide
  have h3 : x.toNat * 2 ^ r.length ≤ 1 * 2 ^ r.length := Nat.mul_le_mul_right _ h2
  omega
theorem o1y : ∀ c, c < 256 → vb (e0u c) = c := by decide +kernel
theorem n0l (c : Nat) : (e0u c).length = 8 := rfl
theorem i0x : ∀ l : List Nat, (g0x l).length = 8 * l.length
 | [] => rfl
 | c :: r => by
  show (e0u c ++ g0x r).length = _
  rw [List.length_append, n0l, i0x r, List.length_cons]
  omega
theorem o1z (l : List Nat) : ∀ a : Nat, l.foldl (fun a c => a * 256 + c) a = a * 256 ^ l.length + be l := by
 induction l with
 | nil => intro a; simp [be]
 | cons x r ih =>
  intro a
  unfold be
  simp only [List.foldl_cons, List.length_cons]
  rw [ih, ih (0 * 256 + x), Nat.pow_succ, Nat.zero_mul, Nat.zero_add, Nat.add_mul, Nat.mul_assoc, Nat.mul_comm 256]
  omega
theorem p1a (x : Nat) (r : List Nat) : be (x :: r) = x * 256 ^ r.length + be r := by
 show List.foldl _ _ r = _
 rw [o1z]
 simp
theorem f1r (l : List Nat) (c : Nat) : be (l ++ [c]) = be l * 256 + c := by
 show List.foldl _ _ (l ++ [c]) = _
 rw [List.foldl_append]
 rfl
theorem y0j : ∀ l : List Nat, (∀ c ∈ l, c < 256) → vb (g0x l) = be l
 | [], _ => rfl
 | c :: r, h => by
  show vb (e0u c ++ g0x r) = _
  rw [i0w, o1y c (h c (List.mem_cons_self ..)), y0j r (fun d hd => h d (List.mem_cons_of_mem _ hd)), p1a, i0x, Nat.pow_mul]
theorem s1d (l : List Nat) (h : ∀ c ∈ l, c < 256) : be l < 2 ^ (8 * l.length) := by
 rw [← y0j l h, ← i0x]
 exact m0z _
theorem p1b (b : List Bool) (k : Nat) : vb (b.take k) = vb b / 2 ^ (b.length - k) := by
 have h := i0w (b.take k) (b.drop k)
 rw [List.take_append_drop, List.length_drop] at h
 have h2 := m0z (b.drop k)
 rw [List.length_drop] at h2
 rw [h, Nat.mul_comm, Nat.mul_add_div (Nat.pow_pos (by omega)), Nat.div_eq_of_lt h2]
 omega
theorem p1c (b : List Bool) (k : Nat) : vb (b.drop k) = vb b % 2 ^ (b.length - k) := by
 have h := i0w (b.take k) (b.drop k)
 rw [List.take_append_drop, List.length_drop] at h
 have h2 := m0z (b.drop k)
 rw [List.length_drop] at h2
 rw [h, Nat.mul_comm, Nat.mul_add_mod, Nat.mod_eq_of_lt h2]
theorem s1e (x : Bool) (r : List Bool) : (vb (x :: r) / 2 ^ r.length == 1) = x := by
 have h := m0z r
 rw [m0y, Nat.mul_comm, Nat.mul_add_div (Nat.pow_pos (by omega)), Nat.div_eq_of_lt h]
 cases x <;> simp
theorem p1d (x : Bool) (r : List Bool) : vb (x :: r) % 2 ^ r.length = vb r := by
 have h := m0z r
 rw [m0y, Nat.mul_comm, Nat.mul_add_mod, Nat.mod_eq_of_lt h]
theorem f1s : ∀ l : List Bool, (l.all id = true) ↔ vb l = 2 ^ l.length - 1
 | [] => by simp [vb]
 | x :: r => by
  have h := f1s r
  have h2 := m0z r
  rw [m0y, List.length_cons, Nat.pow_succ, List.all_cons, Bool.and_eq_true, h]
  cases x
  · simp
    omega
  · simp
    omega
theorem y0k {m z w : Nat} (h : 2 ^ z ∣ m) : m / 2 ^ z * 2 ^ (z % w) = m / 2 ^ (z / w * w) := by
 obtain ⟨q, rfl⟩ := h
 have e : 2 ^ z = 2 ^ (z / w * w) * 2 ^ (z % w) := by
  rw [← Nat.pow_add]
  congr 1
  have := Nat.div_add_mod z w
  rw [Nat.mul_comm] at this
  omega
 rw [Nat.mul_div_cancel_left _ (Nat.pow_pos (by omega))]
 rw [e, Nat.mul_assoc, Nat.mul_div_cancel_left _ (Nat.pow_pos (by omega)), Nat.mul_comm]
theorem c1k (p : Int) (z w : Nat) (hw : w = 1 ∨ w = 4) (h1 : -19999 ≤ p) (h2 : p ≤ 19999) : ((w : Int) * p + z + 80000).tdiv w - (80000 : Int).tdiv w = p + ((z / w : Nat) : Int) := by
 rcases hw with rfl | rfl
 · rw [Int.tdiv_eq_ediv_of_nonneg (by omega), Int.tdiv_eq_ediv_of_nonneg (by omega)]
   omega
 · rw [Int.tdiv_eq_ediv_of_nonneg (by omega), Int.tdiv_eq_ediv_of_nonneg (by omega)]
   omega
structure Fm where
 size : Nat
 E : Nat
 F : Nat
 g : Gd
 fam : Nat
 ext : Bool
def fmt (n : Int) : Fm :=
 if n = 1 then ⟨4, 8, 23, ⟨2, 24, -149, 104, true⟩, 1, false⟩
 else if n = 2 then ⟨8, 11, 52, ⟨2, 53, -1074, 971, true⟩, 1, false⟩
 else if n = 3 then ⟨10, 15, 64, ⟨2, 64, -16445, 16320, true⟩, 1, true⟩
 else if n = 4 then ⟨4, 7, 24, ⟨16, 6, -70, 57, false⟩, 2, false⟩
 else if n = 5 then ⟨8, 7, 56, ⟨16, 14, -78, 49, false⟩, 2, false⟩
 else if n = 6 then ⟨4, 8, 23, ⟨2, 24, -151, 103, false⟩, 3, false⟩
 else if n = 7 then ⟨8, 8, 55, ⟨2, 56, -183, 71, false⟩, 3, false⟩
 else if n = 8 then ⟨8, 11, 52, ⟨2, 53, -1076, 970, false⟩, 3, false⟩
 else ⟨0, 0, 0, ⟨0, 0, 0, 0, false⟩, 0, false⟩
def IsFm (n : Int) : Prop := 1 ≤ n ∧ n ≤ 8
instance (n : Int) : Decidable (IsFm n) := by unfold IsFm; exact inferInstance
def Fm.hid (f : Fm) : Bool := !(f.fam == 2) && !f.ext
def Fm.inf (f : Fm) : Bool := f.fam == 1
def Fm.res (f : Fm) : Bool := f.fam == 3
def Fm.ord (f : Fm) : Nat := if f.ext then 2 else if f.fam = 3 then 1 else 0
structure d0h (f : Fm) : Prop where
 bits : 1 + f.E + f.F = 8 * f.size
 sz : f.size = 4 ∨ f.size = 8 ∨ f.size = 10
 e1 : 7 ≤ f.E
 e2 : f.E ≤ 15
 f1 : 23 ≤ f.F
 f2 : f.F ≤ 64
 g : errG f.g = 0
 fam : f.fam = 1 ∨ f.fam = 2 ∨ f.fam = 3
 ext : f.ext = true → f.fam = 1 ∧ f.F = 64 ∧ f.g.digs = 64
 w : wid f.g = if f.fam = 2 then 4 else 1
 rad : f.g.rad = if f.fam = 2 then 16 else 2
 grad : f.g.grad = decide (f.fam = 1)
 lo : -16445 ≤ f.g.lo ∧ f.g.lo ≤ -70
 hi : f.g.hi ≤ 16320
 hi1 : f.fam = 1 → f.g.hi = f.g.lo + (2 ^ f.E : Nat) - 3
 hi2 : f.fam = 2 → f.g.hi = f.g.lo + (2 ^ f.E : Nat) - 1
 hi3 : f.fam = 3 → f.g.hi = f.g.lo + (2 ^ f.E : Nat) - 2
 d2 : f.fam = 2 → 4 * f.g.digs = f.F
 d1 : f.fam ≠ 2 → f.ext = false → f.g.digs = f.F + 1
theorem l0u {n : Int} (h : IsFm n) : n = 1 ∨ n = 2 ∨ n = 3 ∨ n = 4 ∨ n = 5 ∨ n = 6 ∨ n = 7 ∨ n = 8 := by unfold IsFm at h; omega
theorem b0j {n : Int} (h : IsFm n) : d0h (fmt n) := by
 rcases l0u h with rfl | rfl | rfl | rfl | rfl | rfl | rfl | rfl <;> exact ⟨by decide, by decide, by decide, by decide, by decide, by decide, by decide, by decide, by decide, by decide, by decide, by decide, by decide, by decide, by decide, by decide, by decide, by decide, by decide⟩
def plc (o n i : Nat) : Nat := if o = 2 then n - 1 - i else if o = 1 then i + 1 - 2 * (i % 2) else i
def ordL (o : Nat) (xs : List Nat) : List Nat := (List.range xs.length).map fun i => dg xs (plc o xs.length i)
theorem c0b (o : Nat) (xs : List Nat) : (ordL o xs).length = xs.length := by simp [ordL]
theorem n0a {o : Nat} {xs : List Nat} {i : Nat} (h : i < xs.length) : dg (ordL o xs) i = dg xs (plc o xs.length i) := by
 unfold ordL
 rw [dg, List.getElem?_map, List.getElem?_range h]
 rfl
theorem r0m {xs ys : List Nat} (hl : xs.length = ys.length) (h : ∀ i, i < xs.length → dg xs i = dg ys i) : xs = ys := by
 apply List.ext_getElem hl
 intro i h1 h2
 have := h i h1
 unfold dg at this
 rw [List.getElem?_eq_getElem h1, List.getElem?_eq_getElem h2] at this
 simpa using this
theorem f1t {o n i : Nat} (ho : o = 1 → n % 2 = 0) (h : i < n) : plc o n i < n := by
 unfold plc
 split
 · omega
 · split
   · rename_i k
     have := ho k
     omega
   · exact h
theorem p1e {o n i : Nat} (h : i < n) : plc o n (plc o n i) = i := by
 unfold plc
 split
 · omega
 · split
   · omega
   · rfl
theorem j0q {o : Nat} {xs : List Nat} (ho : o = 1 → xs.length % 2 = 0) (h : ∀ x ∈ xs, x < 256) : ∀ x ∈ ordL o xs, x < 256 := by
 intro x hx
 unfold ordL at hx
 rw [List.mem_map] at hx
 obtain ⟨i, hi, rfl⟩ := hx
 rw [List.mem_range] at hi
 have k := f1t ho hi
 unfold dg
 rw [List.getElem?_eq_getElem k]
 exact h _ (List.getElem_mem k)
theorem f1u {o : Nat} {xs : List Nat} (ho : o = 1 → xs.length % 2 = 0) : ordL o (ordL o xs) = xs := by
 apply r0m (by rw [c0b, c0b])
 intro i hi
 rw [c0b, c0b] at hi
 rw [n0a (by rw [c0b]; exact hi), n0a (by rw [c0b]; exact f1t ho hi), c0b, p1e hi]
theorem f1v (xs : List Nat) : ordL 0 xs = xs := r0m (c0b _ _) fun i hi => by rw [c0b] at hi; rw [n0a hi]; rfl
theorem j1x (xs : List Nat) : ordL 2 xs = xs.reverse := r0m (by rw [c0b, List.length_reverse]) fun i hi => by rw [c0b] at hi; rw [n0a hi, q0x hi]; rfl
/-! ### What a pattern's number is -/
def Fm.neg (f : Fm) (N : Nat) : Bool := N / 2 ^ f.F / 2 ^ f.E == 1
def Fm.exp (f : Fm) (N : Nat) : Nat := N / 2 ^ f.F % 2 ^ f.E
def Fm.frac (f : Fm) (N : Nat) : Nat := N % 2 ^ f.F
structure Dc where
 cls : Nat
 m : Nat
 p : Int
def Fm.dec (f : Fm) (neg : Bool) (e frac : Nat) : Dc :=
 if f.fam = 2 then ⟨2, frac, f.g.lo + e⟩
 else if f.fam = 1 ∧ e = 2 ^ f.E - 1 then (if (f.ext = false ∧ frac = 0) ∨ (f.ext = true ∧ frac = 2 ^ 63) then ⟨3, 0, 0⟩ else ⟨4, 0, 0⟩)
 else if f.fam = 3 ∧ e = 0 then (if neg then ⟨5, 0, 0⟩ else ⟨1, 0, 0⟩)
 else if e = 0 then ⟨2, frac, f.g.lo⟩
 else if f.ext = false then ⟨2, frac + 2 ^ f.F, f.g.lo + e - 1⟩
 else if frac < 2 ^ 63 then ⟨4, 0, 0⟩
 else ⟨2, frac, f.g.lo + e - 1⟩
def Dc.c (d : Dc) : Nat := if d.cls = 2 ∧ d.m = 0 then 1 else d.cls
theorem f1w (f : Fm) (neg : Bool) (e frac : Nat) : (f.dec neg e frac).cls = 1 ∨ (f.dec neg e frac).cls = 2 ∨ (f.dec neg e frac).cls = 3 ∨ (f.dec neg e frac).cls = 4 ∨ (f.dec neg e frac).cls = 5 := by
 unfold Fm.dec
 repeat' split
 all_goals simp
theorem j1y {f : Fm} (neg : Bool) {e frac : Nat} (h : frac < 2 ^ f.F) : (f.dec neg e frac).m < 2 ^ (f.F + 1) := by
 have h1 : 2 ^ (f.F + 1) = 2 * 2 ^ f.F := by rw [Nat.pow_succ]; omega
 have h2 : 0 < 2 ^ f.F := Nat.pow_pos (by omega)
 unfold Fm.dec
 repeat' split
 all_goals simp only
 all_goals omega
theorem p1f {f : Fm} (G : d0h f) (neg : Bool) {e frac : Nat} (h : e < 2 ^ f.E) : -16445 ≤ (f.dec neg e frac).p ∧ (f.dec neg e frac).p ≤ 16323 := by
 have h1 := G.lo
 have h2 := G.hi
 have h3 := G.hi1
 have h4 := G.hi2
 have h5 := G.hi3
 have h6 := G.fam
 unfold Fm.dec
 generalize 2 ^ f.E = T at *
 repeat' split
 all_goals simp only
 all_goals omega
structure Vl where
 cls : Nat
 neg : Bool
 d : Nat
 pow : Int
structure Vr where
 cls : Nat
 neg : Bool
 x : Dv
def Fm.vl (f : Fm) (neg : Bool) (d : Dc) : Vl := ⟨d.c, if d.c ≤ 3 then neg else false, if d.c = 2 then d.m / 2 ^ (tz d.m / wid f.g * wid f.g) else 0, if d.c = 2 then d.p + (tz d.m / wid f.g : Nat) else 0⟩
def Fm.vr (f : Fm) (neg : Bool) (d : Dc) : Vr := ⟨d.c, if d.c ≤ 3 then neg else false, if d.c = 2 then bare ⟨neg, d.m, wid f.g * d.p⟩ else ⟨false, 0, 0⟩⟩
def Fm.decN (f : Fm) (N : Nat) : Dc := f.dec (f.neg N) (f.exp N) (f.frac N)
def Fm.valN (f : Fm) (N : Nat) : Vl := f.vl (f.neg N) (f.decN N)
def Fm.refN (f : Fm) (N : Nat) : Vr := f.vr (f.neg N) (f.decN N)
def Fm.powR (f : Fm) (x : Dv) : Int := (x.e + 80000).tdiv (wid f.g) - (80000 : Int).tdiv (wid f.g)
def Fm.toV (f : Fm) (v : Vr) : Vl := ⟨v.cls, v.neg, if v.cls = 2 then m1n ⟨false, v.x.m, v.x.e - wid f.g * f.powR v.x⟩ else 0, if v.cls = 2 then f.powR v.x else 0⟩
theorem j1z (f : Fm) (neg : Bool) (d : Dc) (h1 : -19999 ≤ d.p) (h2 : d.p ≤ 19999) : f.toV (f.vr neg d) = f.vl neg d := by
 by_cases h : d.c = 2
 · have hm : d.m ≠ 0 := by
    intro h0
    unfold Dc.c at h
    split at h
    · omega
    · rename_i k
      exact k ⟨h, h0⟩
   have hw : wid f.g = 1 ∨ wid f.g = 4 := by unfold wid; split <;> simp
   have hx : bare ⟨neg, d.m, wid f.g * d.p⟩ = ⟨neg, d.m / 2 ^ tz d.m, wid f.g * d.p + tz d.m⟩ := by unfold bare; rw [if_neg hm]
   have hk : f.powR (bare ⟨neg, d.m, wid f.g * d.p⟩) = d.p + (tz d.m / wid f.g : Nat) := by
    unfold Fm.powR
    rw [hx]
    exact c1k d.p (tz d.m) (wid f.g) hw h1 h2
   unfold Fm.toV Fm.vr Fm.vl
   simp only [if_pos h, hk]
   rw [hx]
   simp only [Vl.mk.injEq, true_and, and_true]
   have e : (wid f.g : Int) * d.p + tz d.m - wid f.g * (d.p + (tz d.m / wid f.g : Nat)) = ((tz d.m % wid f.g : Nat) : Int) := by
    rw [Int.mul_add]
    have := Nat.div_add_mod (tz d.m) (wid f.g)
    have k : (wid f.g : Int) * ((tz d.m / wid f.g : Nat) : Int) = ((wid f.g * (tz d.m / wid f.g) : Nat) : Int) := by rw [Int.natCast_mul]
    rw [k]
    omega
   unfold m1n
   simp only
   rw [e, if_pos (by omega), Int.toNat_natCast]
   exact y0k (w := wid f.g) ⟨d.m / 2 ^ tz d.m, ((b0t d.m (by omega)).1).symm⟩
 · unfold Fm.toV Fm.vr Fm.vl
   simp only [if_neg h]
theorem a1r {f : Fm} {x : Bool} {r : List Bool} (h : r.length = f.E + f.F) : f.neg (vb (x :: r)) = x := by
 unfold Fm.neg
 rw [Nat.div_div_eq_div_mul, ← Nat.pow_add, Nat.add_comm f.F, ← h]
 exact s1e x r
theorem k1a {f : Fm} {x : Bool} {r : List Bool} (h : r.length = f.E + f.F) : vb (x :: r) / 2 ^ f.F = vb (x :: r.take f.E) := by
 have := p1b (x :: r) (1 + f.E)
 rw [List.length_cons, h, show f.E + f.F + 1 - (1 + f.E) = f.F by omega, Nat.add_comm 1, List.take_succ_cons] at this
 exact this.symm
theorem a1s {f : Fm} {x : Bool} {r : List Bool} (h : r.length = f.E + f.F) : f.exp (vb (x :: r)) = vb (r.take f.E) := by
 unfold Fm.exp
 rw [k1a h]
 have h2 : (r.take f.E).length = f.E := by rw [List.length_take]; omega
 have := p1d x (r.take f.E)
 rw [h2] at this
 exact this
theorem v0m {f : Fm} {x : Bool} {r : List Bool} (h : r.length = f.E + f.F) : f.frac (vb (x :: r)) = vb (r.drop f.E) := by
 unfold Fm.frac
 have := p1c (x :: r) (f.E + 1)
 rw [List.length_cons, h, show f.E + f.F + 1 - (f.E + 1) = f.F by omega, List.drop_succ_cons] at this
 exact this.symm
theorem v0n (r : List Bool) (i : Nat) (h : i < r.length) : vb (r.take (i + 1)) = 2 * vb (r.take i) + r[i].toNat := by
 rw [← List.take_append_getElem h, f1q]
theorem t0j (r : List Bool) (i : Nat) (h : i < r.length) : (r.take (i + 1)).all id = ((r.take i).all id && r[i]) := by
 rw [← List.take_append_getElem h, List.all_append]
 simp
def q0k : Nat → Nat → List Bool
 | _, 0 => []
 | a, n + 1 => q0k (a / 2) n ++ [a % 2 == 1]
theorem d0t : ∀ (n a : Nat), (q0k a n).length = n
 | 0, _ => rfl
 | n + 1, a => by rw [q0k, List.length_append, d0t n]; rfl
theorem l0v : ∀ (n a : Nat), vb (q0k a n) = a % 2 ^ n
 | 0, a => by simp [q0k, vb, Nat.mod_one]
 | n + 1, a => by
  rw [q0k, f1q, l0v n]
  have h1 : a % 2 ^ (n + 1) = a % 2 + 2 * (a / 2 % 2 ^ n) := by
   rw [Nat.pow_succ, Nat.mul_comm (2 ^ n) 2, Nat.mod_mul]
  have h2 : (a % 2 == 1).toNat = a % 2 := by
   rcases Nat.mod_two_eq_zero_or_one a with h | h <;> rw [h] <;> rfl
  omega
def Fm.pat (f : Fm) (neg : Bool) (e frac : Nat) : Nat := (neg.toNat * 2 ^ f.E + e) * 2 ^ f.F + frac
def e0k : Nat → Nat → List Nat
 | _, 0 => []
 | a, n + 1 => e0k (a / 256) n ++ [a % 256]
theorem e0f : ∀ (n a : Nat), (e0k a n).length = n
 | 0, _ => rfl
 | n + 1, a => by rw [e0k, List.length_append, e0f n]; rfl
theorem v0o : ∀ (n a : Nat), ∀ x ∈ e0k a n, x < 256
 | 0, _, x, h => by simp [e0k] at h
 | n + 1, a, x, h => by
  rw [e0k, List.mem_append] at h
  rcases h with h | h
  · exact v0o n _ x h
  · rw [List.mem_singleton] at h
    omega
theorem v0p : ∀ (n a : Nat), be (e0k a n) = a % 2 ^ (8 * n)
 | 0, a => by simp [e0k, be, Nat.mod_one]
 | n + 1, a => by
  rw [e0k, f1r, v0p n]
  rw [show 8 * (n + 1) = 8 * n + 8 by omega, Nat.pow_add, Nat.mul_comm (2 ^ (8 * n)), Nat.mod_mul]
  rw [show (2 : Nat) ^ 8 = 256 from rfl]
  omega
theorem c1l (l : List Nat) (x i : Nat) (h : i < l.length) : dg (l ++ [x]) i = dg l i := by
 unfold dg
 rw [List.getElem?_append_left h]
theorem v0q : ∀ (n a i : Nat), i < n → dg (e0k a n) i = a / 2 ^ (8 * (n - 1 - i)) % 256
 | 0, _, _, h => by omega
 | n + 1, a, i, h => by
  rw [e0k]
  by_cases h2 : i < n
  · rw [c1l _ _ _ (by rw [e0f]; exact h2), v0q n _ i h2, Nat.div_div_eq_div_mul]
    congr 2
    rw [show (256 : Nat) = 2 ^ 8 from rfl, ← Nat.pow_add]
    congr 1
    omega
  · obtain rfl : i = n := by omega
    unfold dg
    rw [List.getElem?_append_right (by rw [e0f]; exact Nat.le_refl _), e0f]
    simp
def Fm.str (f : Fm) (neg : Bool) (e frac : Nat) : List Nat := ordL f.ord (e0k (f.pat neg e frac) f.size)
def Fm.bits (f : Fm) (neg : Bool) (e frac : Nat) : List Bool := neg :: (q0k e f.E ++ q0k frac f.F)
theorem k1b (f : Fm) (neg : Bool) (e frac : Nat) : (f.bits neg e frac).length = 1 + f.E + f.F := by
 unfold Fm.bits
 rw [List.length_cons, List.length_append, d0t, d0t]
 omega
theorem a1t {f : Fm} {neg : Bool} {e frac : Nat} (he : e < 2 ^ f.E) (hf : frac < 2 ^ f.F) : vb (f.bits neg e frac) = f.pat neg e frac := by
 unfold Fm.bits Fm.pat
 rw [m0y, i0w, l0v, l0v, d0t, List.length_append, d0t, d0t, Nat.mod_eq_of_lt he, Nat.mod_eq_of_lt hf, Nat.pow_add, Nat.add_mul, Nat.mul_assoc]
 omega
theorem p1g (f : Fm) (neg : Bool) (e frac : Nat) : (f.str neg e frac).length = f.size := by unfold Fm.str; rw [c0b, e0f]
theorem n1g {f : Fm} (G : d0h f) {neg : Bool} {e frac : Nat} (he : e < 2 ^ f.E) (hf : frac < 2 ^ f.F) : f.pat neg e frac < 2 ^ (8 * f.size) := by
 rw [← G.bits, ← a1t he hf, ← k1b f neg e frac]
 exact m0z _
theorem s1f {f : Fm} (G : d0h f) {neg : Bool} {e frac : Nat} (he : e < 2 ^ f.E) (hf : frac < 2 ^ f.F) : be (ordL f.ord (f.str neg e frac)) = f.pat neg e frac := by
 have ho : f.ord = 1 → f.size % 2 = 0 := fun _ => by have := G.sz; omega
 unfold Fm.str
 rw [f1u (by rw [e0f]; exact ho), v0p, Nat.mod_eq_of_lt (n1g G he hf)]
theorem f1x {f : Fm} {neg : Bool} {e frac : Nat} (he : e < 2 ^ f.E) (hf : frac < 2 ^ f.F) : f.neg (f.pat neg e frac) = neg ∧ f.exp (f.pat neg e frac) = e ∧ f.frac (f.pat neg e frac) = frac := by
 rw [← a1t he hf]
 unfold Fm.bits
 have hl : (q0k e f.E ++ q0k frac f.F).length = f.E + f.F := by rw [List.length_append, d0t, d0t]
 refine ⟨a1r hl, ?_, ?_⟩
 · rw [a1s hl, List.take_left' (d0t _ _), l0v, Nat.mod_eq_of_lt he]
 · rw [v0m hl, List.drop_left' (d0t _ _), l0v, Nat.mod_eq_of_lt hf]
structure Pt where
 neg : Bool
 e : Nat
 x : Nat
def Fm.fr (f : Fm) (d : Dv) : Nat := d.m * 2 ^ (d.e - wid f.g * c0e d f.g).toNat
def Fm.numP (f : Fm) (d : Dv) : Pt :=
 if f.fam = 2 then ⟨d.neg, (c0e d f.g - f.g.lo).toNat, f.fr d⟩
 else if (blen (f.fr d) : Int) = f.g.digs then ⟨d.neg, (c0e d f.g - f.g.lo).toNat + 1, if f.ext then f.fr d else f.fr d - 2 ^ f.F⟩
 else ⟨d.neg, (c0e d f.g - f.g.lo).toNat, f.fr d⟩
def Fm.encP (f : Fm) (cls : Nat) (g : Bool) (d : Dv) : Pt :=
 if cls = 2 then f.numP d
 else if cls = 3 then ⟨g, 2 ^ f.E - 1, if f.ext then 2 ^ 63 else 0⟩
 else if cls = 4 then ⟨g, 2 ^ f.E - 1, if f.ext then 2 ^ 63 + 2 ^ 62 else 2 ^ (f.F - 1)⟩
 else if cls = 5 then ⟨true, 0, 0⟩
 else ⟨g, 0, 0⟩
def Fm.strP (f : Fm) (p : Pt) : List Nat := f.str p.neg p.e p.x
structure NumF (f : Fm) (d : Dv) : Prop where
 k1 : f.g.lo ≤ c0e d f.g
 k2 : c0e d f.g ≤ f.g.hi
 e0 : 0 ≤ d.e - wid f.g * c0e d f.g
 e1 : d.e - wid f.g * c0e d f.g ≤ 484
 lt : f.fr d < 2 ^ (wid f.g * f.g.digs.toNat)
 ne : f.fr d ≠ 0
 bl : (blen (f.fr d) : Int) ≤ wid f.g * f.g.digs
 low : f.fam ≠ 2 → (blen (f.fr d) : Int) ≠ f.g.digs → c0e d f.g = f.g.lo ∧ f.fam = 1
theorem f1y {f : Fm} (G : d0h f) {d : Dv} (hin : a0p d f.g = true) (h0 : d.m ≠ 0) : NumF f d := by
 have hg := b0o G.g
 obtain ⟨a1, a2, a3, a4⟩ := f1k hg hin h0
 have hd1 := hg.d1
 have wp := b0f f.g
 obtain ⟨D, hD⟩ : ∃ D : Nat, f.g.digs = D := ⟨f.g.digs.toNat, by omega⟩
 have hDt : f.g.digs.toNat = D := by omega
 have hbl : (blen (f.fr d) : Int) = topD d - wid f.g * c0e d f.g := by
  unfold Fm.fr
  rw [h0e (by omega)]
  unfold topD
  omega
 have hpos : f.fr d ≠ 0 := by
  unfold Fm.fr
  have := Nat.mul_pos (show 0 < d.m by omega) (Nat.pow_pos (n := (d.e - wid f.g * c0e d f.g).toNat) (show 0 < 2 by omega))
  omega
 have hb := f0j (topD d - 1) (wid f.g) (by omega)
 have eU : upK d (wid f.g) D = (topD d - 1) / (wid f.g : Int) - D + 1 := rfl
 have eS : c0e d f.g = max f.g.lo (upK d (wid f.g) f.g.digs.toNat) := rfl
 rw [hDt] at eS
 have hle : upK d (wid f.g) D ≤ c0e d f.g := by omega
 have hmul : (wid f.g : Int) * upK d (wid f.g) D ≤ wid f.g * c0e d f.g := Int.mul_le_mul_of_nonneg_left hle (by omega)
 have eK : (wid f.g : Int) * upK d (wid f.g) D = wid f.g * ((topD d - 1) / (wid f.g : Int)) - wid f.g * D + wid f.g := by rw [eU]; grind
 have hbD : (blen (f.fr d) : Int) ≤ wid f.g * f.g.digs := by rw [hD]; omega
 have ewD : ((wid f.g * D : Nat) : Int) = wid f.g * D := Int.natCast_mul _ _
 refine ⟨a3, a4, by omega, by omega, ?_, hpos, hbD, fun hf hn => ?_⟩
 · rw [hDt]
   refine (a0u _ _).1 ?_
   rw [hD] at hbD
   omega
 · have hw : wid f.g = 1 := by rw [G.w, if_neg hf]
   rw [hw] at hbl eU
   have hu : ¬ c0e d f.g = upK d 1 D := by
    intro h
    apply hn
    rw [hbl, h, eU, hD]
    have : (topD d - 1) / ((1 : Nat) : Int) = topD d - 1 := by simp
    omega
   rw [hw] at eS
   have hlo : c0e d f.g = f.g.lo := by omega
   refine ⟨hlo, ?_⟩
   have hlt : upK d 1 D < f.g.lo := by omega
   unfold a0p at hin
   rw [if_neg h0, hDt, hw] at hin
   split at hin
   · simp at hin
   · have hgr := G.grad
     by_cases hf1 : f.fam = 1
     · exact hf1
     · rw [decide_eq_false hf1] at hgr
       rw [hgr] at hin
       simp at hin
theorem t0k {f : Fm} (G : d0h f) (hf : f.fam ≠ 2) : (f.ext = false ∧ f.g.digs = f.F + 1) ∨ (f.ext = true ∧ f.g.digs = f.F ∧ f.F = 64) := by
 cases h : f.ext with
 | false => exact .inl ⟨rfl, G.d1 hf h⟩
 | true => have := G.ext h; exact .inr ⟨rfl, by omega, this.2.1⟩
theorem f1z {f : Fm} (G : d0h f) {d : Dv} (N : NumF f d) : (f.numP d).e < 2 ^ f.E ∧ (f.numP d).x < 2 ^ f.F := by
 have hE1 : (2 : Nat) ^ 7 ≤ 2 ^ f.E := Nat.pow_le_pow_right (by omega) G.e1
 have h1 := N.k1
 have h2 := N.k2
 have hF2 := N.lt
 have hdd := G.d2
 have hw := G.w
 unfold Fm.numP
 by_cases hf : f.fam = 2
 · rw [if_pos hf]
   have := G.hi2 hf
   rw [hw, if_pos hf, show 4 * f.g.digs.toNat = f.F by have := hdd hf; omega] at hF2
   exact ⟨by simp only; omega, hF2⟩
 · rw [if_neg hf]
   rw [hw, if_neg hf, Nat.one_mul] at hF2
   have hhi : f.g.hi + 2 ≤ f.g.lo + (2 ^ f.E : Nat) := by
    have h3 := G.hi1
    have h4 := G.hi3
    have h5 := G.fam
    omega
   rcases t0k G hf with ⟨he, hd⟩ | ⟨he, hd, h64⟩
   · rw [show f.g.digs.toNat = f.F + 1 by omega, Nat.pow_succ] at hF2
     by_cases hb : (blen (f.fr d) : Int) = f.g.digs
     · rw [if_pos hb, if_neg (by simp [he])]
       exact ⟨by simp only; omega, by simp only; omega⟩
     · rw [if_neg hb]
       refine ⟨by simp only; omega, ?_⟩
       have hbl := N.bl
       rw [hw, if_neg hf] at hbl
       show f.fr d < 2 ^ f.F
       exact (a0u _ _).1 (by omega)
   · rw [show f.g.digs.toNat = f.F by omega] at hF2
     by_cases hb : (blen (f.fr d) : Int) = f.g.digs
     · rw [if_pos hb, if_pos he]
       exact ⟨by simp only; omega, hF2⟩
     · rw [if_neg hb]
       exact ⟨by simp only; omega, hF2⟩
theorem p1h {f : Fm} (G : d0h f) {cls : Nat} {g : Bool} {d : Dv} (N : cls = 2 → NumF f d) : (f.encP cls g d).e < 2 ^ f.E ∧ (f.encP cls g d).x < 2 ^ f.F := by
 have h0 : 0 < 2 ^ f.E := Nat.pow_pos (by omega)
 have h1 : 0 < 2 ^ f.F := Nat.pow_pos (by omega)
 have hF := G.f1
 have h2 : 2 ^ (f.F - 1) < 2 ^ f.F := Nat.pow_lt_pow_right (by omega) (by omega)
 have h3 : f.ext = true → 2 ^ f.F = 2 ^ 64 := fun h => by rw [(G.ext h).2.1]
 unfold Fm.encP
 by_cases c2 : cls = 2
 · rw [if_pos c2]; exact f1z G (N c2)
 · rw [if_neg c2]
   by_cases c3 : cls = 3
   · rw [if_pos c3]
     refine ⟨by simp only; omega, ?_⟩
     simp only
     split
     · rename_i h; rw [h3 h]; omega
     · exact h1
   · rw [if_neg c3]
     by_cases c4 : cls = 4
     · rw [if_pos c4]
       refine ⟨by simp only; omega, ?_⟩
       simp only
       split
       · rename_i h; rw [h3 h]; omega
       · exact h2
     · rw [if_neg c4]
       split
       · exact ⟨h0, h1⟩
       · exact ⟨h0, h1⟩
theorem g1a (g : Bool) (m : Nat) (e : Int) : (if g then d0c (bare ⟨false, m, e⟩) else bare ⟨false, m, e⟩) = bare ⟨g, m, e⟩ := by
 cases g with
 | false => rfl
 | true =>
  rw [if_pos rfl]
  by_cases h : m = 0
  · subst h; rfl
  · unfold bare d0c
    rw [if_neg h, if_neg h]
    have h1 := b0t m (by omega)
    have h2 : 0 < m / 2 ^ tz m := by
     rcases Nat.eq_zero_or_pos (m / 2 ^ tz m) with k | k
     · rw [k] at h1; simp at h1
     · exact k
    simp [h2]
theorem l0w {x k n : Nat} (h : x < 2 ^ k) (hk : k ≤ 32 * n) : (dig B32 x).length ≤ n := by
 rw [a0h a0a]
 unfold B32
 rw [show (4294967296 : Nat) = 2 ^ 32 from rfl, ← Nat.pow_mul]
 exact Nat.lt_of_lt_of_le h (Nat.pow_le_pow_right (by omega) hk)
theorem k1c {a : Dv} {g : Gd} (hg : errG g = 0) (hin : a0p a g = true) : (dig B32 a.m).length ≤ 1200 := by
 obtain ⟨w1, w2, w3⟩ := j0p hg
 by_cases h0 : a.m = 0
 · rw [h0, a0c]; simp
 · unfold a0p at hin
   rw [if_neg h0] at hin
   have hd := (b0o hg).d1
   by_cases h1 : a.e < wid g * g.lo ∨ wid g * (g.hi + g.digs) < topD a
   · rw [if_pos h1] at hin; cases hin
   · have e1 : (wid g : Int) * (g.hi + g.digs) = wid g * g.hi + wid g * g.digs := Int.mul_add _ _ _
     have e : topD a = a.e + blen a.m := rfl
     rw [e1, e] at h1
     exact l0w ((a0u _ _).1 (Nat.le_refl (blen a.m))) (by omega)
theorem a1u (f : Fm) (g : Bool) (d : Dc) : bare ⟨(f.vl g d).neg, (f.vl g d).d, wid f.g * (f.vl g d).pow⟩ = (f.vr g d).x := by
 by_cases h : d.c = 2
 · unfold Fm.vl Fm.vr
   simp only [h, if_true]
   have hw := b0f f.g
   rw [if_pos (by omega)]
   have e : (wid f.g : Int) * (d.p + (tz d.m / wid f.g : Nat)) = wid f.g * d.p + ((tz d.m / wid f.g * wid f.g : Nat) : Int) := by
    rw [Int.mul_add, Int.natCast_mul, Int.mul_comm (wid f.g : Int) ((tz d.m / wid f.g : Nat) : Int)]
   rw [e, ← e0b]
   have hm : d.m ≠ 0 := by
    intro h0
    unfold Dc.c at h
    split at h
    · omega
    · rename_i k
      exact k ⟨h, h0⟩
   have hdv : 2 ^ (tz d.m / wid f.g * wid f.g) ∣ d.m := Nat.dvd_trans (Nat.pow_dvd_pow 2 (Nat.div_mul_le_self _ _)) ⟨d.m / 2 ^ tz d.m, ((b0t d.m (by omega)).1).symm⟩
   rw [Nat.div_mul_cancel hdv]
 · unfold Fm.vl Fm.vr
   simp only [if_neg h]
   exact v0e _ _
structure CanF (f : Fm) (cls : Nat) (g : Bool) (d : Dv) : Prop where
 c : 1 ≤ cls ∧ cls ≤ 5
 c1 : cls = 1 → g = true → f.fam ≠ 3
 c2 : cls = 2 → NumF f d ∧ Bare d ∧ d.m ≠ 0 ∧ d.neg = g
 c3 : cls = 3 → f.fam = 1
 c4 : cls = 4 → f.fam = 1 ∧ g = false
 c5 : cls = 5 → f.fam = 3 ∧ g = false
theorem p1i {f : Fm} {d : Dv} (N : NumF f d) (hB : Bare d) : bare ⟨d.neg, f.fr d, wid f.g * c0e d f.g⟩ = d := by
 have h0 := N.e0
 unfold Fm.fr
 rw [e0b, show wid f.g * c0e d f.g + (((d.e - wid f.g * c0e d f.g).toNat : Nat) : Int) = d.e by omega]
 exact s0n hB
theorem k1d {f : Fm} (G : d0h f) {d : Dv} (N : NumF f d) : (f.numP d).neg = d.neg ∧ f.dec (f.numP d).neg (f.numP d).e (f.numP d).x = ⟨2, f.fr d, c0e d f.g⟩ := by
 have hE1 : (2 : Nat) ^ 7 ≤ 2 ^ f.E := Nat.pow_le_pow_right (by omega) G.e1
 have h1 := N.k1
 have h2 := N.k2
 have hw := G.w
 by_cases hf : f.fam = 2
 · have e : f.numP d = ⟨d.neg, (c0e d f.g - f.g.lo).toNat, f.fr d⟩ := by unfold Fm.numP; rw [if_pos hf]
   rw [e]
   refine ⟨rfl, ?_⟩
   unfold Fm.dec
   rw [if_pos hf]
   simp only [Dc.mk.injEq, true_and]
   omega
 · have hhi : f.g.hi + 2 ≤ f.g.lo + (2 ^ f.E : Nat) := by
    have h3 := G.hi1
    have h4 := G.hi3
    have h5 := G.fam
    omega
   have hhi1 : f.fam = 1 → f.g.hi + 3 = f.g.lo + (2 ^ f.E : Nat) := fun h => by have := G.hi1 h; omega
   by_cases hb : (blen (f.fr d) : Int) = f.g.digs
   · have hp := h0v (f.fr d) (by have := N.ne; omega)
     obtain ⟨X, hX, hk1, hk2⟩ : ∃ X, f.numP d = ⟨d.neg, (c0e d f.g - f.g.lo).toNat + 1, X⟩ ∧ (f.ext = false → X + 2 ^ f.F = f.fr d) ∧ (f.ext = true → X = f.fr d ∧ 2 ^ 63 ≤ X) := by
      refine ⟨_, by unfold Fm.numP; rw [if_neg hf, if_pos hb], fun he => ?_, fun he => ?_⟩
      · rw [he]
        simp only [Bool.false_eq_true, if_false]
        rcases t0k G hf with ⟨_, hd⟩ | ⟨h, _⟩
        · rw [show blen (f.fr d) - 1 = f.F by omega] at hp
          omega
        · rw [he] at h; cases h
      · rw [if_pos he]
        refine ⟨rfl, ?_⟩
        rcases t0k G hf with ⟨h, _⟩ | ⟨_, hd, h64⟩
        · rw [he] at h; cases h
        · rw [show blen (f.fr d) - 1 = 63 by omega] at hp
          exact hp
     rw [hX]
     refine ⟨rfl, ?_⟩
     unfold Fm.dec
     simp only
     rw [if_neg hf, if_neg (by rintro ⟨h, k⟩; have := hhi1 h; omega), if_neg (by omega), if_neg (by omega)]
     cases he : f.ext with
     | false =>
      rw [if_pos rfl, hk1 he]
      simp only [Dc.mk.injEq, true_and]
      omega
     | true =>
      rw [if_neg (by simp), if_neg (by have := (hk2 he).2; omega), (hk2 he).1]
      simp only [Dc.mk.injEq, true_and]
      omega
   · obtain ⟨l1, l2⟩ := N.low hf hb
     have e : f.numP d = ⟨d.neg, (c0e d f.g - f.g.lo).toNat, f.fr d⟩ := by unfold Fm.numP; rw [if_neg hf, if_neg hb]
     rw [e]
     refine ⟨rfl, ?_⟩
     unfold Fm.dec
     simp only
     rw [if_neg hf, if_neg (by rintro ⟨h, k⟩; omega), if_neg (by omega), if_pos (by omega), l1]
theorem p1j {f : Fm} (G : d0h f) {cls : Nat} {g : Bool} {d : Dv} (C : CanF f cls g d) :
 f.vr (f.encP cls g d).neg (f.dec (f.encP cls g d).neg (f.encP cls g d).e (f.encP cls g d).x) = ⟨cls, g, if cls = 2 then d else ⟨false, 0, 0⟩⟩ := by
 have hE1 : (2 : Nat) ^ 7 ≤ 2 ^ f.E := Nat.pow_le_pow_right (by omega) G.e1
 have hfam := G.fam
 obtain ⟨c1, c2⟩ := C.c
 have hx := G.ext
 rcases (show cls = 1 ∨ cls = 2 ∨ cls = 3 ∨ cls = 4 ∨ cls = 5 by omega) with rfl | rfl | rfl | rfl | rfl
 · have h := C.c1 rfl
   have hd : (f.dec g 0 0).c = 1 := by
    unfold Fm.dec
    by_cases h2 : f.fam = 2
    · rw [if_pos h2]; rfl
    · rw [if_neg h2, if_neg (by rintro ⟨_, k⟩; omega)]
      by_cases h3 : f.fam = 3
      · rw [if_pos ⟨h3, rfl⟩, if_neg (fun k => h k h3)]; rfl
      · rw [if_neg (fun k => h3 k.1), if_pos rfl]; rfl
   show f.vr g (f.dec g 0 0) = _
   unfold Fm.vr
   rw [hd]
   rfl
 · obtain ⟨N, hB, h0, hg⟩ := C.c2 rfl
   obtain ⟨k1, k2⟩ := k1d G N
   show f.vr (f.numP d).neg (f.dec (f.numP d).neg (f.numP d).e (f.numP d).x) = _
   rw [k2, k1]
   have hc : (⟨2, f.fr d, c0e d f.g⟩ : Dc).c = 2 := by unfold Dc.c; rw [if_neg (fun h => N.ne h.2)]
   unfold Fm.vr
   rw [hc]
   simp only [if_true]
   rw [if_pos (by omega), p1i N hB, hg]
 · have h := C.c3 rfl
   have hd : f.dec g (2 ^ f.E - 1) (if f.ext then 2 ^ 63 else 0) = ⟨3, 0, 0⟩ := by
    unfold Fm.dec
    rw [if_neg (by omega), if_pos ⟨h, rfl⟩, if_pos (by cases f.ext <;> simp)]
   show f.vr g (f.dec g (2 ^ f.E - 1) (if f.ext then 2 ^ 63 else 0)) = _
   rw [hd]
   rfl
 · obtain ⟨h, rfl⟩ := C.c4 rfl
   have hp : 0 < 2 ^ (f.F - 1) := Nat.pow_pos (by omega)
   have hd : f.dec false (2 ^ f.E - 1) (if f.ext then 2 ^ 63 + 2 ^ 62 else 2 ^ (f.F - 1)) = ⟨4, 0, 0⟩ := by
    unfold Fm.dec
    rw [if_neg (by omega), if_pos ⟨h, rfl⟩, if_neg (by cases f.ext <;> simp <;> omega)]
   show f.vr false (f.dec false (2 ^ f.E - 1) (if f.ext then 2 ^ 63 + 2 ^ 62 else 2 ^ (f.F - 1))) = _
   rw [hd]
   rfl
 · obtain ⟨h, rfl⟩ := C.c5 rfl
   have hd : f.dec true 0 0 = ⟨5, 0, 0⟩ := by
    unfold Fm.dec
    rw [if_neg (by omega), if_neg (by omega), if_pos ⟨h, rfl⟩, if_pos rfl]
   show f.vr true (f.dec true 0 0) = _
   rw [hd]
   rfl
theorem n1h {D : Dc} (h : D.c = 2) : D.m ≠ 0 := by
 intro h0
 unfold Dc.c at h
 split at h
 · omega
 · rename_i k
   exact k ⟨h, h0⟩
theorem u1g {f : Fm} (G : d0h f) (g : Bool) {e x : Nat} (he : e < 2 ^ f.E) (hx : x < 2 ^ f.F) (neg : Bool) :
 (dig B32 (f.vl g (f.dec neg e x)).d).length ≤ 1000 ∧ -20000 ≤ (f.vl g (f.dec neg e x)).pow ∧ (f.vl g (f.dec neg e x)).pow ≤ 20000 := by
 have k2 := j1y (f := f) neg (e := e) hx
 have k3 := p1f G neg (frac := x) he
 have z2 := G.f2
 generalize f.dec neg e x = D at *
 have hml : (dig B32 D.m).length ≤ 3 := l0w k2 (by omega)
 unfold Fm.vl
 simp only
 refine ⟨?_, ?_⟩
 · split
   · exact Nat.le_trans (a0j a0a (Nat.div_le_self _ _)) (by omega)
   · simp [a0c]
 · split
   · rename_i hc
     have h1 := f0u (m := D.m) (by have := n1h hc; omega)
     have h3 := (a0u _ _).2 k2
     have h2 := Nat.div_le_self (tz D.m) (wid f.g)
     obtain ⟨q, hq⟩ : ∃ q : Nat, tz D.m / wid f.g = q := ⟨_, rfl⟩
     rw [hq] at h2 ⊢
     omega
   · omega
theorem k1e (f : Fm) (g : Bool) (D : Dc) (h : (f.vl g D).cls ≠ 2) : (f.vl g D).d = 0 ∧ (f.vl g D).pow = 0 := by
 have hc : D.c ≠ 2 := h
 unfold Fm.vl
 simp only [if_neg hc, and_self]
def vz : Dv := ⟨false, 0, 0⟩
def Fm.nothM (f : Fm) : Vr := ⟨if f.fam = 1 then 4 else if f.fam = 2 then 1 else 5, false, vz⟩
def Fm.greatM (f : Fm) (neg : Bool) : Vr := ⟨2, neg, bare ⟨neg, 2 ^ (wid f.g * f.g.digs.toNat) - 1, wid f.g * f.g.hi⟩⟩
def Fm.zeroM (f : Fm) (neg : Bool) : Vr := ⟨1, neg && decide (f.fam = 1), vz⟩
def infM (neg : Bool) : Vr := ⟨3, neg, vz⟩
def Fm.flP (f : Fm) (p : Pl) : Nat := if p.under then (if f.fam = 1 then (if p.exact then 0 else 3) else 3) else if p.exact then 0 else 1
def Fm.placedM (f : Fm) (p : Pl) (way : Int) : Vr × Nat :=
 if p.over then (if f.fam = 2 then f.greatM p.neg else if f.fam = 3 then f.nothM else if way ≤ 2 ∨ (way = 4 ∧ p.neg = false) ∨ (way = 5 ∧ p.neg = true) then infM p.neg else f.greatM p.neg, 5)
 else if p.under = true ∧ f.fam ≠ 1 ∧ p.pow < f.g.lo then (f.zeroM false, 3)
 else if p.d = 0 then (f.zeroM p.neg, f.flP p)
 else (⟨2, p.neg, bare ⟨p.neg, p.d, wid f.g * p.pow⟩⟩, f.flP p)
def e0m (n : Int) : List Nat := if n < 0 then 45 :: a0t (-n).toNat else a0t n.toNat
def numT (neg : Bool) (s : List Nat) (p : Int) : List Nat := (if neg then [45] else []) ++ (s.take 1 ++ ((if 1 < s.length then 46 :: s.drop 1 else []) ++ 101 :: e0m p))
theorem t0l {x : Nat} (h : 48 ≤ x ∧ x ≤ 57) : isDg x = true := by unfold isDg; simp [h]
theorem d0d {x : Nat} : isDg x = true ↔ 48 ≤ x ∧ x ≤ 57 := by unfold isDg; simp
theorem a1v : ∀ {l : List Nat}, (∀ x ∈ l, isDg x = true) → l.takeWhile isDg = l ∧ l.dropWhile isDg = []
 | [], _ => ⟨rfl, rfl⟩
 | x :: l, h => by
  have h1 := h x List.mem_cons_self
  have h2 := a1v (l := l) fun y hy => h y (List.mem_cons_of_mem x hy)
  rw [List.takeWhile_cons, List.dropWhile_cons, h1, if_pos rfl, if_pos rfl, h2.1, h2.2]
  exact ⟨rfl, rfl⟩
theorem p0d {b : Nat} (hb : isDg b = false) (r : List Nat) : ∀ {l : List Nat}, (∀ x ∈ l, isDg x = true) → (l ++ b :: r).takeWhile isDg = l ∧ (l ++ b :: r).dropWhile isDg = b :: r
 | [], _ => by rw [List.nil_append, List.takeWhile_cons, List.dropWhile_cons, hb]; exact ⟨rfl, rfl⟩
 | x :: l, h => by
  have h1 := h x List.mem_cons_self
  have h2 := p0d hb r (l := l) fun y hy => h y (List.mem_cons_of_mem x hy)
  rw [List.cons_append, List.takeWhile_cons, List.dropWhile_cons, h1, if_pos rfl, if_pos rfl, h2.1, h2.2]
  exact ⟨rfl, rfl⟩
theorem t0m {b : Nat} (r : List Nat) (h : b ≠ 45) : n0t (b :: r) = (false, b :: r) := by
 unfold n0t
 split
 · rename_i heq
   injection heq with h1 _
   exact absurd h1 h
 · rfl
theorem c1m (n : Nat) : ∃ c r, a0t n = c :: r ∧ 48 ≤ c ∧ c ≤ 57 := by
 have h := c0v n
 have hd := h0h n
 cases hc : a0t n with
 | nil => rw [hc] at h; simp at h
 | cons c r => exact ⟨c, r, rfl, hd c (by rw [hc]; exact List.mem_cons_self)⟩
theorem c1n (p : Int) : n0t (e0m p) = (decide (p < 0), a0t p.natAbs) := by
 unfold e0m
 by_cases h : p < 0
 · rw [if_pos h, decide_eq_true h, show p.natAbs = (-p).toNat by omega]; rfl
 · rw [if_neg h, decide_eq_false h, show p.natAbs = p.toNat by omega]
   obtain ⟨c, r, e, h1, h2⟩ := c1m p.toNat
   rw [e]; exact t0m r (by omega)
theorem v0r {p : Int} (h : -100000 < p ∧ p < 100000) : powT (101 :: e0m p) = some (p, []) := by
 have hd : ∀ x ∈ a0t p.natAbs, isDg x = true := fun x hx => t0l (h0h _ x hx)
 have hl : (a0t p.natAbs).length ≤ 5 := (b0e _ 5 (by omega)).2 (by omega)
 have hl0 := c0v p.natAbs
 unfold powT
 simp only [c1n, (a1v hd).1, (a1v hd).2, v0j]
 rw [if_neg (fun h => h.elim (fun e => by rw [e] at hl0; simp at hl0) (fun e => by omega))]
 by_cases h0 : p < 0
 · rw [decide_eq_true h0, if_pos rfl]; congr 2; omega
 · rw [decide_eq_false h0, if_neg (by simp)]; congr 2; omega
theorem r0n {b : Nat} (r : List Nat) (h : b ≠ 46) : q0j (b :: r) = some ([], b :: r) := by
 unfold q0j
 split
 · rename_i heq
   injection heq with h1 _
   exact absurd h1 h
 · rfl
theorem c1o (r : List Nat) : q0j (46 :: r) = if r.takeWhile isDg = [] then none else some (r.takeWhile isDg, r.dropWhile isDg) := rfl
theorem g1b {neg : Bool} {s : List Nat} {p : Int} {k : Nat} (hl : s.length = k) (hk : 1 ≤ k) (hs : ∀ x ∈ s, 48 ≤ x ∧ x ≤ 57) (hp : -100000 < p ∧ p < 100000) : numl (numT neg s p) = some ⟨neg, s, p - ((k - 1 : Nat) : Int)⟩ := by
 subst hl
 match s, hk, hs with
 | c :: r, _, hs =>
  have hc := hs c List.mem_cons_self
  have hr : ∀ x ∈ r, isDg x = true := fun x hx => t0l (hs x (List.mem_cons_of_mem c hx))
  have e1 : ∀ q, n0t ((if neg then [45] else []) ++ (c :: q)) = (neg, c :: q) := fun q => by
   cases neg
   · exact t0m q (by omega)
   · rfl
  have h46 : isDg 46 = false := by decide
  have h101 : isDg 101 = false := by decide
  unfold numl numT
  rw [List.take_succ_cons, List.take_zero, List.singleton_append, e1]
  simp only
  have one : ∀ x ∈ [c], isDg x = true := fun x hx => by rw [List.mem_singleton.1 hx]; exact t0l hc
  cases r with
  | nil =>
   rw [if_neg (by simp), List.nil_append]
   have e2 := p0d h101 (e0m p) one
   rw [List.singleton_append] at e2
   rw [e2.1, e2.2, r0n _ (by decide)]
   simp [v0r hp]
  | cons c2 r =>
   rw [if_pos (by simp), List.drop_succ_cons, List.drop_zero, List.cons_append]
   have e2 := p0d h46 ((c2 :: r) ++ 101 :: e0m p) one
   rw [List.singleton_append] at e2
   rw [e2.1, e2.2]
   have e3 := p0d h101 (e0m p) hr
   have e4 : q0j (46 :: (c2 :: r ++ 101 :: e0m p)) = some (c2 :: r, 101 :: e0m p) := by
    rw [c1o, e3.1, e3.2, if_neg (by simp)]
   rw [e4]
   simp [v0r hp]
theorem v0s {q : Numl} (h0 : a0l q.ds ≠ 0) {g : Bool} {num den : Nat} {e : Int} (h : f0o q = (g, num, den, e)) :
 g = q.neg ∧ 0 < num ∧ 0 < den ∧ ∀ {a b t : Nat}, (a : Int) - b = q.pow → 0 ≤ e + t → num * 2 ^ (e + t).toNat * 10 ^ b = a0l q.ds * den * 10 ^ a * 2 ^ t := by
 obtain ⟨neg, ds, pw⟩ := q
 simp only at h0 ⊢
 unfold f0o at h
 simp only at h
 rw [if_neg h0] at h
 obtain ⟨t1, t2⟩ := b0t (a0l ds) (by omega)
 generalize a0l ds = S at *
 generalize tz S = z at *
 generalize S / 2 ^ z = o at *
 subst t1
 have ho : 0 < o := by omega
 have t10 : ∀ n : Nat, 10 ^ n = 2 ^ n * 5 ^ n := fun n => by rw [← Nat.mul_pow]
 by_cases hp : 0 ≤ pw
 · rw [if_pos hp] at h
   injection h with h1 h2
   injection h2 with h2 h3
   injection h3 with h3 h4
   subst h1 h2 h3 h4
   refine ⟨rfl, Nat.mul_pos ho (Nat.pow_pos (by omega)), by omega, fun {a b t} hab ht => ?_⟩
   obtain ⟨P, rfl⟩ : ∃ P : Nat, pw = P := ⟨pw.toNat, by omega⟩
   have ea : a = P + b := by omega
   rw [ea, show ((z : Int) + P + t).toNat = z + P + t by omega, Int.toNat_natCast, Nat.pow_add 10, t10 P, Nat.pow_add, Nat.pow_add]
   grind
 · rw [if_neg hp] at h
   obtain ⟨P, hP⟩ : ∃ P : Nat, pw = -(P : Int) := ⟨(-pw).toNat, by omega⟩
   subst hP
   rw [show (- -(P : Int)).toNat = P by omega] at h
   have c1 := r0i P o
   have c2 := (j0o P o).2
   have c3 := o0y P o ho
   generalize b0k o P = cf at *
   obtain ⟨n, f⟩ := cf
   simp only at h c1 c2 c3
   injection h with h1 h2
   injection h2 with h2 h3
   injection h3 with h3 h4
   subst h1 h2 h3 h4
   refine ⟨rfl, c3, Nat.pow_pos (by omega), fun {a b t} hab ht => ?_⟩
   have eb : b = a + P := by omega
   rw [eb, ← c1, Nat.pow_add 10, t10 P, show (5 : Nat) ^ P = 5 ^ f * 5 ^ (P - f) by rw [← Nat.pow_add]; congr 1; omega]
   have e2 : 2 ^ ((z : Int) + -(P : Int) + t).toNat * 2 ^ P = 2 ^ z * 2 ^ t := by rw [← Nat.pow_add, ← Nat.pow_add]; congr 1; omega
   calc _ = n * (2 ^ ((z : Int) + -(P : Int) + t).toNat * 2 ^ P) * 10 ^ a * (5 ^ f * 5 ^ (P - f)) := by grind
    _ = _ := by rw [e2]; grind
def numX (x : Dv) (k : Nat) : List Nat × Int := decM (numP x.m x.e) (denP 1 x.e) k
def ratX (x : Dv) (k : Nat) : Bool × Nat × Nat × Int := f0o ⟨x.neg, (numX x k).1, (numX x k).2 - ((k - 1 : Nat) : Int)⟩
def b0v (f : Fm) (x : Dv) (k : Nat) : Vr := (f.placedM (a0m (ratX x k).1 (ratX x k).2.1 (ratX x k).2.2.1 (ratX x k).2.2.2 f.g 1) 1).1
def okX (f : Fm) (x : Dv) (k : Nat) : Bool := decide ((b0v f x k).cls = 2 ∧ (b0v f x k).x.neg = x.neg ∧ (b0v f x k).x.m = x.m ∧ (b0v f x k).x.e = x.e)
theorem j0r {m : Nat} (h : 0 < m) (e : Int) : 0 < numP m e := Nat.mul_pos h (Nat.pow_pos (by omega))
theorem k1f {f : Fm} {x : Dv} (G : e0j f.g) (hb : Bare x) (hin : a0p x f.g = true) (h0 : x.m ≠ 0) {k : Nat} (hk : 2 ^ (wid f.g * f.g.digs.toNat) < 10 ^ (k - 1)) : b0v f x k = ⟨2, x.neg, x⟩ := by
 have hd1 := G.d1
 have wp := b0f f.g
 have hk1 : 1 ≤ k := by
  rcases Nat.eq_zero_or_pos k with h | h
  · subst h
    have : 0 < 2 ^ (wid f.g * f.g.digs.toNat) := Nat.pow_pos (by omega)
    rw [show 0 - 1 = 0 from rfl, Nat.pow_zero] at hk
    omega
  · exact h
 obtain ⟨n, z, r1, r2, r3, r4, r5, r6, r7⟩ := j1r hb G hin h0 (D := f.g.digs.toNat) (by omega) rfl
 generalize c0e x f.g = j at *
 obtain ⟨s, p, hsp⟩ : ∃ s p, numX x k = (s, p) := ⟨_, _, rfl⟩
 have hn0 : 0 < numP x.m x.e := j0r (by omega) x.e
 have hd0 : 0 < denP 1 x.e := d0m (by omega) x.e
 have hS := (p0c hn0 hd0 hk1 hsp).2.2.1
 have hS0 : a0l s ≠ 0 := by have := c0q (k - 1); omega
 unfold b0v ratX
 rw [hsp]
 obtain ⟨g, num, den, e, hr⟩ : ∃ g num den e, f0o ⟨x.neg, s, p - ((k - 1 : Nat) : Int)⟩ = (g, num, den, e) := ⟨_, _, _, _, rfl⟩
 obtain ⟨q1, q2, q3, q4⟩ := v0s hS0 hr
 simp only at q1 q4
 rw [hr]
 simp only
 obtain ⟨t, t1, t2, t3⟩ : ∃ t : Nat, 0 ≤ e + t ∧ 0 ≤ wid f.g * j + t ∧ 0 ≤ wid f.g * (j - 1) + t := ⟨(-e).toNat + (-(wid f.g * j)).toNat + (-(wid f.g * (j - 1))).toNat, by omega, by omega, by omega⟩
 obtain ⟨a, b, hab⟩ : ∃ a b : Nat, (a : Int) - b = p - ((k - 1 : Nat) : Int) := ⟨(p - ((k - 1 : Nat) : Int)).toNat, (-(p - ((k - 1 : Nat) : Int))).toNat, by omega⟩
 have q5 := q4 hab t1
 obtain ⟨n1, n2⟩ := f1i hn0 hd0 hk1 hsp hk (a := a) (b := b) (by omega)
 -- the number itself, over the same power of 2
 have hv : z * 2 ^ (wid f.g * j + t).toNat * denP 1 x.e = numP x.m x.e * 2 ^ t := by
  unfold numP denP
  rw [← r2, Nat.one_mul]
  have : 2 ^ n * 2 ^ (wid f.g * j + t : Int).toNat * 2 ^ (-x.e).toNat = 2 ^ x.e.toNat * 2 ^ t := by
   rw [← Nat.pow_add, ← Nat.pow_add, ← Nat.pow_add]; congr 1; omega
  calc _ = x.m * (2 ^ n * 2 ^ (wid f.g * j + t : Int).toNat * 2 ^ (-x.e).toNat) := by grind
   _ = _ := by rw [this]; grind
 obtain ⟨W, hW⟩ : ∃ W, W = 2 ^ (wid f.g * j + t : Int).toNat := ⟨_, rfl⟩
 obtain ⟨E, hE⟩ : ∃ E, E = num * 2 ^ (e + t).toNat := ⟨_, rfl⟩
 have hdt : 0 < den * 2 ^ t := Nat.mul_pos q3 (Nat.pow_pos (by omega))
 have hbd : 0 < 10 ^ b * denP 1 x.e := Nat.mul_pos (c0q b) hd0
 have R := c1j (neg := g) (num := num) (den := den) (e := e) q3 G r3 r4 r5 r6 r7 t1 t2 t3 (by
     rw [← hE]
     rw [← hE] at q5
     generalize 2 ^ (wid f.g * f.g.digs.toNat) = M at *
     rw [← hW] at hv ⊢
     refine Nat.lt_of_mul_lt_mul_right (a := 10 ^ b * denP 1 x.e) ?_
     have := Nat.mul_lt_mul_of_pos_right n1 hdt
     calc _ = 2 * M * (E * 10 ^ b) * denP 1 x.e := by grind
       _ = 2 * M * (a0l s * denP 1 x.e * 10 ^ a) * (den * 2 ^ t) := by rw [q5]; grind
       _ < _ := this
       _ = (2 * M + 1) * (numP x.m x.e * 2 ^ t) * den * 10 ^ b := by grind
       _ = _ := by rw [← hv]; grind) (by
     rw [← hE]
     rw [← hE] at q5
     generalize 2 ^ (wid f.g * f.g.digs.toNat) = M at *
     rw [← hW] at hv ⊢
     refine Nat.lt_of_mul_lt_mul_right (a := 10 ^ b * denP 1 x.e) ?_
     have := Nat.mul_lt_mul_of_pos_right n2 hdt
     calc _ = 2 * M * (z * W * denP 1 x.e) * den * 10 ^ b := by grind
       _ = 2 * M * (numP x.m x.e * 10 ^ b) * (den * 2 ^ t) := by rw [hv]; grind
       _ < _ := this
       _ = 2 * M * (a0l s * den * 10 ^ a * 2 ^ t) * denP 1 x.e + numP x.m x.e * 2 ^ t * den * 10 ^ b := by grind
       _ = _ := by rw [← hv, ← q5]; grind)
 obtain ⟨R1, R2, R3, R4⟩ := R
 unfold Fm.placedM
 rw [R4, if_neg (by simp), if_neg (fun h => by have := h.2.2; omega), if_neg (by omega), R1, R2, R3, q1]
 have hx : bare ⟨x.neg, z, wid f.g * j⟩ = x := by
  rw [← r2, show (wid f.g : Int) * j = x.e - n by omega]
  rw [e0b, show x.e - (n : Int) + n = x.e by omega]
  exact s0n hb
 rw [hx]
end Go.Slip
namespace Go.Slip
open Go.RowKit
/-! ### Slices of structs -/
def OwnS (w : World) (base : Nat) (e : TypeId) (s : Nat) (p : OA) (c n : Nat) (vs : List Value) : Prop := w.ownsRow base e s (.slice p n c) n vs
theorem OwnS.nil (w : World) (base : Nat) (e : TypeId) (s : Nat) : OwnS w base e s none 0 0 [] := World.ownsRow_nil w base e s
section
variable {w w' : World} {base : Nat} {e : TypeId} {s : Nat} {p : OA} {c n : Nat} {vs : List Value}
theorem OwnS.form (h : OwnS w base e s p c n vs) : (p = none ∧ c = 0 ∧ n = 0 ∧ vs = []) ∨ ∃ g, p = some ⟨g, 0, none⟩ ∧ base ≤ g ∧ g < w.heap.size ∧ n ≤ c ∧ c ≤ maxLen := by
 rcases h.2 with ⟨h1, h2⟩ | ⟨g, cap, cur, hv, hb, hg, hn, hc, _, _⟩
 · left
   simp only [Value.slice.injEq] at h1
   refine ⟨h1.1, h1.2.2, h2, List.eq_nil_of_length_eq_zero ?_⟩
   rw [h.1, h2, Nat.zero_mul]
 · right
   simp only [Value.slice.injEq] at hv
   obtain ⟨rfl, _, rfl⟩ := hv
   exact ⟨g, rfl, hb, (Array.getElem?_eq_some_iff.1 hg).1, hn, hc⟩
theorem OwnS.blk_lt (h : OwnS w base e s p c n vs) (hp : p.isSome = true) : base ≤ blk p ∧ blk p < w.heap.size := by
 rcases h.form with ⟨rfl, _, _, rfl⟩ | ⟨g, rfl, h1, h2, _⟩
 · simp at hp
 · exact ⟨h1, h2⟩
theorem OwnS.mono {b' : Nat} (h : OwnS w base e s p c n vs) (hb : b' ≤ base) : OwnS w b' e s p c n vs := by
 refine ⟨h.1, ?_⟩
 rcases h.2 with h1 | ⟨g, cap, cur, hv, hbg, r⟩
 · exact .inl h1
 · exact .inr ⟨g, cap, cur, hv, by omega, r⟩
theorem OwnS.same (h : OwnS w base e s p c n vs) (hb : p.isSome = true → w'.heap[blk p]? = w.heap[blk p]?) : OwnS w' base e s p c n vs := by
 refine ⟨h.1, ?_⟩
 rcases h.2 with h1 | ⟨g, cap, cur, hv, hbg, hg, r⟩
 · exact .inl h1
 · simp only [Value.slice.injEq] at hv
   obtain ⟨rfl, h2, rfl⟩ := hv
   exact .inr ⟨g, c, cur, rfl, hbg, by rw [← hg]; exact hb rfl, r⟩
theorem OwnS.cell (h : OwnS w base e s p c n vs) {j : Nat} {u : Value} (hu : vs[j]? = some u) : w.cell? (at_ p j) = some u := by
 rcases h.form with ⟨_, _, _, rfl⟩ | ⟨g, rfl, _⟩
 · simp at hu
 · have := World.ownsRow.cells h (g := g) rfl j u hu
   rw [← this]
   unfold at_ Addr.add
   split <;> simp_all
theorem OwnS.solid (h : OwnS w base e s p c n vs) : m0p p n := by
 rcases h.form with ⟨_, _, rfl, _⟩ | ⟨g, rfl, _⟩
 · exact fun h => by simp at h
 · exact fun _ => ⟨rfl, rfl⟩
theorem OwnS.far (h : OwnS w base e s p c n vs) {b : Nat} {t : TypeId} {us : Array Value} (hX : Bt w b t us) (hne : Nat.beq t e = false) (hp : p.isSome = true) : blk p ≠ b := by
 rcases h.2 with ⟨h1, h2⟩ | ⟨g, cap, cur, hv, hb, hg, _⟩
 · simp only [Value.slice.injEq] at h1
   rw [h1.1] at hp; cases hp
 · simp only [Value.slice.injEq] at hv
   intro hE
   rw [hv.1] at hE
   have hE2 : g = b := hE
   subst hE2
   have hE3 := hg.symm.trans hX
   simp only [Option.some.injEq, Obj.cells.injEq] at hE3
   rw [hE3.2.1] at hne
   simp at hne
theorem OwnS.apart (h : OwnS w base e s p c n vs) {b2 : Nat} {k : IntKind} {e2 : TypeId} {q : OA} {c2 : Nat} {xs : List Nat} (o : Own w b2 k e2 q c2 xs) (hne : Nat.beq e2 e = false) (hp : p.isSome = true) : ¬ (q.isSome = true ∧ blk q = blk p) := by
 rintro ⟨hq, he⟩
 rcases h.2 with ⟨h1, h2⟩ | ⟨g, cap, cur, hv, hb, hg, _⟩
 · simp only [Value.slice.injEq] at h1
   rw [h1.1] at hp; cases hp
 · rcases o.2 with ⟨h1, h2⟩ | ⟨g', cap', cur', hv', hb', hg', _⟩
   · simp only [Value.slice.injEq] at h1
     rw [h1.1] at hq; cases hq
   · simp only [Value.slice.injEq] at hv hv'
     rw [hv.1, hv'.1] at he
     have hE : g' = g := he
     subst hE
     have := hg.symm.trans hg'
     simp only [Option.some.injEq, Obj.cells.injEq] at this
     rw [this.2.1] at hne
     simp at hne
end
def s1g (b : Nat) (e : TypeId) (s : Nat) (p : OA) (c n : Nat) (vs : List Value) : PF :=
 ⟨fun w => OwnS w b e s p c n vs, fun a => p.isSome = true ∧ blk p = a, fun _ _ h hb _ => h.same fun hp => hb _ (h.blk_lt hp).2 ⟨hp, rfl⟩, fun _ _ h hf => hf.2 ▸ (h.blk_lt hf.1).2⟩
section
variable {P : Program} {w : World}
end
section
variable {P : Program} {ops : Array Oper} {rest : List Oper} {o : Oper} {a : Act} {Q : Exit → Act → World → Prop} {w : World} {K : Act → World → Prop}
end
/-! ### A block that was handed in -/
theorem Bt.far {w : World} {b b' : Nat} {t t' : TypeId} {vs us : Array Value} (h : Bt w b t vs) (hX : Bt w b' t' us) (hne : Nat.beq t t' = false) : ¬ (b = b') := by
 intro e
 subst e
 have := h.symm.trans hX
 simp only [Option.some.injEq, Obj.cells.injEq] at this
 rw [this.2.1] at hne
 simp at hne
/-! ### Steps -/
def t0n : List Box → Bool
 | [] => true
 | b :: l => match b.ro with | true => false | false => t0n l
theorem l0x : ∀ {l : List Box}, t0n l = true → ∀ k, k < l.length → (lk bx0 l k).ro = false
 | [], _, _, h => by simp at h
 | b :: l, h, k, hk => by
  unfold t0n at h
  split at h
  · cases h
  · rename_i hb
    cases k with
    | zero => exact hb
    | succ k => exact l0x h k (by simpa using hk)
section
variable {P : Program} {Q : Exit → Act → World → Prop} {E : List Nat} {w0 : World} {A : List Nat} {fs : List PF} {W V : World} {c : Cfg}
theorem Inv.grown {W' : World} {bx : List Box} {b : Nat} {e : TypeId} {s : Nat} {p p' : OA} {cc c' n n' : Nat} {vs vs' : List Value} (I : Inv E w0 A bx (s1g b e s p cc n vs :: fs) W) (hb : w0.heap.size ≤ b) (hrw : t0n bx = true)
 (hO : OwnS W' b e s p' c' n' vs') (hg : W.grownBy W' (p.map (·.block))) (hat : p'.isSome = true → (p.isSome = true ∧ blk p' = blk p) ∨ blk p' = W.heap.size) (hfar : p.isSome = true → PF.far (blk p) fs) :
 Inv E w0 A bx (s1g b e s p' c' n' vs' :: fs) W' := by
 have hrow := I.fa.1
 have hne : ∀ k, p.map (·.block) = some k → p.isSome = true ∧ blk p = k := fun k h => by
  cases p with
  | none => cases h
  | some a => exact ⟨rfl, Option.some.inj h⟩
 have keep : ∀ k, k < W.heap.size → (p.isSome = true → blk p ≠ k) → W'.heap[k]? = W.heap[k]? := fun k hk h => hg.block k hk fun e => by
  obtain ⟨h1, h2⟩ := hne k e.symm
  exact h h1 h2
 refine ⟨⟨hg.os.trans I.bel.os, hg.tape.trans I.bel.tape, hg.output.trans I.bel.output, Nat.le_trans I.bel.size hg.size, fun k hk hkE => ?_⟩, I.ge, I.nd, I.len, I.pre, fun k hk => ?_, ⟨hO, ?_⟩, fun a ha => ⟨fun hf => ?_, (I.far a ha).2⟩⟩
 · rw [keep k (Nat.lt_of_lt_of_le hk I.bel.size) fun hp => by have := (hrow.blk_lt hp).1; omega]
   exact I.bel.block k hk hkE
 · have hF : Fa A bx (lk 0 A k) := ⟨k, hk, l0x hrw k hk, rfl⟩
   have h1 := I.bt k hk
   unfold Bt at h1 ⊢
   rw [keep _ (I.lt _ hF) fun hp e => (I.far _ hF).1 ⟨hp, e⟩]
   exact h1
 · refine PF.all_keep hg.size I.fa.2 fun k hk ha => keep k hk fun hp => ha _ (hfar hp)
 · rcases hat hf.1 with ⟨hp, h⟩ | h
   · exact (I.far a ha).1 ⟨hp, h.symm.trans hf.2⟩
   · have := I.lt a ha
     have := hf.2
     omega
theorem Inv.newb {bx : List Box} (I : Inv E w0 A bx fs V) (hb : Below V.heap.size V W) {b : Nat} {t : TypeId} {cs : List SV} (hge : V.heap.size ≤ b) (hB : Bt W b t (cs.map (SV.r A)).toArray) (h1 : wfL bx.length cs = true) (h2 : wfB bx.length bx = true) :
 Inv E w0 (A ++ [b]) (bx ++ [⟨t, cs, false⟩]) fs W := by
 have I' := I.past hb
 have hl : ∀ k, k < bx.length → lk 0 (A ++ [b]) k = lk 0 A k ∧ lk bx0 (bx ++ [⟨t, cs, false⟩]) k = lk bx0 bx k := fun k h => ⟨d0s 0 (by rw [I.len]; exact h), d0s bx0 h⟩
 have hn : lk 0 (A ++ [b]) bx.length = b ∧ lk bx0 (bx ++ [⟨t, cs, false⟩]) bx.length = ⟨t, cs, false⟩ := ⟨by rw [← I.len, e0d], e0d _⟩
 have hF : ∀ a, Fa (A ++ [b]) (bx ++ [⟨t, cs, false⟩]) a → Fa A bx a ∨ a = b := fun a ⟨k, hk, hr, e⟩ => by
  rw [List.length_append, List.length_singleton] at hk
  by_cases h : k < bx.length
  · rw [(hl k h).2] at hr
    rw [(hl k h).1] at e
    exact .inl ⟨k, h, hr, e⟩
  · obtain rfl : k = bx.length := by omega
    exact .inr (e.trans hn.1)
 refine ⟨I'.bel, fun a ha => ?_, fun i j hi hj hr hne => ?_, by simp [I.len], I.pre.trans (List.prefix_append _ _), fun k hk => ?_, I'.fa, fun a ha => ?_⟩
 · rcases hF a ha with h | rfl
   · exact I.ge a h
   · exact .inl (Nat.le_trans I.bel.size hge)
 · rw [List.length_append, List.length_singleton] at hi hj
   by_cases h : i < bx.length
   · rw [(hl i h).2] at hr
     by_cases h' : j < bx.length
     · rw [(hl i h).1, (hl j h').1]
       exact I.nd i j h h' hr hne
     · obtain rfl : j = bx.length := by omega
       rw [(hl i h).1, hn.1]
       have := (I.bt i h).lt
       omega
   · obtain rfl : i = bx.length := by omega
     have h' : j < bx.length := by omega
     rw [(hl j h').1, hn.1]
     have := (I.bt j h').lt
     omega
 · rw [List.length_append, List.length_singleton] at hk
   by_cases h : k < bx.length
   · rw [(hl k h).1, (hl k h).2]
     have := I'.bt k h
     unfold Box.row at this ⊢
     rw [q0i _ I.len (o0p h2 k)]
     exact this
   · obtain rfl : k = bx.length := by omega
     rw [hn.1, hn.2]
     unfold Box.row
     simp only
     rw [q0i _ I.len h1]
     exact hB
 · rcases hF a ha with h | rfl
   · exact I'.far a h
   · have : ∀ {l : List PF}, PF.all V l → PF.far a l := fun {l} hl => by
      induction l with
      | nil => exact True.intro
      | cons f l ih => exact ⟨fun hf => by have := f.lt V _ hl.1 hf; omega, ih hl.2⟩
     exact this I.fa
theorem s1h {A' : List Nat} {c' : Cfg} (hA : A <+: A') (he : act A c.fr = act A' c'.fr) (h1 : c'.rg = c.rg) (h2 : c'.ks = c.ks) (h : G P Q A' c' W) : G P Q A c W := by
 refine ⟨?_⟩
 have h := h.out
 unfold m1w at *
 obtain ⟨fr, bx, rg, ks⟩ := c
 obtain ⟨fr', bx', rg', ks'⟩ := c'
 simp only at *
 subst h1 h2
 rw [he]
 cases rg' with
 | off => exact h
 | pl => exact h
 | dr ops A0 m fuel listed => exact fun pre => h (pre.on hA)
 | one ops A0 m fuel listed i => exact fun pre => h (pre.on hA)
 | ret => exact h
theorem s1i {bxv : List Box} (I : Inv E w0 A bxv fs V) (hb : Below V.heap.size V W) (k b : Nat) (t : TypeId) (cs : List Value) (hge : V.heap.size ≤ b) (hB : Bt W b t cs.toArray)
 (h : ∀ A', lk 0 A' k = b → Inv E w0 A' (c.bx ++ [⟨t, cs.map .v, false⟩]) fs W → G P Q A' ⟨c.fr, c.bx ++ [⟨t, cs.map .v, false⟩], c.rg, c.ks⟩ W)
 (hbv : bxv = c.bx := by kernel_rfl) (hk : c.bx.length = k := by kernel_rfl) (h1 : wfL c.bx.length (cs.map SV.v) = true := by kernel_rfl) (h2 : wfB c.bx.length c.bx = true := by kernel_rfl) (h3 : wfL c.bx.length c.fr = true := by kernel_rfl) : G P Q A c W := by
 subst hbv
 have hcs : ∀ A, (cs.map SV.v).map (SV.r A) = cs := fun A => by
  rw [List.map_map]
  exact List.map_id _
 have I2 := I.newb hb (cs := cs.map SV.v) hge (by rw [hcs]; exact hB) h1 h2
 refine s1h (A' := A ++ [b]) (c' := ⟨c.fr, c.bx ++ [⟨t, cs.map .v, false⟩], c.rg, c.ks⟩) (List.prefix_append _ _) ?_ rfl rfl (h _ ?_ I2)
 · unfold act
   simp only
   rw [q0i _ I.len h3]
 · rw [← hk, ← I.len, e0d]
theorem s1j (I : Inv E w0 A c.bx fs W) (d k b : Nat) (hk : lk 0 A k = b) (h : ∀ A W, Inv E w0 A (putc (zr P (some d) c) (.p k 0)).bx fs W → G P Q A (putc (zr P (some d) c) (.p k 0)) W)
 (hkl : Nat.ble (k + 1) c.bx.length = true := by kernel_rfl)
 (hv : x0v P (zr P (some d) c) = some (.val (.v (.pointer (some ⟨b, 0, none⟩)))) := by kernel_rfl)
 (hc : ∀ A w, (g0d P (zr P (some d) c) A w).map (·.1) = (g0d P (zr P (some d) c) A w).map (·.2) := by intro _ _; kernel_rfl)
 (hr : ∀ A w, (zms P (some d) 5000 c A w).map (·.1) = (zms P (some d) 5000 c A w).map (·.2) := by intro _ _; kernel_rfl)
 (hm : ok1 (zr P (some d) c).rg (zr P (some d) c).bx = ok2 (zr P (some d) c).rg := by kernel_rfl) : G P Q A c W := by
 refine m0u 5000 I (fun A w => g0j (hr A w)) fun A' W' hA I' => ?_
 rw [← r1q] at I' ⊢
 refine r1t I' _ (.p k 0) ?_ (h A' W') hv (fun A w => g0j (hc A w)) hm
 show Value.pointer (some ⟨b, 0, none⟩) = .pointer (some ⟨lk 0 A' k, 0, none⟩)
 rw [a1d hA (by rw [I.len]; exact i0q hkl), hk]
theorem k0s {α : Type} (d : α) {l : List α} {n k : Nat} (h : k < n) : lk d (l.take n) k = lk d l k := by
 rw [f0a, f0a, List.getElem?_take, if_pos h]
theorem Inv.dropB {bx : List Box} (I : Inv E w0 A bx fs W) (n : Nat) (hE : E.length ≤ n) (hw : wfB n (bx.take n) = true) (hn : n ≤ bx.length) : Inv E w0 (A.take n) (bx.take n) fs W := by
 have hl : (bx.take n).length = n := by rw [List.length_take]; omega
 have hla : (A.take n).length = n := by rw [List.length_take, I.len]; omega
 have hF : ∀ a, Fa (A.take n) (bx.take n) a → Fa A bx a := fun a ⟨k, hk, hr, e⟩ => by
  rw [hl] at hk
  rw [k0s _ hk] at hr e
  exact ⟨k, by omega, hr, e⟩
 refine ⟨I.bel, fun a ha => I.ge a (hF a ha), fun i j hi hj hr hne => ?_, by rw [hl, hla], ?_, fun k hk => ?_, I.fa, fun a ha => I.far a (hF a ha)⟩
 · rw [hl] at hi hj
   rw [k0s _ hi] at hr
   rw [k0s _ hi, k0s _ hj]
   exact I.nd i j (by omega) (by omega) hr hne
 · exact List.prefix_take_iff.2 ⟨I.pre, hE⟩
 · rw [hl] at hk
   have h1 := I.bt k (by omega)
   rw [k0s _ hk, k0s _ hk]
   unfold Box.row at h1 ⊢
   have hw2 := o0p hw k
   rw [k0s _ hk] at hw2
   have h2 := q0i (A := A.take n) (A.drop n) hla hw2
   rw [List.take_append_drop] at h2
   rw [← h2]
   exact h1
theorem g1c (n : Nat) (I : Inv E w0 A c.bx fs W) (J : Act → World → Prop) {fr : (Nat → Value) → List SV} {bx : (Nat → Value) → List Box} (h : ∀ A W U, Inv E w0 A (bx U) fs W → J (act A (fr U)) W)
 (hr : ∀ A w, (zms P none 5000 c A w).map (·.1) = (zms P none 5000 c A w).map (·.2) := by intro _ _; kernel_rfl)
 (hf : ∀ A, (zr P none c).fr.map (SV.r A) = (fr (uOf (zr P none c) A)).map (SV.r A) := by intro _; kernel_rfl)
 (hb : ∀ A, (zr P none c).bx.take n = bx (uOf (zr P none c) A) := by intro _; kernel_rfl)
 (hw : ∀ U, wfL n (fr U) = true := by intro _; kernel_rfl) (hw2 : wfB n ((zr P none c).bx.take n) = true := by kernel_rfl) (hn : Nat.ble n (zr P none c).bx.length = true := by kernel_rfl) (hE : Nat.ble E.length n = true := by kernel_rfl)
 (hs : n1c (zr P none c) = some J := by kernel_rfl) : G P Q A c W :=
 b0s I hr fun A W I => by
  have I2 := I.dropB n (Nat.le_of_ble_eq_true hE) hw2 (Nat.le_of_ble_eq_true hn)
  rw [hb A] at I2
  have h := h (A.take n) W (uOf (zr P none c) A) I2
  have hf := hf A
  have hla : (A.take n).length = n := by rw [List.length_take, I.len]; exact Nat.min_eq_left (Nat.le_of_ble_eq_true hn)
  have h3 := q0i (A := A.take n) (A.drop n) hla (hw (uOf (zr P none c) A))
  rw [List.take_append_drop] at h3
  unfold act at h
  rw [← h3, ← hf] at h
  clear hb hf h3 hw hw2 hn I2
  generalize zr P none c = c at *
  refine ⟨?_⟩
  obtain ⟨cf, cb, rg, ks⟩ := c
  cases rg with
  | pl => cases hs
  | dr => cases hs
  | one => cases hs
  | ret => cases hs
  | off =>
   cases ks with
   | nil => cases hs
   | cons k ks =>
    cases k with
    | block => cases hs
    | code => cases hs
    | stop J' =>
     obtain rfl : J' = J := Option.some.inj hs
     exact h
end
/-! ### Rows -/
def wrF (b : Nat) (k : IntKind) (p : OA) (xs : List Nat) : PF :=
 ⟨fun w => Wr w b k p xs, fun a => 0 < xs.length ∧ blk p = a, fun _ _ h hb _ => h.same fun hp => hb _ (h.rd.lt hp) ⟨hp, rfl⟩, fun _ _ h hf => hf.2 ▸ h.rd.lt hf.1⟩
theorem OwnV.apart {w : World} {base : Nat} {e : TypeId} {p : OA} {c : Nat} {vs : List Value} (h : OwnV w base e p c vs) {b2 : Nat} {k : IntKind} {e2 : TypeId} {q : OA} {c2 : Nat} {xs : List Nat} (o : Own w b2 k e2 q c2 xs) (hne : Nat.beq e2 e = false) (hp : p.isSome = true) : ¬ (q.isSome = true ∧ blk q = blk p) :=
 OwnS.apart (s := 1) (n := vs.length) h o hne hp
theorem u1h {w w' : World} (h : Below w.heap.size w w') (q : Option Nat) : w.grownBy w' q := ⟨h.os, h.tape, h.output, h.size, fun b hb _ => h.block b hb⟩
theorem k1g {a w w' : World} {q : Option Nat} (h : a.grownBy w q) (k : w.grownBy w' q) : a.grownBy w' q :=
 ⟨k.os.trans h.os, k.tape.trans h.tape, k.output.trans h.output, Nat.le_trans h.size k.size, fun b hb hn => (k.block b (Nat.lt_of_lt_of_le hb h.size) hn).trans (h.block b hb hn)⟩
theorem g1d {a w : World} {q : Option Nat} (h : a.grownBy w q) : a.grownBy w.drew q := ⟨h.os, h.tape, h.output, h.size, h.block⟩
theorem n1i {P : Program} {w : World} {src dt e : TypeId} (hs : P.underlying src = some (.slice e)) (he : P.underlying e = some (.int .u8)) (hd : P.underlying dt = some .string) {p : OA} {n c : Nat} {xs : List Nat} (hr : Rd w .u8 p xs) (hn : n = xs.length) :
 (VO.cv src dt (.slice p n c)).sem.run P w = .ok (.string (a0d xs)) w := i0m (P := P) w src dt e hs he hd p n c xs hr hn
theorem n1j {P : Program} {w : World} {ty : TypeId} {k : IntKind} {p : OA} {xs : List Nat} (hr : Rd w k p xs) (hT : k0o P ty) {m x : Nat} (hm : m < xs.length) (h : dg xs m = x) : (VO.ld ty (.pointer (some (at_ p m)))).sem.run P w = .ok (.int k (x : Int)) w := by
 subst h
 exact n0j hr.v hT (by rw [List.getElem?_map, List.getElem?_eq_getElem hm, a0s hm]; rfl)
theorem t0o {P : Program} (w : World) {t e : TypeId} {z : Value} {bytes : Nat} (hty : l0n P t e z bytes) (ty : TypeId) (base : Nat) (p : OA) (c : Nat) (xs : List Value) (hown : OwnV w base e p c xs)
 (q : OA) (c2 : Nat) (ys : List Value) (hrd : RdV w q ys) (hone : ys.all (·.oneCell') = true) (hb : (xs.length + ys.length) * bytes ≤ 140737488355328) (h63 : xs.length + ys.length ≤ maxLen) (hbase : base ≤ w.heap.size) :
 ∃ p' c' w', (Builtin.append_ #[t, t] ty #[.slice p xs.length c, .slice q ys.length c2]).run P w = .ok (.slice p' (xs.length + ys.length) c') w' ∧ OwnV w' base e p' c' (xs ++ ys) ∧
  w.grownBy w' (p.map (·.block)) ∧ (p'.isSome = true → (p.isSome = true ∧ blk p' = blk p) ∨ blk p' = w.heap.size) := by
 obtain ⟨i, hi, hz, hs, hbt⟩ := hty.hi
 by_cases hq : q = none
 · have h0 : ys = [] := by
    rcases Nat.eq_zero_or_pos ys.length with h | h
    · exact List.eq_nil_of_length_eq_zero h
    · have := (hrd.solid h).1; simp [hq] at this
   subst h0 hq
   refine ⟨p, c, w, ?_, by simpa using hown, ⟨rfl, rfl, rfl, Nat.le_refl _, fun _ _ _ => rfl⟩, fun h => .inl ⟨h, rfl⟩⟩
   have hle := hown.le_cap
   rcases hown.form with ⟨rfl, rfl, rfl⟩ | ⟨g, rfl, _⟩
   · simp [Builtin.append_, run_underlying hty.ht, sizeOf, typeInfo, hi, Builtin.lenOf, Builtin.firstCells]
   · simp [Builtin.append_, run_underlying hty.ht, sizeOf, typeInfo, hi, Builtin.lenOf, Builtin.firstCells, hle, storeCells]
 · obtain ⟨b, rfl⟩ := Option.ne_none_iff_exists'.1 hq
   have hnews : ∀ j u, ys[j]? = some u → w.cell? (b.add j) = some u := by
    intro j u hu
    have hj : j < ys.length := (List.getElem?_eq_some_iff.1 hu).1
    have h1 := hrd.cells j hj
    have h2 := d1t (some b) ys.length j hrd.solid (by omega)
    simp only [Option.getD_some] at h2
    rw [h2, h1, hu]
   obtain ⟨v', w', hr, ho, hg, hn, hat⟩ := run_append_own_at (P := P) w base t ty e i z 1 bytes hty.ht hi hz hs hbt (by rw [hty.hz]; rfl) (by omega) _ _ _ hown b ys.length c2 ys (by simp) hnews (fun u hu => List.all_eq_true.1 hone u hu) h63 hb hbase
   have hv : ∃ p' c', v' = .slice p' (xs.length + ys.length) c' := by
    rcases ho.2 with ⟨h1, h2⟩ | ⟨g, cap, cur, h1, _⟩
    · exact ⟨none, 0, by rw [h1]; congr 1; omega⟩
    · exact ⟨_, _, h1⟩
   obtain ⟨p', c', rfl⟩ := hv
   refine ⟨p', c', w', hr, by unfold OwnV; rw [List.length_append]; exact ho, by cases p <;> exact hg, fun hp' => ?_⟩
   cases p' with
   | none => cases hp'
   | some a' =>
    rcases hat with h1 | h1
    · cases p with
      | none => cases h1
      | some b => exact .inl ⟨rfl, Option.some.inj h1⟩
    · exact .inr (Option.some.inj h1)
section
variable {P : Program} {Q : Exit → Act → World → Prop} {E : List Nat} {w0 : World} {A : List Nat} {fs : List PF} {f : PF} {W W' : World} {c : Cfg}
theorem Inv.addNew {bx : List Box} (I : Inv E w0 A bx fs W) (hb : Below W.heap.size W W') (f : PF) (hf : f.prop W') (hfo : ∀ a, f.foot a → W.heap.size ≤ a) : Inv E w0 A bx (f :: fs) W' :=
 (I.past hb).add f hf fun a ha h => by
  have := I.lt a ha
  have := hfo a h
  omega
theorem Inv.redo {bx : List Box} (I : Inv E w0 A bx (f :: fs) W) (q : Option Nat) (hg : W.grownBy W' q) (hq : ∀ k, q = some k → f.foot k ∧ w0.heap.size ≤ k ∧ PF.far k fs) (hrw : t0n bx = true) (g : PF) (hp : g.prop W') (hfo : ∀ a, g.foot a → f.foot a ∨ W.heap.size ≤ a) : Inv E w0 A bx (g :: fs) W' := by
 refine ⟨⟨hg.os.trans I.bel.os, hg.tape.trans I.bel.tape, hg.output.trans I.bel.output, Nat.le_trans I.bel.size hg.size, fun j hj hjE => ?_⟩, I.ge, I.nd, I.len, I.pre, fun j hj => ?_, ⟨hp, ?_⟩, fun a ha => ⟨fun h => ?_, (I.far a ha).2⟩⟩
 · rw [hg.block j (Nat.lt_of_lt_of_le hj I.bel.size) fun e => by have := (hq j e.symm).2.1; omega]
   exact I.bel.block j hj hjE
 · have hF : Fa A bx (lk 0 A j) := ⟨j, hj, l0x hrw j hj, rfl⟩
   have h1 := I.bt j hj
   unfold Bt at h1 ⊢
   rw [hg.block _ (I.lt _ hF) fun e => (I.far _ hF).1 (hq _ e.symm).1]
   exact h1
 · exact PF.all_keep hg.size I.fa.2 fun b hb ha => hg.block b hb fun e => ha _ (hq _ e.symm).2.2 rfl
 · rcases hfo a h with h | h
   · exact (I.far a ha).1 h
   · have := I.lt a ha
     omega
theorem Inv.pk {bx : List Box} (I : Inv E w0 A bx (f :: fs) W) (is : List Nat) : Inv E w0 A bx (f :: Go.Slip.pick is fs) W := by
 have h1 := I.pick (0 :: is.map (· + 1))
 have : ∀ is : List Nat, Go.Slip.pick (is.map (· + 1)) (f :: fs) = Go.Slip.pick is fs := fun is => by
  induction is with
  | nil => rfl
  | cons i is ih => show _ :: _ = _ :: _; rw [ih]; rfl
 have h2 : Go.Slip.pick (0 :: is.map (· + 1)) (f :: fs) = f :: Go.Slip.pick is fs := by rw [← this is]; rfl
 rw [h2] at h1
 exact h1
/-! ### Operations that write -/
inductive WO where
 | st (t : TypeId) (x y : Value)
 | ap (t ty : TypeId) (s x : Value)
 | mk (t : TypeId) (n m : Value)
 | cv (s d : TypeId) (x : Value)
def WO.run (P : Program) (w w' : World) (v : Value) : WO → Prop
 | .st t x y => (Instr.storeAt t x y).run P w = .ok () w' ∧ v = undef
 | .ap t ty s x => (Builtin.append_ #[t, t] ty #[s, x]).run P w = .ok v w'
 | .mk t n m => (Instr.makeSlice t n m).run P w = .ok v w'
 | .cv s d x => (convert s d x).run P w = .ok v w'
def woOf (c : Cfg) (A : List Nat) : Option WO :=
 match hdOp c with
 | some ⟨_, .store t x y, _, _, _, _⟩ => some (.st t (evr A c.fr x) (evr A c.fr y))
 | some ⟨_, .makeSlice t n m, _, _, _, _⟩ => some (.mk t (evr A c.fr n) (evr A c.fr m))
 | some ⟨_, .convert s d x, _, _, _, _⟩ => some (.cv s d (evr A c.fr x))
 | some ⟨_, .call ⟨.builtin .append, ⟨[s, x]⟩, ⟨[t, t']⟩⟩, ty, _, _, _⟩ => match Nat.beq t t' with
  | true => some (.ap t ty (evr A c.fr s) (evr A c.fr x))
  | false => none
 | _ => none
theorem s1k {ops : Array Oper} {o : Oper} {a : Act} {K : Act → World → Prop} (d : Option Tmp) (hd : o.dst = d) (v : Value) (hw : Region.wanted o (yielded ops a.tmps) = true) (hr : (execOp a.eval o).run P W = .ok (.value v) W' ∨ (execOp a.eval o).run P W = .ok .skip W' ∧ v = undef) (h : K (a.put d v) W') : OpW P ops Q o K a W := by
 rcases hr with hr | ⟨hr, rfl⟩
 · subst hd
   refine ⟨?_⟩
   rw [if_pos hw]
   unfold Oper.wp
   rw [hr]
   exact h
 · exact j1e d hd hw hr h
theorem zdo {ι : Type} (I : Inv E w0 A c.bx fs W) (d : Option Nat) {wo : List Nat → WO} (v : ι → Value) (gs : ι → List PF)
 (hx : ∀ A W, Inv E w0 A (zr P d c).bx fs W → ∃ x W', (wo A).run P W W' (v x) ∧ Inv E w0 A (zr P d c).bx (gs x) W')
 (h : ∀ A W x, Inv E w0 A (putc (zr P d c) (.v (v x))).bx (gs x) W → G P Q A (putc (zr P d c) (.v (v x))) W)
 (hv : ∀ A, woOf (zr P d c) A = some (wo A))
 (hr : ∀ A w, (zms P d 5000 c A w).map (·.1) = (zms P d 5000 c A w).map (·.2))
 (hm : ok1 (zr P d c).rg (zr P d c).bx = ok2 (zr P d c).rg) : G P Q A c W :=
 b0s I hr fun A W I => by
  have hv := hv A
  obtain ⟨x, W', hx, J⟩ := hx A W I
  have h := h A W' x J
  clear hr
  generalize wo A = wo at hv hx
  generalize zr P d c = c at *
  generalize v x = v at *
  have ho : ∃ o, nxt c.rg = some o ∧ wnt (s0s c.rg) c.fr o = true ∧ ((execOp (evr A c.fr) o).run P W = .ok (.value v) W' ∨ (execOp (evr A c.fr) o).run P W = .ok .skip W' ∧ v = undef) := by
   have hh : ∀ o, hdOp c = some o → nxt c.rg = some o ∧ wnt (s0s c.rg) c.fr o = true := fun o h => by
    unfold hdOp at h
    split at h
    · split at h
      · rename_i hn _ hw
        cases h
        exact ⟨hn, hw⟩
      · cases h
    · cases h
   unfold woOf at hv
   split at hv
   · rename_i ho
     refine ⟨_, (hh _ ho).1, (hh _ ho).2, .inr ?_⟩
     cases hv
     refine ⟨?_, hx.2⟩
     unfold execOp
     simp only [Sem.run_bind, hx.1, Result.andThen_ok, Sem.run_pure]
   · rename_i ho
     refine ⟨_, (hh _ ho).1, (hh _ ho).2, .inl ?_⟩
     cases hv
     unfold execOp
     unfold WO.run at hx
     simp only [Sem.run_bind, hx, Result.andThen_ok, Sem.run_pure]
   · rename_i ho
     refine ⟨_, (hh _ ho).1, (hh _ ho).2, .inl ?_⟩
     cases hv
     unfold execOp
     unfold WO.run at hx
     simp only [Sem.run_bind, hx, Result.andThen_ok, Sem.run_pure]
   · rename_i ho
     refine ⟨_, (hh _ ho).1, (hh _ ho).2, .inl ?_⟩
     split at hv
     · rename_i hbeq
       have htt := Nat.eq_of_beq_eq_true hbeq
       subst htt
       cases hv
       unfold execOp
       unfold WO.run at hx
       simp only [resolve, invoke, builtin, Sem.run_bind, Sem.run_pure, Result.andThen_ok, List.map_toArray, List.map_cons, List.map_nil, hx]
     · cases hv
   · cases hv
  obtain ⟨o, hn, hw, ho⟩ := ho
  refine G_op (E := E) (w0 := w0) (fs := gs x) hn fun K hK => s1k o.dst rfl v (by rw [f0c]; exact hw) (by rw [c0a]; exact ho) ?_
  unfold putc at h
  rw [hn] at h
  have := hK A W' _ c.bx (List.prefix_refl _) J hm h
  rw [show v = (SV.v v).r A from rfl, d0b]
  exact this
theorem zput {e : TypeId} {p : OA} {cc : Nat} {vs us : List Value} (I : Inv E w0 A c.bx (i0j w0.heap.size e p cc vs :: fs) W) (is : List Nat) {ts : TypeId} {z : Value} {bytes : Nat} (hty : l0n P ts e z bytes) (j : Nat) (v : Value) (hj : j < vs.length) (hu : vs.set j v = us)
 (hfar : ∀ A W, Inv E w0 A (zr P none c).bx (i0j w0.heap.size e p cc vs :: fs) W → p.isSome = true → PF.far (blk p) (pick is fs))
 (h : ∀ A W, Inv E w0 A (putc (zr P none c) (.v undef)).bx (i0j w0.heap.size e p cc us :: pick is fs) W → G P Q A (putc (zr P none c) (.v undef)) W)
 (h1 : v.cells = #[v] := by rfl) (h5 : v.oneCell' = true := by rfl)
 (hv : ∀ A, woOf (zr P none c) A = some (.st e (.pointer (some (at_ p j))) v) := by intro _; kernel_rfl)
 (hr : ∀ A w, (zms P none 5000 c A w).map (·.1) = (zms P none 5000 c A w).map (·.2) := by intro _ _; kernel_rfl)
 (hrw : t0n (zr P none c).bx = true := by kernel_rfl)
 (hm : ok1 (zr P none c).rg (zr P none c).bx = ok2 (zr P none c).rg := by kernel_rfl) : G P Q A c W := by
 subst hu
 refine zdo (ι := Unit) I none (fun _ => undef) (fun _ => i0j w0.heap.size e p cc (vs.set j v) :: pick is fs) (fun A W I => ?_) (fun A W _ I => h A W I) hv hr hm
 have hown := I.fa.1
 have hs := o1q hown j hj v
 have h3 := hown.rd.cells j hj
 rw [List.getElem?_eq_getElem hj] at h3
 have hps : p.isSome = true := (hown.rd.solid (by omega)).1
 obtain ⟨i, hi, hz, hsz, hb⟩ := hty.hi
 refine ⟨(), _, ⟨?_, rfl⟩, (I.pk is).redo (some (blk p)) hs.2.1 (fun k hk => ?_) hrw _ hs.1 fun a h => .inl h⟩
 · simp only [Instr.storeAt, Instr.sureAddr]
   have ha : (at_ p j).add 0 = at_ p j := by simp [Addr.add]
   simp [storeVar, sizeOf, typeInfo, hi, hsz, h1, storeCells, ha]
   rw [run_store P W _ v _ h5, h3]
   simp [o1r hown j hj]
 · cases hk
   exact ⟨⟨hps, rfl⟩, hs.2.2, hfar A W I hps⟩
theorem zapv {e : TypeId} {p : OA} {cc : Nat} {vs us : List Value} (I : Inv E w0 A c.bx (i0j w0.heap.size e p cc vs :: fs) W) (is : List Nat) {t : TypeId} {z : Value} {bytes : Nat} (hty : l0n P t e z bytes) (ty n m l : Nat) (q : List Nat → OA) (c2 : Nat) (ys : List Value) (hn : n = vs.length) (hm2 : m = ys.length) (hl : n + m = l) (hb : l ≤ 4000000000) (hu : vs ++ ys = us)
 (hrd : ∀ A W, Inv E w0 A (zr P none c).bx (i0j w0.heap.size e p cc vs :: fs) W → RdV W (q A) ys)
 (hfar : ∀ A W, Inv E w0 A (zr P none c).bx (i0j w0.heap.size e p cc vs :: fs) W → p.isSome = true → PF.far (blk p) (pick is fs))
 (h : ∀ A W p' c', Inv E w0 A (putc (zr P none c) (.v (.slice p' l c'))).bx (i0j w0.heap.size e p' c' us :: pick is fs) W → G P Q A (putc (zr P none c) (.v (.slice p' l c'))) W)
 (hone : ys.all (·.oneCell') = true := by rfl)
 (hv : ∀ A, woOf (zr P none c) A = some (.ap t ty (.slice p n cc) (.slice (q A) m c2)) := by intro _; kernel_rfl)
 (hr : ∀ A w, (zms P none 5000 c A w).map (·.1) = (zms P none 5000 c A w).map (·.2) := by intro _ _; kernel_rfl)
 (hrw : t0n (zr P none c).bx = true := by kernel_rfl)
 (hm : ok1 (zr P none c).rg (zr P none c).bx = ok2 (zr P none c).rg := by kernel_rfl) : G P Q A c W := by
 subst hu hn hm2 hl
 refine zdo (ι := OA × Nat) I none (fun x => .slice x.1 (vs.length + ys.length) x.2) (fun x => i0j w0.heap.size e x.1 x.2 (vs ++ ys) :: pick is fs) (fun A W I => ?_) (fun A W x I => h A W x.1 x.2 I) hv hr hm
 have hown := I.fa.1
 obtain ⟨p', c', W', h1, h2, h3, h4⟩ := t0o (P := P) W hty ty w0.heap.size p cc vs hown (q A) c2 ys (hrd A W I) hone (by have := Nat.mul_le_mul hb hty.le; omega) (by simp only [maxLen]; omega) I.bel.size
 refine ⟨(p', c'), W', h1, (I.pk is).redo (p.map (·.block)) h3 (fun k hk => ?_) hrw _ h2 fun a ha => ?_⟩
 · cases p with
   | none => cases hk
   | some a =>
    cases hk
    exact ⟨⟨rfl, rfl⟩, (hown.blk_lt rfl).1, hfar A W I rfl⟩
 · rcases h4 ha.1 with h | h
   · exact .inl ⟨h.1, h.2.symm.trans ha.2⟩
   · exact .inr (Nat.le_of_eq (h.symm.trans ha.2))
theorem zmk (I : Inv E w0 A c.bx fs W) (d : Nat) {t e : TypeId} {z : Value} {bytes : Nat} (hty : l0n P t e z bytes) (n : Nat) (us : List Value) (hb : n ≤ 4000000000) (hu : List.replicate n z = us)
 (h : ∀ A W p c', Inv E w0 A (putc (zr P (some d) c) (.v (.slice p n c'))).bx (i0j w0.heap.size e p c' us :: fs) W → G P Q A (putc (zr P (some d) c) (.v (.slice p n c'))) W)
 (hv : ∀ A, woOf (zr P (some d) c) A = some (.mk t (.int .i64 (n : Int)) (.int .i64 (n : Int))) := by intro _; kernel_rfl)
 (hr : ∀ A w, (zms P (some d) 5000 c A w).map (·.1) = (zms P (some d) 5000 c A w).map (·.2) := by intro _ _; kernel_rfl)
 (hm : ok1 (zr P (some d) c).rg (zr P (some d) c).bx = ok2 (zr P (some d) c).rg := by kernel_rfl) : G P Q A c W := by
 subst hu
 refine zdo (ι := OA × Nat) I (some d) (fun x => .slice x.1 n x.2) (fun x => i0j w0.heap.size e x.1 x.2 (List.replicate n z) :: fs) (fun A W I => ?_) (fun A W x I => h A W x.1 x.2 I) hv hr hm
 obtain ⟨i, hi, hz, hs, hbt⟩ := hty.hi
 obtain ⟨W', hr, h1, h2⟩ := run_make_full (P := P) W W.heap.size t e i z 1 hty.ht hi hz hs .i64 .i64 n (by rw [hbt]; have := Nat.mul_le_mul hty.le hb; omega) (by simp only [maxLen]; omega) (Nat.le_refl _)
 have h3 : OwnV W' W.heap.size e (some ⟨W.heap.size, 0, none⟩) n (List.replicate n z) := by
  unfold OwnV
  rw [List.length_replicate]
  have : (madeCells (Value.cells z) (n * 1)).toList = List.replicate n z := by
   rw [Nat.mul_one, hty.hz]; exact toList_madeCells_one _ _
  rw [← this]
  exact h1
 exact ⟨(_, _), W', hr, I.addNew (c0i h2 (Nat.le_refl _) fun k hk => by cases hk) _ (h3.mono I.bel.size) fun a ha => ha.2 ▸ (h3.blk_lt ha.1).1⟩
theorem zby (I : Inv E w0 A c.bx fs W) (d : Nat) {src dst e : TypeId} (hs : P.underlying src = some .string) (hdt : P.underlying dst = some (.slice e)) (he : P.underlying e = some (.int .u8)) (s : ByteArray)
 (h : ∀ A W p c', Inv E w0 A (putc (zr P (some d) c) (.v (.slice p s.size c'))).bx (wrF w0.heap.size .u8 p (a0b s) :: fs) W → G P Q A (putc (zr P (some d) c) (.v (.slice p s.size c'))) W)
 (hv : ∀ A, woOf (zr P (some d) c) A = some (.cv src dst (.string s)) := by intro _; kernel_rfl)
 (hr : ∀ A w, (zms P (some d) 5000 c A w).map (·.1) = (zms P (some d) 5000 c A w).map (·.2) := by intro _ _; kernel_rfl)
 (hm : ok1 (zr P (some d) c).rg (zr P (some d) c).bx = ok2 (zr P (some d) c).rg := by kernel_rfl) : G P Q A c W := by
 refine zdo (ι := OA × Nat) I (some d) (fun x => .slice x.1 s.size x.2) (fun x => wrF w0.heap.size .u8 x.1 (a0b s) :: fs) (fun A W I => ?_) (fun A W x I => h A W x.1 x.2 I) hv hr hm
 have h3 := s0x W e s
 exact ⟨(_, _), _, Lib.run_convert_string_bytes (P := P) W src dst e s hs hdt he, I.addNew (f0i (Nat.le_refl _) e s) _ (h3.mono I.bel.size) fun a ha => ha.2 ▸ h3.from_ ha.1⟩
theorem zsp {g : PF} (I : Inv E w0 A c.bx (f :: fs) W) (is : List Nat) (q : Nat) {fn : FuncId} {args : List Nat → World → Array Value} {v : Value} (hf : ∀ args w, (callFunc fn args).run P w = .ok (.enter fn args) w)
 (hc : ∀ A W, Inv E w0 A (zr P none c).bx (f :: fs) W → Calls P fn (args A W) W fun e w' => e = .returned v ∧ g.prop w' ∧ W.grownBy w' (some q))
 (hq : ∀ A W, Inv E w0 A (zr P none c).bx (f :: fs) W → f.foot q ∧ w0.heap.size ≤ q ∧ PF.far q (pick is fs)) (hfo : ∀ a, g.foot a → f.foot a)
 (h : ∀ A W, Inv E w0 A (putc (zr P none c) (.v v)).bx (g :: pick is fs) W → G P Q A (putc (zr P none c) (.v v)) W)
 (ho : ∀ A w, a1e (zr P none c) A = some (.func (.func fn) #[] #[], args A w) := by intro _ _; kernel_rfl)
 (hr : ∀ A w, (zms P none 5000 c A w).map (·.1) = (zms P none 5000 c A w).map (·.2) := by intro _ _; kernel_rfl)
 (hrw : t0n (zr P none c).bx = true := by kernel_rfl)
 (hm : ok1 (zr P none c).rg (zr P none c).bx = ok2 (zr P none c).rg := by kernel_rfl) : G P Q A c W :=
 b0s I hr fun A V I => by
  have h := h A
  have ho := a1f (P := P) (W := V) (ho A V) (hf _)
  have hc := hc A V I
  have hq := hq A V I
  unfold k0p at ho
  split at ho
  · rename_i o hn
    split at ho
    · rename_i hw
      refine G_op (E := E) (w0 := w0) (fs := g :: pick is fs) hn fun K hK => o0l o.dst rfl fn _ (by rw [f0c]; exact hw) (by rw [c0a]; exact Option.some.inj ho) (hc.mono fun e W' hp => ?_)
      obtain ⟨rfl, h1, h2⟩ := hp
      have J := (I.pk is).redo (some q) h2 (fun k hk => by cases hk; exact hq) hrw g h1 fun a ha => .inl (hfo a ha)
      refine ⟨_, rfl, ?_⟩
      have := h W' J
      unfold putc at this
      rw [hn] at this
      have := hK A W' _ (zr P none c).bx (List.prefix_refl _) J hm this
      rw [← d0b] at this
      exact this
    · cases ho
  · cases ho
end
def vB (xs : List Nat) : List Value := xs.map fun x : Nat => Value.int .u8 (x : Int)
theorem r0o (xs : List Nat) : (vB xs).length = xs.length := List.length_map ..
theorem n1k (n : Nat) : List.replicate n (Value.int .u8 0) = vB (List.replicate n 0) := by unfold vB; rw [List.map_replicate]; rfl
theorem n1l (xs : List Nat) (i n : Nat) : (vB xs).set i (.int .u8 (n : Int)) = vB (xs.set i n) := by unfold vB; rw [List.map_set]
theorem n1m {w : World} {base : Nat} {e : TypeId} {p : OA} {c : Nat} {xs : List Nat} (h : OwnV w base e p c (vB xs)) : Own w base .u8 e p c xs := j1n h
end Go.Slip
namespace Go.Proofs.YtpgomglbaacmdaaGreatDoor
open Go.RowKit Go.Slip
theorem v0t (p : OA) (n c : Nat) (a d : Nat) (w : World) (hp : Rd w .u32 p (dig B32 a)) (hn : n = (dig B32 a).length) (hl : (dig B32 a).length ≤ 1000000000) (hd0 : 0 < d) (hd1 : d < 4294967296) :
 Calls Tryz.prog 95 #[.slice p n c, .int .u32 d] w fun e w' => ∃ p' c', e = .returned (.tuple #[.slice p' (dig B32 (a / d)).length c', .int .u32 (a % d : Nat)]) ∧
  Own w' w.heap.size .u32 101 p' c' (dig B32 (a / d)) ∧ Below w.heap.size w w' := by
 subst hn
 have HA := hi0 (b0a a0a a)
 have HXL := hi0 (b0d a0a a)
 generalize dig B32 a = xs at hp hl HA HXL ⊢
 have hsx := hp.solid
 go_enter Tryz.func95, Tryz.ntmps95
 go_wp2_with (refine h0s rfl _ _ _ rfl c0c .i64 .i64 xs.length _ _ rfl rfl ?_ ?_ ?_ ?_; omega; omega; omega; intro p1 c1 w1 ho1 hb1 hz1)
 go_loopw [7, 8] (fun rv iv wr => ∃ (k r : Nat) (L : List Nat), iv = .int .i64 ((k : Int) - 1) ∧ rv = .int .u64 r ∧ k ≤ xs.length ∧ r < d ∧ Hid (L.length = xs.length) ∧ Own wr w.heap.size .u32 101 p1 c1 L ∧ Below w.heap.size w wr ∧ Hid (SmallRel B32 L xs d k r))
  (fun _ iv _ => (intOf iv + 1).toNat)
 case atStart => exact ⟨xs.length, 0, _, rfl, rfl, Nat.le_refl _, hd0, List.length_replicate, ho1, hb1, (show SmallRel B32 _ xs d xs.length 0 from ⟨fun x hx => by rw [(List.mem_replicate.1 hx).2]; exact c0n, hd0, by simp⟩)⟩
 case round =>
  obtain ⟨k, r, L, rfl, rfl, hk, hrd, hL, hoL, hbL, HR⟩ := hrel
  have hpL := hp.past hbL
  have hsL := hoL.solid
  rw [hL.out] at hsL
  by_cases h0 : 0 < k
  · obtain ⟨k, rfl⟩ : ∃ j, k = j + 1 := ⟨k - 1, by omega⟩
    have hc1 := hpL.cells k (by omega)
    have hxd := a0n (B := 4294967296) (by omega) xs HXL.out k
    have hor := or32 r (dg xs k) (by omega) hxd
    obtain ⟨HS, HQ⟩ := HR.out.step (by omega) (by rw [hL.out]; omega) (by unfold B32; exact hxd)
    have HS := hi0 HS
    have ej : ((k + 1 : Nat) : Int) - 1 = k := by omega
    rw [ej]
    unfold B32 at HQ
    obtain ⟨t, ht⟩ : ∃ t, t = r * 4294967296 + dg xs k := ⟨_, rfl⟩
    have et : (r : Int) * 4294967296 + (dg xs k : Nat) = (t : Nat) := by omega
    have htb : t < 18446744073709551616 := by omega
    rw [et] at hor
    rw [← ht] at HQ
    have HT := hi0 ht
    have hq0 : (0 : Int) ≤ (t : Int) / (d : Int) := Int.ediv_nonneg (by omega) (by omega)
    have hq1 : (t : Int) / (d : Int) < 4294967296 := by have : ((t / d : Nat) : Int) = (t : Int) / (d : Int) := rfl; omega
    have hd2 : (1 : Int) ≤ (d : Int) := by omega
    have k0 : (0 : Int) ≤ (k : Int) := by omega
    have k1 : (k : Int) < (xs.length : Int) := by omega
    clear ht et hc1
    have hc1 := hpL.cells k (by omega)
    go_wp2_with fail
    clear hc1 hor ej
    have e1 : IntKind.u64.wrap (d : Int) = (d : Int) := IntWalk.u64_in _ (by omega)
    have e2 : ¬ d = 0 := by omega
    have e3 : IntKind.u64.wrap ((t : Int) / (d : Int)) = (t : Int) / (d : Int) := IntWalk.u64_in _ (by omega)
    have e4 : IntKind.u32.wrap ((t : Int) / (d : Int)) = (t : Int) / (d : Int) := IntWalk.u32_in _ (by omega)
    have e5 : (t : Int).tmod (d : Int) = (t : Int) % (d : Int) := Int.tmod_eq_emod_of_nonneg (by omega)
    have hcL := hoL.rd.cells k (by rw [hL.out]; omega)
    have hfL := e0q hoL k (by rw [hL.out]; omega)
    go_region
    obtain ⟨ho3, hg3, hb3⟩ := f0t hoL k (by rw [hL.out]; omega) (t / d)
    clear e1 e2 e3 e4 e5 hcL hfL
    have hb3 := hbL.trans (c0i hg3 hbL.size (fun j hj => by cases hj; exact hb3))
    have ho3 := ho3.drew
    have hb3 := hb3.drew
    have eq : ((t / d : Nat) : Int) = (t : Int) / (d : Int) := rfl
    rw [eq] at ho3 hb3 hg3
    generalize (wr.setCell (at_ p1 k) (.int .u32 ((t : Int) / (d : Int)))).drew = w3 at ho3 hb3 ⊢
    clear eq hg3
    go_wp2
    go_roundw
    case rel =>
     have e6 : r * B32 + dg xs k = t := by rw [HT.out]; rfl
     rw [e6] at HS
     exact ⟨k, t % d, _, rfl, rfl, by omega, Nat.mod_lt _ hd0, (by show (List.set _ _ _).length = _; rw [List.length_set]; exact hL.out), ho3, hb3, HS⟩
    case measure => first | (simp [intOf]; done) | (simp [intOf]; omega)
  · obtain rfl : k = 0 := by omega
    obtain ⟨hv, hm⟩ := HR.out.done HA.out
    have HM := hi0 hm
    have HV := hi0 hv
    clear hv hm
    go_wp2_with (go_at_call 86; refine (f0p _ _ _ L _ hoL.rd hL.out.symm hoL.le_cap HR.out.1 (by rw [hL.out]; omega)).mono ?_; rintro e w3 ⟨rfl, rfl⟩)
    go_ret2
    have ht := b0c a0a L HR.out.1
    have ho2 := hoL.take (dig B32 (val B32 L)).length
    rw [ht, HV.out] at ho2
    refine ⟨p1, c1, ?_, ho2, hbL⟩
    rw [HV.out, ← HM.out]
    rfl
end Go.Proofs.YtpgomglbaacmdaaGreatDoor
